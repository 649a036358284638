/-
  The walk of the law LexBlanks: blanks around texts and around a sign change no word.
-/
import Derived.Test.YthabgdhfbcfjgaaLexTokens
import Derived.Test.YthabgdhfbcfjgaaLexKnown
import Derived.Test.YthabgdhfbcfjgaaLexCat
import Derived.Test.YthabgdhfbcfjgaaLexAppRow
import Derived.Test.YthabgdhfbcfjgaaConvOne
namespace Go.Proofs.Ythabgdhfbcfjgaa
open Go.RowKit
def gap (n : Nat) : ByteArray := ⟨(List.replicate n (32 : UInt8)).toArray⟩
theorem gap_size (n : Nat) : (gap n).size = n := by simp [gap, ByteArray.size]
theorem gap_succ (n : Nat) : gap n ++ ⟨#[32]⟩ = gap (n + 1) := by
  apply ByteArray.ext
  apply Array.ext'
  simp [gap, ByteArray.data_append, ← List.replicate_succ']

theorem sign_byte (i : Nat) (h : i < ({ data := #[40, 41, 44] } : ByteArray).size) : ({ data := #[40, 41, 44] } : ByteArray)[i] = 40 ∨ ({ data := #[40, 41, 44] } : ByteArray)[i] = 41 ∨ ({ data := #[40, 41, 44] } : ByteArray)[i] = 44 := by
  have h3 : i < 3 := h
  rcases i with _ | _ | _ | i
  · exact Or.inl rfl
  · exact Or.inr (Or.inl rfl)
  · exact Or.inr (Or.inr rfl)
  · omega
theorem lexL_sign {c : UInt8} (hc : c = 40 ∨ c = 41 ∨ c = 44) : lexL ⟨#[c]⟩ 0 = some [conv (signTok c)] := by
  rw [lexL_all]
  have := lxA_sign [] hc
  rw [lxA_nil] at this
  rw [show (⟨#[c]⟩ : ByteArray).data.toList = [c] from rfl, this]
  rfl

theorem lexL_parts {a b : ByteArray} {c : UInt8} (n : Nat) {X Y : List Tok} (hc : c = 40 ∨ c = 41 ∨ c = 44) (ha : lexL a 0 = some X) (hb : lexL b 0 = some Y) :
    lexL (gap n ++ a ++ gap n ++ ⟨#[c]⟩ ++ gap n ++ b ++ gap n) 0 = some (X ++ [conv (signTok c)] ++ Y) := by
  rw [lexL_all] at ha hb ⊢
  rcases hA : lxA a.data.toList with _ | XA
  · rw [hA] at ha; cases ha
  rcases hB : lxA b.data.toList with _ | YB
  · rw [hB] at hb; cases hb
  rw [hA] at ha; rw [hB] at hb
  simp only [Option.map_some, Option.some.injEq] at ha hb
  subst ha; subst hb
  have e : (gap n ++ a ++ gap n ++ ⟨#[c]⟩ ++ gap n ++ b ++ gap n).data.toList = List.replicate n 32 ++ (a.data.toList ++ (List.replicate n 32 ++ c :: (List.replicate n 32 ++ (b.data.toList ++ List.replicate n 32)))) := by
    simp [gap, ByteArray.data_append]
  rw [e, lxA_all n hc hA hB]
  simp

set_option maxHeartbeats 4000000 in
theorem refLex_big (s : ByteArray) (w : World) (hs : 4096 < s.size) (hm : s.size ≤ maxLen) :
    Calls Try.prog 7 #[.string s] w fun e w' => Below w.heap.size w w' ∧ e = .returned (.tuple #[.slice none 0 0, .int .i64 13]) := by
  unfold maxLen at hm
  go_enter Try.func7, Try.ntmps7
  go_wp2_with fail
  go_ret2
  exact ⟨Below.refl _ _, rfl⟩
theorem refLex_two (s : ByteArray) (hm : s.size ≤ maxLen) : (s.size ≤ 4096 ∧ ∃ X, lexL s 0 = some X ∧ ∀ w, Calls Try.prog 7 #[.string s] w (LexPost 40 w (some X))) ∨
    (∃ c : Int, (c != 0) = true ∧ ∀ w, Calls Try.prog 7 #[.string s] w fun e w' => Below w.heap.size w w' ∧ e = .returned (.tuple #[.slice none 0 0, .int .i64 c])) := by
  rcases Nat.lt_or_ge 4096 s.size with h | h
  · exact Or.inr ⟨13, by decide, fun w => refLex_big s w h hm⟩
  · rcases hR : lexL s 0 with _ | X
    · exact Or.inr ⟨8, by decide, fun w => by have := refLex_any s w h; rw [hR] at this; exact this⟩
    · exact Or.inl ⟨h, X, rfl, fun w => by have := refLex_any s w h; rw [hR] at this; exact this⟩

set_option maxHeartbeats 4000000 in
set_option maxRecDepth 100000 in
theorem lexBlanks_walk (a : ByteArray) (sg : Int) (b : ByteArray) (n : Int) (ha : a.size ≤ maxLen) (_ : (Lit.int .i64 sg).wf = true) (hb : b.size ≤ maxLen) (_ : (Lit.int .i64 n).wf = true) (w : World) :
    Calls Try.prog 4 #[.string a, .int .i64 sg, .string b, .int .i64 n] w fun e w' => e = .returned (.bool true) ∧ w.grownBy w' none := by
  have HA := refLex_two a ha
  have HB := refLex_two b hb
  unfold maxLen at ha hb
  by_cases h1 : (300 : Int) < wrap64 ((a.size : Int) + (b.size : Int))
  · clear HA HB
    go_enter Try.func4, Try.ntmps4
    go_wp2_with fail
    go_ret
    exact ⟨rfl, G.refl _ _⟩
  by_cases h2 : n < 0
  · clear HA HB
    go_enter Try.func4, Try.ntmps4
    go_wp2_with fail
    go_ret
    exact ⟨rfl, G.refl _ _⟩
  by_cases h3 : 50 < n
  · clear HA HB
    go_enter Try.func4, Try.ntmps4
    go_wp2_with fail
    go_ret
    exact ⟨rfl, G.refl _ _⟩
  · obtain ⟨m, rfl⟩ := Int.eq_ofNat_of_zero_le (show 0 ≤ n by omega)
    have HA2 := Lib.hid HA; clear HA
    have HB2 := Lib.hid HB; clear HB
    go_enter Try.func4, Try.ntmps4
    go_wp2_with fail
    go_loop [9, 10] (fun gv iv => ∃ k : Nat, gv = .string (gap k) ∧ iv = .int .i64 k ∧ k ≤ m) (fun _ iv => m - (intOf iv).toNat)
    case atStart => exact ⟨0, rfl, rfl, by omega⟩
    case round =>
      obtain ⟨k, rfl, rfl, hk⟩ := hrel
      have hg1 : ¬ 9223372036854775807 < (gap k).size + 1 := by rw [gap_size]; omega
      by_cases hkm : (k : Int) < (m : Int)
      · go_wp2_with fail
        all_goals exact ⟨⟨k + 1, by rw [gap_succ], by go_num, by omega⟩, by simp [intOf]; omega⟩
      · obtain rfl : k = m := by omega
        have hlo : 0 ≤ (bits .and .i64 sg 1023).tmod 3 := Int.tmod_nonneg 3 (last_bits sg).1
        have hhi : (bits .and .i64 sg 1023).tmod 3 < 3 := Int.tmod_lt_of_pos _ (by decide)
        go_wp2_with fail
        rw [conv_byte 32 5 9 rfl rfl rfl (T := 5) (Hx.new _ _ _)]
        have hc3 := sign_byte ((bits .and .i64 sg 1023).tmod 3).toNat (by show _ < 3; omega)
        generalize ({ data := #[40, 41, 44] } : ByteArray)[((bits .and .i64 sg 1023).tmod 3).toNat]'_ = c at *
        have hg0 : w.grownBy (w.alloc (.cells #[Value.int IntKind.u8 ↑c.toNat] 5)) none := G.alloc (G.refl _ _) _
        generalize (w.alloc (.cells #[Value.int IntKind.u8 ↑c.toNat] 5)) = w0 at *
        have HP := Lib.hid (fun X Y => lexL_parts (a := a) (b := b) (c := c) k (X := X) (Y := Y) hc3)
        have hgs := gap_size k
        generalize gap k = g at *
        have hC := Lib.hid hc3
        clear hg1 hlo hhi hc3
        rcases HA2.out with ⟨hsa, X, hRA, HA⟩ | ⟨ca, hca, HA⟩
        · have HA' := Lib.hid HA; clear HA HA2
          rcases HB2.out with ⟨hsb, Y, hRB, HB⟩ | ⟨cb, hcb, HB⟩
          · have HB' := Lib.hid HB; clear HB HB2
            have hsum : a.size + b.size ≤ 300 := by unfold wrap64 at h1; omega
            have HL' : Hid (∀ w, Calls Try.prog 6 #[.string (g ++ a ++ g ++ ⟨#[c]⟩ ++ g ++ b ++ g)] w (LexPost 42 w (some (X ++ [conv (signTok c)] ++ Y)))) := Lib.hid (fun w => by
              have := lex_any (g ++ a ++ g ++ ⟨#[c]⟩ ++ g ++ b ++ g) w (by simp only [ByteArray.size_append, hgs]; show k + a.size + k + 1 + k + b.size + k ≤ 4096; omega)
              rw [HP.out X Y hRA hRB] at this
              exact this)
            have HS' : Hid (∀ w, Calls Try.prog 7 #[.string ⟨#[c]⟩] w (LexPost 40 w (some [conv (signTok c)]))) := Lib.hid (fun w => by
              have := refLex_any ⟨#[c]⟩ w (by show 1 ≤ 4096; omega)
              rw [lexL_sign hC.out] at this
              exact this)
            have hlX := Lib.hid (lexL_len hRA)
            have hlY := Lib.hid (lexL_len hRB)
            clear HP hRA hRB ha hb h1 h2
            go_wp2_with (first | (go_at_call 7; (with_reducible refine (HA'.out _).mono ?_); rintro e w1 ⟨HB1, v1, rfl, hr1⟩) | (go_at_call 7; (with_reducible refine (HB'.out _).mono ?_); rintro e w2 ⟨HB2, v2, rfl, hr2⟩) | (go_at_call 7; (with_reducible refine (HS'.out _).mono ?_); rintro e w4 ⟨HB4, v4, rfl, hr4⟩; have hr14 := TokRow.kept0 (TokRow.kept0 (TokRow.kept0 hr1 (G.of_below HB2)) (G.of_below HB3)) (G.of_below HB4); have hr24 := TokRow.kept0 (TokRow.kept0 hr2 (G.of_below HB3)) (G.of_below HB4); have hr34 := TokRow.kept0 hr3 (G.of_below HB4); have hz := Lib.hid (And.intro HB1.size (And.intro HB2.size (And.intro HB3.size HB4.size)))) | (go_at_call 6; (with_reducible refine (HL'.out _).mono ?_); rintro e w3 ⟨HB3, v3, rfl, hr3⟩) | (at_builtin; refine wpList_append_toks rfl (.tmp 90) (.tmp 91) 26 40 rfl rfl info_rtok w0.heap.size _ _ _ X [conv (signTok c)] rfl rfl (fun v5 w5 hr5 hg5 => ?_) ⟨hr14, hr4, by have := hz.out; omega, by have := hlX.out; omega, by simp⟩; have hr25 := TokRow.kept_later hr24 hr1 (Nat.le_refl _) hg5; have hr35 := TokRow.kept_other hr34 hr14 (by decide) hg5) | (at_builtin; refine wpList_append_toks rfl (.tmp 92) (.tmp 93) 26 40 rfl rfl info_rtok w0.heap.size w1.heap.size _ _ (X ++ [conv (signTok c)]) Y rfl rfl (fun v6 w6 hr6 hg6 => ?_) ⟨hr5, hr25, by have := hz.out; have := hg5.size; omega, by have := hlX.out; simp; omega, by have := hlY.out; omega⟩; have hr36 := TokRow.kept_other hr35 hr5 (by decide) hg6) | (go_at_call 8; refine (tokens_any _ _ _ _ _ _ _ hr36 hr6 (by have := hlX.out; have := hlY.out; simp; omega) (by have := hlX.out; have := hlY.out; simp; omega)).mono ?_; rintro e w7 ⟨rfl, hg7⟩) | (go_at_call 9; refine (known_any _).mono ?_; rintro e w8 ⟨rfl, hg8⟩))
            go_ret
            have k4 : w0.grownBy w4 none := G.trans (G.trans (G.trans (G.of_below HB1) (G.of_below HB2)) (G.of_below HB3)) (G.of_below HB4)
            have k5 : w0.grownBy w5 none := G.trans' k4 hg5 (fun c hc => Or.inl (hr1.lt c hc).1)
            have k6 : w0.grownBy w6 none := G.trans' k5 hg6 (fun c hc => Or.inl (hr5.lt c hc).1)
            exact ⟨rfl, G.trans hg0 (G.trans (G.trans k6 hg7) hg8)⟩
          · have HB' := Lib.hid HB; clear HB HB2 HP
            go_wp2_with (first | (go_at_call 7; (with_reducible refine (HA'.out _).mono ?_); rintro e w1 ⟨HB1, v1, rfl, hr1⟩) | (go_at_call 7; (with_reducible refine (HB'.out _).mono ?_); rintro e w2 ⟨HB2, rfl⟩) | (go_at_call 9; refine (known_any _).mono ?_; rintro e w4 ⟨rfl, hg4⟩))
            go_ret
            exact ⟨rfl, G.trans (G.trans (G.trans hg0 (G.of_below HB1)) (G.of_below HB2)) hg4⟩
        · have HA' := Lib.hid HA; clear HA HA2 HP
          rcases HB2.out with ⟨hsb, Y, hRB, HB⟩ | ⟨cb, hcb, HB⟩
          · have HB' := Lib.hid HB; clear HB HB2
            go_wp2_with (first | (go_at_call 7; (with_reducible refine (HA'.out _).mono ?_); rintro e w1 ⟨HB1, rfl⟩) | (go_at_call 7; (with_reducible refine (HB'.out _).mono ?_); rintro e w2 ⟨HB2, v2, rfl, hr2⟩) | (go_at_call 9; refine (known_any _).mono ?_; rintro e w4 ⟨rfl, hg4⟩))
            go_ret
            exact ⟨rfl, G.trans (G.trans (G.trans hg0 (G.of_below HB1)) (G.of_below HB2)) hg4⟩
          · have HB' := Lib.hid HB; clear HB HB2
            go_wp2_with (first | (go_at_call 7; (with_reducible refine (HA'.out _).mono ?_); rintro e w1 ⟨HB1, rfl⟩) | (go_at_call 7; (with_reducible refine (HB'.out _).mono ?_); rintro e w2 ⟨HB2, rfl⟩) | (go_at_call 9; refine (known_any _).mono ?_; rintro e w4 ⟨rfl, hg4⟩))
            go_ret
            exact ⟨rfl, G.trans (G.trans (G.trans hg0 (G.of_below HB1)) (G.of_below HB2)) hg4⟩
end Go.Proofs.Ythabgdhfbcfjgaa
