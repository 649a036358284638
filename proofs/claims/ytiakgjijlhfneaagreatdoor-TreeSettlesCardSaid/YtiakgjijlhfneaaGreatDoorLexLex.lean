/-
  The walk of lex's Lex: all words of a text.
-/
import Derived.Test.YtiakgjijlhfneaaGreatDoorLexNextB
import Derived.Test.YtiakgjijlhfneaaGreatDoorLexNextS
import Derived.Test.YtiakgjijlhfneaaGreatDoorLexNextW
namespace Go.Proofs.YtiakgjijlhfneaaGreatDoor
open Go.RowKit

theorem next_any (s : ByteArray) (b k : Nat) (lv : Value) (ts : List Tok) (w : World) (hs : s.size ≤ 4611686018427387904) (hk : k < s.size) (hn : ts.length ≤ 100000)
    (hb : Hx w b [.string s, .int .i64 k, lv] 64) (hrow : TokRow 66 w (b + 1) lv ts) :
    Calls Tryz.prog 30 #[.pointer (some ⟨b, 0, none⟩)] w (NextPost s b ts w (lexStep s k s[k])) := by
  by_cases n1 : s[k] = 40
  · have e : lexStep s k s[k] = some (k + 1, [(3, noText)]) := by simp [lexStep, n1]
    rw [e]; exact next_sign s b k lv ts w hs hk hn hb hrow 3 (Or.inl ⟨rfl, n1⟩)
  by_cases n2 : s[k] = 41
  · have e : lexStep s k s[k] = some (k + 1, [(4, noText)]) := by simp [lexStep, n2]
    rw [e]; exact next_sign s b k lv ts w hs hk hn hb hrow 4 (Or.inr (Or.inl ⟨rfl, n2⟩))
  by_cases n3 : s[k] = 44
  · have e : lexStep s k s[k] = some (k + 1, [(5, noText)]) := by simp [lexStep, n3]
    rw [e]; exact next_sign s b k lv ts w hs hk hn hb hrow 5 (Or.inr (Or.inr ⟨rfl, n3⟩))
  by_cases n4 : s[k] = 32
  · have e : lexStep s k s[k] = some (k + 1, []) := by simp [lexStep, n4]
    rw [e]; exact next_blank s b k lv ts w hs hk hb hrow (Or.inl n4)
  by_cases n5 : s[k] = 9
  · have e : lexStep s k s[k] = some (k + 1, []) := by simp [lexStep, n5]
    rw [e]; exact next_blank s b k lv ts w hs hk hb hrow (Or.inr n5)
  by_cases n6 : s[k] = 34
  · exact next_str s b k lv ts w hs hk hn hb hrow (Or.inl n6)
  by_cases n7 : s[k] = 39
  · exact next_str s b k lv ts w hs hk hn hb hrow (Or.inr n7)
  exact next_word s b k lv ts w hs hk hn hb hrow n1 n2 n3 n4 n5 n6 n7

theorem lexStep_len {s : ByteArray} {k k' : Nat} {c : UInt8} {ts : List Tok} (h : lexStep s k c = some (k', ts)) : ts.length ≤ 1 := by
  unfold lexStep at h
  repeat' split at h
  all_goals simp only [Option.some.injEq, Prod.mk.injEq, reduceCtorEq] at h
  all_goals (obtain ⟨_, rfl⟩ := h; simp)

theorem lexAll_len : ∀ (f : Nat) (s : ByteArray) (k : Nat) (ts : List Tok), lexAll f s k = some ts → ts.length ≤ f := by
  intro f
  induction f with
  | zero => intro s k ts h; simp [lexAll] at h; simp [← h]
  | succ f ih =>
    intro s k ts h
    simp only [lexAll] at h
    split at h
    · rcases hst : lexStep s k s[k] with _ | ⟨k', us⟩
      · rw [hst] at h; cases h
      · rw [hst] at h
        simp only [] at h
        rcases hr : lexAll f s k' with _ | rs
        · rw [hr] at h; cases h
        · rw [hr] at h
          simp only [Option.map_some, Option.some.injEq] at h
          subst h
          have h1 := ih s k' rs hr
          have h2 := lexStep_len hst
          simp; omega
    · simp only [Option.some.injEq] at h; simp [← h]
theorem lexL_len {s : ByteArray} {ts : List Tok} (h : lexL s 0 = some ts) : ts.length ≤ s.size := by
  have := lexAll_len _ _ _ _ h; omega

/-- what the call of Lex leaves -/
def LexPost (E : TypeId) (w : World) : Option (List Tok) → Ending → World → Prop
  | some ts, e, w' => Below w.heap.size w w' ∧ ∃ v : Value, e = .returned (.tuple #[v, .int .i64 0]) ∧ TokRow E w' w.heap.size v ts
  | none, e, w' => Below w.heap.size w w' ∧ e = .returned (.tuple #[.slice none 0 0, .int .i64 8])

def LRel (s : ByteArray) (w : World) (R : Option (List Tok)) (k : Nat) (lv : Value) (acc : List Tok) (wr : World) : Prop :=
  Below w.heap.size w wr ∧ Hx wr w.heap.size [.string s, .int .i64 k, lv] 64 ∧ TokRow 66 wr (w.heap.size + 1) lv acc ∧ k ≤ s.size ∧ acc.length ≤ k ∧ (lexL s k).map (acc ++ ·) = R

set_option maxHeartbeats 4000000 in
theorem lex_any (s : ByteArray) (w : World) (hs : s.size ≤ 4096) :
    Calls Tryz.prog 19 #[.string s] w (LexPost 66 w (lexL s 0)) := by
  obtain ⟨R, HR⟩ : ∃ R, Hid (lexL s 0 = R) := ⟨_, Lib.hid rfl⟩
  rw [HR.out]
  go_enter Tryz.func19, Tryz.ntmps19
  go_wp2_with fail
  go_loopw [16] (fun _ wr => ∃ (k : Nat) (lv : Value) (acc : List Tok), LRel s w R k lv acc wr) (fun _ wr => atMeas w.heap.size s.size wr)
  case atStart =>
    refine ⟨0, .slice none 0 0, [], ?_, (by have hb0 := (Hx.new w #[.string s, .int .i64 0, .slice none 0 0] 64); apply Hx.conv; (case h => (repeat first | with_reducible exact hb0 | with_reducible apply Hx.drewN | with_reducible apply Hx.drew | with_reducible apply Hx.set | with_reducible exact Hx.new _ _ _ | (with_reducible apply Hx.new'; (case hl => rfl); (case hb => (first | omega | (simp; done) | (simp; omega)))) | with_reducible apply Hx.alloc | (with_reducible apply Hx.other; (case hne => (first | omega | (simp; done) | (simp; omega)))))); (case e => (first | rfl | (simp; done) | (simp; omega)))), TokRow.nil _ _ _, by omega, by simp, ?_⟩
    · exact (by have hb0 := (Below.refl w.heap.size w); (repeat first | with_reducible exact hb0 | with_reducible refine BelowN ?_ _ | with_reducible refine Below.drew ?_ | (with_reducible refine Below.alloc ?_ ?_ _; rotate_left; focus (first | omega | (simp; done) | (simp; omega))) | (with_reducible refine Below.setCell ?_ ?_ _; rotate_left; focus (first | omega | (simp; done) | (simp; omega)))))
    · rw [HR.out]; cases R <;> simp
  case round =>
    obtain ⟨k, lv, acc, H⟩ := hrel
    clear HR
    have H4 := H.2.2.2.1
    have H5 := H.2.2.2.2.1
    obtain ⟨gc0, gc1, gc2, gf1, gf2⟩ := rd H.2.1
    by_cases hk : k < s.size
    · have HN := next_any s w.heap.size k lv acc wr (by omega) hk (by omega) H.2.1 H.2.2.1
      rcases hst : lexStep s k s[k] with _ | ⟨k', us⟩
      · have HR2 : R = none := by rw [← H.2.2.2.2.2, lexL_none hk hst]; rfl
        rw [hst] at HN
        clear hst
        subst HR2
        have HN' := Lib.hid HN; clear HN
        go_wp2_with (go_at_call 30; refine (HN'.out).mono ?_; rintro e w1 ⟨rfl, HB1⟩)
        go_ret2
        exact ⟨Below.trans H.1 HB1, rfl⟩
      · have hgt := lexStep_gt hst hk
        have hlen := lexStep_len hst
        have HE := Lib.hid (lexL_some hk hst)
        rw [hst] at HN
        clear hst
        have HN' := Lib.hid HN; clear HN
        go_wp2_with (go_at_call 30; refine (HN'.out).mono ?_; rintro e w1 ⟨rfl, HB1, lv', hb1, hr1⟩)
        go_roundw
        case rel =>
          refine ⟨k', lv', acc ++ us, Below.trans H.1 HB1, hb1, hr1, hgt.2, by simp; omega, ?_⟩
          rw [← H.2.2.2.2.2, HE.out, Option.map_map]
          congr 1
          funext l
          simp
        case measure =>
          rw [atMeas_eq (rd hb1).2.1, atMeas_eq (rd H.2.1).2.1]
          omega
    · have HR2 : R = some acc := by rw [← H.2.2.2.2.2, lexL_end hk]; simp
      subst HR2
      go_wp2_with fail
      go_ret2
      exact ⟨H.1, _, rfl, H.2.2.1.mono (by omega)⟩
end Go.Proofs.YtiakgjijlhfneaaGreatDoor
