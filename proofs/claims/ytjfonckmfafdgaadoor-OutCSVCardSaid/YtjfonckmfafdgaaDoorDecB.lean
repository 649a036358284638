/-
  The walks of the reference's numbers in digits, and of its values in digits.
  The walk of the reference's Print.
  A value in digits, read again, is that value; noughts ahead and behind change nothing; a seventh digit rounds.
  The walk of the reference's Print.
-/
import Derived.Test.YtjfonckmfafdgaaDoorDecPrint
import Derived.Test.YtjfonckmfafdgaaDoorDecA
namespace Go.Proofs.YtjfonckmfafdgaaDoor
open Go.RowKit
theorem decDigits_small {u : Nat} (h : u / 10 = 0) : Lib.decDigits u = [UInt8.ofNat (48 + u % 10)] := by
  rw [Lib.decDigits, dif_pos (by omega), Nat.mod_eq_of_lt (by omega)]
theorem decDigits_big {u : Nat} (h : ¬ u / 10 = 0) : Lib.decDigits u = Lib.decDigits (u / 10) ++ [UInt8.ofNat (48 + u % 10)] := by
  rw [Lib.decDigits, dif_neg (by omega)]
set_option maxHeartbeats 4000000 in
set_option maxRecDepth 100000 in
theorem plain_any (u0 : Nat) (w : World) (hu : u0 < 18446744073709551616) :
    Calls Tryd.prog 48 #[.int .u64 u0] w fun e w' => ∃ Z : ByteArray, e = .returned (.string Z) ∧ Z.data.toList = Lib.decDigits u0 ∧ Z.size ≤ 20 ∧ w.grownBy w' none := by
  obtain ⟨R, HR⟩ : ∃ R, Hid (Lib.decDigits u0 = R) := ⟨_, Lib.hid rfl⟩
  have hl : R.length ≤ 20 := by rw [← HR.out]; exact decDigits_len (by omega)
  have HL := Lib.hid hl; clear hl
  rw [HR.out]
  have hu' := Lib.hid hu; clear hu
  go_enter Tryd.func48, Tryd.ntmps48
  go_wp2_with fail
  go_loopw [0, 3] (fun uv sv wr => ∃ (u : Nat) (t : ByteArray), uv = .int .u64 u ∧ sv = .string t ∧ Hid (u < 18446744073709551616) ∧ w.grownBy wr none ∧ Hid (Lib.decDigits u ++ t.data.toList = R)) (fun uv _ _ => (intOf uv).toNat + 1)
  case atStart => exact ⟨u0, ⟨#[]⟩, rfl, rfl, hu', G.refl _ _, Lib.hid (by rw [HR.out]; simp)⟩
  case round =>
    obtain ⟨u, t, rfl, rfl, hu, HG, H⟩ := hrel
    clear HR hu'
    have hts : t.size ≤ 20 := by
      have h1 := congrArg List.length H.out
      have h2 := HL.out
      rw [List.length_append] at h1
      have e1 : t.data.toList.length = t.size := by simp
      omega
    have hu0 : (0 : Int) ≤ (u : Int) := by omega
    have hu1 : (u : Int) / 10 ≤ 2000000000000000000 := by have := hu.out; omega
    have hu2 : (u : Int) % 10 < 10 := by omega
    have hu3 : (0 : Int) ≤ (u : Int) % 10 := by omega
    have hcv : ∀ W b, Hx W b [.int .u8 (48 + (u : Int) % 10)] 5 → (convert 37 9 (.slice (some ⟨b, 0, none⟩) 1 1)).run Tryd.prog W = .ok (.string ⟨#[UInt8.ofNat (48 + u % 10)]⟩) W := by
      intro W b h
      rw [conv_one 37 5 9 Tryd.underlying37 Tryd.underlying5 Tryd.underlying9 h]
      rw [show (48 + (u : Int) % 10).toNat = 48 + u % 10 from by omega]
    have hcv' := Lib.hid hcv; clear hcv
    by_cases hz : u / 10 = 0
    · have HS := Lib.hid (decDigits_small hz)
      have hz2 : (u : Int) / 10 = 0 := by omega
      have hz3 : ((u : Int) / 10 == 0) = true := by simp; omega
      clear hz
      go_wp2_with fail
      rw [hcv'.out _ _ (Hx.new _ _ _)]
      go_wp2_with fail
      go_ret
      refine ⟨_, rfl, ?_, ?_, (by exact G.go HG)⟩
      · rw [← H.out, HS.out]; simp [ByteArray.data_append]
      · have h1 := congrArg List.length H.out
        have h2 := HL.out
        rw [HS.out] at h1
        simp at h1
        have e1 : t.data.size = t.size := rfl
        rw [ByteArray.size_append]
        show 1 + t.size ≤ 20
        omega
    · have HS := Lib.hid (decDigits_big hz)
      have hz2 : ¬ (u : Int) / 10 = 0 := by omega
      have hz3 : ((u : Int) / 10 == 0) = false := by simp; omega
      clear hz
      go_wp2_with fail
      rw [hcv'.out _ _ (Hx.new _ _ _)]
      go_wp2_with fail
      refine ⟨⟨u / 10, _, by congr 1, rfl, Lib.hid (by have := hu.out; omega), (by exact G.go HG), Lib.hid ?_⟩, by simp [intOf]; omega⟩
      rw [← H.out, HS.out]; simp [ByteArray.data_append]
theorem ref_nat {x : Int} (k : Nat) (hx : x = k) (hk : k < 18446744073709551616) (w : World) :
    Calls Tryd.prog 48 #[.int .u64 x] w fun e w' => ∃ Z : ByteArray, e = .returned (.string Z) ∧ Z.data.toList = Lib.decDigits k ∧ Z.size ≤ 20 ∧ w.grownBy w' none := by
  subst hx
  exact plain_any k w hk
set_option maxHeartbeats 4000000 in
set_option maxRecDepth 100000 in
theorem refDigits_any (n : Int) (w : World) (h1 : -9223372036854775808 ≤ n) (h2 : n ≤ 9223372036854775807) :
    Calls Tryd.prog 28 #[.int .i64 n] w fun e w' => ∃ Z : ByteArray, e = .returned (.string Z) ∧ Z.data.toList = Lib.itoa n ∧ Z.size ≤ 21 ∧ w.grownBy w' none := by
  by_cases hn : n < 0
  · have HC := Lib.hid (fun w => ref_nat (x := -(n + 1) + 1) n.natAbs (by omega) (by omega) w)
    have hi : Hid (Lib.itoa n = 45 :: Lib.decDigits n.natAbs) := Lib.hid (by unfold Lib.itoa; rw [if_pos hn])
    go_enter Tryd.func28, Tryd.ntmps28
    go_wp2_with fail
    refine (HC.out _).mono ?_
    rintro e wn ⟨Z, rfl, z1, z2, hg⟩
    have Hz := Lib.hid z1; clear z1
    go_wp2_with fail
    go_ret
    refine ⟨_, rfl, ?_, ?_, hg⟩
    · rw [hi.out]; simp [ByteArray.data_append, Hz.out]
    · rw [ByteArray.size_append]; show 1 + Z.size ≤ 21; omega
  · have HC := Lib.hid (fun w => ref_nat (x := n) n.toNat (by omega) (by omega) w)
    have hi : Hid (Lib.itoa n = Lib.decDigits n.toNat) := Lib.hid (by unfold Lib.itoa; rw [if_neg hn])
    go_enter Tryd.func28, Tryd.ntmps28
    go_wp2_with fail
    refine (HC.out _).mono ?_
    rintro e wn ⟨Z, rfl, z1, z2, hg⟩
    go_wp2_with fail
    go_ret
    exact ⟨_, rfl, by rw [hi.out]; exact z1, by omega, hg⟩
end Go.Proofs.YtjfonckmfafdgaaDoor
namespace Go.Proofs.YtjfonckmfafdgaaDoor
open Go.RowKit
theorem refDigits_nat {x : Int} (k : Nat) (hx : x = k) (hk : k < 10 ^ 18) (w : World) :
    Calls Tryd.prog 28 #[.int .i64 x] w fun e w' => ∃ Z : ByteArray, e = .returned (.string Z) ∧ Z.data.toList = Lib.decDigits k ∧ Z.size ≤ 21 ∧ w.grownBy w' none := by
  subst hx
  have := refDigits_any (k : Int) w (by omega) (by omega)
  rw [itoa_nat] at this
  exact this
theorem trim_snoc (l : List UInt8) (c : UInt8) : Lib.trimRightB (l ++ [c]) 48 = if c = 48 then Lib.trimRightB l 48 else l ++ [c] := by
  unfold Lib.trimRightB
  rw [List.reverse_append]
  show ((c :: l.reverse).dropWhile (· == 48)).reverse = _
  by_cases h : c = 48
  · subst h; simp
  · rw [if_neg h, List.dropWhile_cons_of_neg (by simpa using h)]; simp
theorem last_data {t : ByteArray} (h : 0 < t.size) : t.data.toList = t.data.toList.take (t.size - 1) ++ [t[t.size - 1]] := by
  have hl : t.data.toList.length = t.size := by simp
  have h1 := (List.take_append_drop (t.size - 1) t.data.toList).symm
  rw [drop_cons t (t.size - 1) (by omega), drop_end t (t.size - 1 + 1) (by omega)] at h1
  exact h1
theorem trim_pos {t : ByteArray} (h : Lib.trimRightB t.data.toList 48 ≠ []) : 0 < t.size := by
  rcases Nat.eq_zero_or_pos t.size with g | g
  · have : t.data.toList = [] := List.eq_nil_of_length_eq_zero (by simpa using g)
    rw [this] at h
    exact absurd rfl h
  · exact g
theorem trim_step {t : ByteArray} (h : 0 < t.size) (hc : t[t.size - 1] = 48) : Lib.trimRightB (t.extract 0 (t.size - 1)).data.toList 48 = Lib.trimRightB t.data.toList 48 := by
  conv => rhs; rw [last_data h]
  rw [trim_snoc, if_pos hc, Lib.extract_upto]
theorem trim_stop {t : ByteArray} (h : 0 < t.size) (hc : ¬ t[t.size - 1] = 48) : Lib.trimRightB t.data.toList 48 = t.data.toList := by
  conv => lhs; rw [last_data h]
  rw [trim_snoc, if_neg hc]
  exact (last_data h).symm
theorem trim_nil : ∀ (l : List UInt8), Lib.trimRightB l 48 = [] → ∀ c ∈ l, c = 48 := by
  intro l h c hc
  unfold Lib.trimRightB at h
  rw [List.reverse_eq_nil_iff] at h
  have key : ∀ r : List UInt8, r.dropWhile (fun x => x == 48) = [] → ∀ c ∈ r, c = 48 := by
    intro r
    induction r with
    | nil => intro _ c hc; simp at hc
    | cons d r ih =>
      intro h c hc
      by_cases hd : d = 48
      · rw [List.dropWhile_cons_of_pos (by simpa using hd)] at h
        rcases List.mem_cons.1 hc with rfl | hc
        · exact hd
        · exact ih h c hc
      · rw [List.dropWhile_cons_of_neg (by simpa using hd)] at h; cases h
  exact key _ h c (by simpa using hc)
end Go.Proofs.YtjfonckmfafdgaaDoor
namespace Go.Proofs.YtjfonckmfafdgaaDoor
open Go.RowKit
theorem dg_ofNat {k : Nat} (h : k < 10) : dg (UInt8.ofNat (48 + k)) = k := by
  unfold dg
  rcases k with _ | _ | _ | _ | _ | _ | _ | _ | _ | _ | k <;> first | rfl | omega
theorem isD_ofNat {k : Nat} (h : k < 10) : isD (UInt8.ofNat (48 + k)) = true := by
  unfold isD
  rcases k with _ | _ | _ | _ | _ | _ | _ | _ | _ | _ | k <;> first | rfl | omega
theorem decDigits_rec (u : Nat) : (u < 10 ∧ Lib.decDigits u = [UInt8.ofNat (48 + u)]) ∨ (¬ u < 10 ∧ Lib.decDigits u = Lib.decDigits (u / 10) ++ [UInt8.ofNat (48 + u % 10)]) := by
  by_cases h : u < 10
  · exact Or.inl ⟨h, by rw [Lib.decDigits, dif_pos h]⟩
  · exact Or.inr ⟨h, by rw [Lib.decDigits, dif_neg h]⟩
theorem decDigits_isD (u : Nat) : (Lib.decDigits u).all isD = true := by
  induction u using Nat.strongRecOn with
  | _ u ih =>
    rcases decDigits_rec u with ⟨h, e⟩ | ⟨h, e⟩
    · rw [e, List.all_cons, isD_ofNat h]; rfl
    · rw [e, List.all_append, ih (u / 10) (by omega), List.all_cons, isD_ofNat (show u % 10 < 10 by omega)]; rfl
theorem decDigits_val (u : Nat) : valF 0 (Lib.decDigits u) = u := by
  induction u using Nat.strongRecOn with
  | _ u ih =>
    rcases decDigits_rec u with ⟨h, e⟩ | ⟨h, e⟩
    · rw [e, valF_cons, valF_nil, dg_ofNat h]; omega
    · rw [e, valF_append, ih (u / 10) (by omega), valF_cons, valF_nil, dg_ofNat (by omega)]; omega
theorem decDigits_ne (u : Nat) : Lib.decDigits u ≠ [] := by
  have := decDigits_pos u
  intro h; rw [h] at this; simp at this
theorem decDigits_sev {f : Nat} (h : f < 1000000) : ∃ D, Lib.decDigits (1000000 + f) = 49 :: D ∧ D.length = 6 ∧ valF 0 D = f ∧ D.all isD = true := by
  have hl : (Lib.decDigits (1000000 + f)).length = 7 := by
    rw [Lib.decDigits_length]
    exact Lib.nDigits_unique 6 _ (by omega) (by omega)
  have hv := decDigits_val (1000000 + f)
  have hd := decDigits_isD (1000000 + f)
  rcases hD : Lib.decDigits (1000000 + f) with _ | ⟨c, D⟩
  · exact absurd hD (decDigits_ne _)
  · rw [hD] at hl hv hd
    have h6 : D.length = 6 := by simpa using hl
    rw [valF_cons, Nat.zero_mul, Nat.zero_add, valF_base, h6] at hv
    rw [List.all_cons, Bool.and_eq_true] at hd
    have hlt : valF 0 D < 1000000 := by
      have key : ∀ (l : List UInt8), l.all isD = true → valF 0 l < 10 ^ l.length := by
        intro l
        induction l with
        | nil => intro _; rw [valF_nil]; simp
        | cons x r ih =>
          intro hx
          rw [List.all_cons, Bool.and_eq_true] at hx
          have := ih hx.2
          have h9 := dg_le hx.1
          rw [valF_cons, valF_base, List.length_cons, Nat.pow_succ]
          have : (0 * 10 + dg x) * 10 ^ r.length ≤ 9 * 10 ^ r.length := Nat.mul_le_mul_right _ (by omega)
          omega
      have := key D hd.2
      rw [h6] at this
      exact this
    have hdc : dg c = 1 := by
      have e6 : (10 : Nat) ^ 6 = 1000000 := by decide
      rw [e6] at hv
      omega
    have hc : c = 49 := by
      have h1 := dg_eq hd.1
      rw [hdc] at h1
      apply UInt8.toNat_inj.mp
      show c.toNat = 49
      omega
    subst hc
    refine ⟨D, rfl, h6, ?_, hd.2⟩
    have e6 : (10 : Nat) ^ 6 = 1000000 := by decide
    rw [hdc, e6] at hv
    omega
theorem trim_fill (D : List UInt8) : Lib.trimRightB D 48 ++ List.replicate (D.length - (Lib.trimRightB D 48).length) 48 = D := by
  have key : ∀ (n : Nat) (D : List UInt8), D.length = n → Lib.trimRightB D 48 ++ List.replicate (D.length - (Lib.trimRightB D 48).length) 48 = D := by
    intro n
    induction n with
    | zero => intro D h; obtain rfl := List.eq_nil_of_length_eq_zero h; rfl
    | succ n ih =>
      intro D h
      obtain ⟨l, c, rfl⟩ : ∃ l c, D = l ++ [c] := ⟨D.dropLast, D.getLast (by intro e; rw [e] at h; simp at h), (List.dropLast_concat_getLast _).symm⟩
      have hl : l.length = n := by simpa using h
      rw [trim_snoc]
      by_cases hc : c = 48
      · subst hc
        rw [if_pos rfl]
        have hle := trimRightB_len l 48
        have e : (l ++ [(48 : UInt8)]).length - (Lib.trimRightB l 48).length = (l.length - (Lib.trimRightB l 48).length) + 1 := by simp; omega
        rw [e, List.replicate_succ', ← List.append_assoc, ih l hl]
      · rw [if_neg hc]; simp
  exact key _ D rfl
theorem fracD_of {f : Nat} (h : f < 1000000) : ∃ D, fracD f = Lib.trimRightB D 48 ∧ D.length = 6 ∧ valF 0 D = f ∧ D.all isD = true := by
  obtain ⟨D, h1, h2, h3, h4⟩ := decDigits_sev h
  exact ⟨D, by unfold fracD; rw [h1]; rfl, h2, h3, h4⟩
theorem fracD_ne {m : Nat} (h : ¬ m % 1000000 = 0) : fracD (m % 1000000) ≠ [] := by
  obtain ⟨D, h1, h2, h3, h4⟩ := fracD_of (f := m % 1000000) (by omega)
  rw [h1]
  intro e
  have := trim_fill D
  rw [e, List.nil_append] at this
  have hz : ∀ n k, valF k (List.replicate n 48) = k * 10 ^ n := by
    intro n
    induction n with
    | zero => intro k; rw [List.replicate_zero, valF_nil, Nat.pow_zero, Nat.mul_one]
    | succ n ih =>
      intro k
      rw [List.replicate_succ, valF_cons, ih, show dg 48 = 0 from rfl, Nat.add_zero, Nat.pow_succ, Nat.mul_assoc, Nat.mul_comm (10 ^ n)]
  rw [← this, hz] at h3
  omega
theorem fracD_len {f : Nat} (h : f < 1000000) : (fracD f).length ≤ 6 := by
  obtain ⟨D, h1, h2, _, _⟩ := fracD_of h
  rw [h1, ← h2]
  exact trimRightB_len D 48
theorem fracD_pad {f : Nat} (h : f < 1000000) : valF 0 (padL (fracD f) 6) = f := by
  obtain ⟨D, h1, h2, h3, _⟩ := fracD_of h
  have hl := fracD_len h
  unfold padL
  rw [List.take_of_length_le hl]
  have e : fracD f ++ List.replicate (6 - (fracD f).length) 48 = D := by
    rw [h1, ← h2]; exact trim_fill D
  rw [e, h3]
theorem fracD_isD {f : Nat} (h : f < 1000000) : (fracD f).all isD = true := by
  obtain ⟨D, h1, h2, h3, h4⟩ := fracD_of h
  rw [h1]
  have := trim_fill D
  rw [← this, List.all_append, Bool.and_eq_true] at h4
  exact h4.1
theorem fracR_D {f : Nat} (h : f < 1000000) : fracR (fracD f) = f := by
  unfold fracR
  have hl := fracD_len h
  rw [← valF_pad, fracD_pad h]
  unfold upV
  rw [dif_neg (by omega)]; rfl
theorem fracR_nil : fracR [] = 0 := by decide
end Go.Proofs.YtjfonckmfafdgaaDoor
namespace Go.Proofs.YtjfonckmfafdgaaDoor
open Go.RowKit
set_option maxHeartbeats 8000000 in
theorem refPrint_any (b : Bool) (n : Int) (w : World) (_h1 : -9223372036854775808 ≤ n) (_h2 : n ≤ 9223372036854775807) :
    Calls Tryd.prog 30 #[.agg #[.bool b, .int .i64 n]] w fun e w' => e = .returned (.string (printV b n)) ∧ w.grownBy w' none := by
  cases b
  · have HN := Lib.hid (printV_none (b := false) (n := n) rfl)
    go_enter Tryd.func30, Tryd.ntmps30
    go_wp2_with (go_at_call 49; refine (known1_any _ _ _).mono ?_; rintro e w1 ⟨rfl, hg1⟩)
    go_ret
    exact ⟨ret_string HN.out.symm, G.trans (by have hb0 := (G.refl w none); (repeat first | with_reducible exact hb0 | with_reducible refine G.drewN ?_ _ | with_reducible refine G.drew ?_ | with_reducible refine G.alloc ?_ _ | with_reducible refine G.set ?_ _ (Or.inr rfl) | (with_reducible refine G.set ?_ _ (Or.inl ?_); rotate_left; focus (first | omega | (simp; done) | (simp; omega))))) hg1⟩
  cases hr : isR true n
  · have HN := Lib.hid (printV_none (b := true) (n := n) (by rw [hr]; rfl))
    go_enter Tryd.func30, Tryd.ntmps30
    go_wp2_with (go_at_call 49; refine (known1_any _ _ _).mono ?_; rw [hr]; rintro e w1 ⟨rfl, hg1⟩)
    go_ret
    exact ⟨ret_string HN.out.symm, G.trans (by have hb0 := (G.refl w none); (repeat first | with_reducible exact hb0 | with_reducible refine G.drewN ?_ _ | with_reducible refine G.drew ?_ | with_reducible refine G.alloc ?_ _ | with_reducible refine G.set ?_ _ (Or.inr rfl) | (with_reducible refine G.set ?_ _ (Or.inl ?_); rotate_left; focus (first | omega | (simp; done) | (simp; omega))))) hg1⟩
  have HN := Lib.hid (printV_some (b := true) (n := n) (by rw [hr]; rfl))
  have hb : -4611686018427387904 ≤ n ∧ n ≤ 4611686018427387904 := by simpa [isR] using hr
  have HR := Lib.hid hr; clear hr
  obtain ⟨b1, b2⟩ := hb
  obtain ⟨S, hS⟩ : ∃ S, Hid (printV true n = S) := ⟨_, Lib.hid rfl⟩
  rw [hS.out]
  by_cases hneg : n < 0
  · obtain ⟨m, rfl⟩ : ∃ m : Nat, n = -(m : Int) := ⟨n.natAbs, by omega⟩
    have hm : (m : Int) ≤ 4611686018427387904 := by omega
    have hm0 : (0 : Int) ≤ (m : Int) := by omega
    have HD := Lib.hid (fun w => refDigits_nat (x := (m : Int) / 1000000) (m / 1000000) (by omega) (by omega) w)
    have HD2 := Lib.hid (fun w => refDigits_nat (x := 1000000 + (m : Int) % 1000000) (1000000 + m % 1000000) (by omega) (by omega) w)
    have hpr : Hid (printL (-(m : Int)) = 45 :: printA m) := Lib.hid (by unfold printL; rw [if_pos hneg, Int.natAbs_neg, Int.natAbs_natCast]; simp)
    by_cases hf : m % 1000000 = 0
    · have hf' : (m : Int) % 1000000 = 0 := by omega
      have hf2 : ((m : Int) % 1000000 == 0) = true := by simp; omega
      have hfin : Hid (printA m = Lib.decDigits (m / 1000000)) := Lib.hid (by unfold printA; rw [if_pos hf, List.append_nil])
      clear hf
      go_enter Tryd.func30, Tryd.ntmps30
      go_wp2_with (first | (go_at_call 49; refine (known1_any _ _ _).mono ?_; rw [HR.out]; rintro e w1 ⟨rfl, hg1⟩; have hx := Hx.kept (Hx.new w #[.bool true, .int .i64 (-(m : Int))] 33) hg1 (by simp); have HG := G.trans (G.alloc (G.refl w none) _) hg1; have x0 := hx.cell 0; have x1 := hx.cell 1; have x2 := hx.lt) | fail)
      refine (HD.out _).mono ?_
      rintro e wn ⟨Z1, rfl, z1, zs1, hgn⟩
      replace HG := G.trans (w := w) (by exact G.go HG) hgn; clear hgn
      have Hz1 := Lib.hid z1; clear z1
      go_wp2_with fail
      go_ret
      refine ⟨?_, HG⟩
      rw [← hS.out, HN.out]
      refine ret_string (ext_data ?_)
      rw [hpr.out, hfin.out]
      simp [ByteArray.data_append, Hz1.out]
    · have hf2 : ((m : Int) % 1000000 == 0) = false := by simp; omega
      have hf3 : ¬ (m : Int) % 1000000 = 0 := by omega
      have hfr := Lib.hid (fracD_ne hf)
      have hfin : Hid (printA m = Lib.decDigits (m / 1000000) ++ 46 :: fracD (m % 1000000)) := Lib.hid (by unfold printA; rw [if_neg hf])
      clear hf
      go_enter Tryd.func30, Tryd.ntmps30
      go_wp2_with (first | (go_at_call 49; refine (known1_any _ _ _).mono ?_; rw [HR.out]; rintro e w1 ⟨rfl, hg1⟩; have hx := Hx.kept (Hx.new w #[.bool true, .int .i64 (-(m : Int))] 33) hg1 (by simp); have HG := G.trans (G.alloc (G.refl w none) _) hg1; have x0 := hx.cell 0; have x1 := hx.cell 1; have x2 := hx.lt) | fail)
      refine (HD.out _).mono ?_
      rintro e wn ⟨Z1, rfl, z1, zs1, hgn⟩
      replace HG := G.trans (w := w) (by exact G.go HG) hgn; clear hgn
      have Hz1 := Lib.hid z1; clear z1
      go_wp2_with fail
      refine (HD2.out _).mono ?_
      rintro e wn ⟨Z2, rfl, z2, zs2, hgn⟩
      replace HG := G.trans (w := w) (by exact G.go HG) hgn; clear hgn
      have hz2 : 1 ≤ Z2.size := by rw [size_of_data z2]; exact decDigits_pos _
      have hz3 : (Z2.extract 1 Z2.size).size ≤ 21 := by rw [ByteArray.size_extract]; omega
      have hy : Hid (Lib.trimRightB (Z2.extract 1 Z2.size).data.toList 48 = fracD (m % 1000000)) := Lib.hid (by rw [Lib.extract_to_end, z2]; rfl)
      clear z2
      go_wp2_with fail
      go_loop [6] (fun dv => ∃ t : ByteArray, dv = .string t ∧ t.size ≤ 21 ∧ Hid (Lib.trimRightB t.data.toList 48 = fracD (m % 1000000))) (fun dv => match dv with | .string t => t.size | _ => 0)
      case atStart => exact ⟨_, rfl, hz3, hy⟩
      case round =>
        obtain ⟨t, rfl, ht, H⟩ := hrel
        have hpos : 0 < t.size := trim_pos (by rw [H.out]; exact hfr.out)
        by_cases hc : t[t.size - 1] = 48
        · have hb : ((t[t.size - 1].toNat : Int) == 48) = true := by rw [hc]; rfl
          have HT := Lib.hid (trim_step hpos hc)
          clear hc
          go_wp2_with fail
          refine ⟨⟨_, rfl, by rw [ByteArray.size_extract]; omega, Lib.hid (by rw [HT.out, H.out])⟩, ?_⟩
          show (t.extract 0 (t.size - 1)).size < t.size
          rw [ByteArray.size_extract]; omega
        · have hb : ((t[t.size - 1].toNat : Int) == 48) = false := by
            rw [beq_eq_false_iff_ne]; intro h; exact hc (UInt8.toNat_inj.mp (by show t[t.size - 1].toNat = 48; omega))
          have HT := Lib.hid (trim_stop hpos hc)
          clear hc
          go_wp2_with fail
          go_ret
          refine ⟨?_, HG⟩
          rw [← hS.out, HN.out]
          refine ret_string (ext_data ?_)
          rw [hpr.out, hfin.out, ← H.out, HT.out]
          simp [ByteArray.data_append, Hz1.out]
  · obtain ⟨m, rfl⟩ : ∃ m : Nat, n = (m : Int) := ⟨n.natAbs, by omega⟩
    have hm : (m : Int) ≤ 4611686018427387904 := by omega
    have hm0 : (0 : Int) ≤ (m : Int) := by omega
    have HD := Lib.hid (fun w => refDigits_nat (x := (m : Int) / 1000000) (m / 1000000) (by omega) (by omega) w)
    have HD2 := Lib.hid (fun w => refDigits_nat (x := 1000000 + (m : Int) % 1000000) (1000000 + m % 1000000) (by omega) (by omega) w)
    have hpr : Hid (printL ((m : Int)) = printA m) := Lib.hid (by unfold printL; rw [if_neg hneg, Int.natAbs_natCast]; simp)
    by_cases hf : m % 1000000 = 0
    · have hf' : (m : Int) % 1000000 = 0 := by omega
      have hf2 : ((m : Int) % 1000000 == 0) = true := by simp; omega
      have hfin : Hid (printA m = Lib.decDigits (m / 1000000)) := Lib.hid (by unfold printA; rw [if_pos hf, List.append_nil])
      clear hf
      go_enter Tryd.func30, Tryd.ntmps30
      go_wp2_with (first | (go_at_call 49; refine (known1_any _ _ _).mono ?_; rw [HR.out]; rintro e w1 ⟨rfl, hg1⟩; have hx := Hx.kept (Hx.new w #[.bool true, .int .i64 ((m : Int))] 33) hg1 (by simp); have HG := G.trans (G.alloc (G.refl w none) _) hg1; have x0 := hx.cell 0; have x1 := hx.cell 1; have x2 := hx.lt) | fail)
      refine (HD.out _).mono ?_
      rintro e wn ⟨Z1, rfl, z1, zs1, hgn⟩
      replace HG := G.trans (w := w) (by exact G.go HG) hgn; clear hgn
      have Hz1 := Lib.hid z1; clear z1
      go_wp2_with fail
      go_ret
      refine ⟨?_, HG⟩
      rw [← hS.out, HN.out]
      refine ret_string (ext_data ?_)
      rw [hpr.out, hfin.out]
      simp [Hz1.out]
    · have hf2 : ((m : Int) % 1000000 == 0) = false := by simp; omega
      have hf3 : ¬ (m : Int) % 1000000 = 0 := by omega
      have hfr := Lib.hid (fracD_ne hf)
      have hfin : Hid (printA m = Lib.decDigits (m / 1000000) ++ 46 :: fracD (m % 1000000)) := Lib.hid (by unfold printA; rw [if_neg hf])
      clear hf
      go_enter Tryd.func30, Tryd.ntmps30
      go_wp2_with (first | (go_at_call 49; refine (known1_any _ _ _).mono ?_; rw [HR.out]; rintro e w1 ⟨rfl, hg1⟩; have hx := Hx.kept (Hx.new w #[.bool true, .int .i64 ((m : Int))] 33) hg1 (by simp); have HG := G.trans (G.alloc (G.refl w none) _) hg1; have x0 := hx.cell 0; have x1 := hx.cell 1; have x2 := hx.lt) | fail)
      refine (HD.out _).mono ?_
      rintro e wn ⟨Z1, rfl, z1, zs1, hgn⟩
      replace HG := G.trans (w := w) (by exact G.go HG) hgn; clear hgn
      have Hz1 := Lib.hid z1; clear z1
      go_wp2_with fail
      refine (HD2.out _).mono ?_
      rintro e wn ⟨Z2, rfl, z2, zs2, hgn⟩
      replace HG := G.trans (w := w) (by exact G.go HG) hgn; clear hgn
      have hz2 : 1 ≤ Z2.size := by rw [size_of_data z2]; exact decDigits_pos _
      have hz3 : (Z2.extract 1 Z2.size).size ≤ 21 := by rw [ByteArray.size_extract]; omega
      have hy : Hid (Lib.trimRightB (Z2.extract 1 Z2.size).data.toList 48 = fracD (m % 1000000)) := Lib.hid (by rw [Lib.extract_to_end, z2]; rfl)
      clear z2
      go_wp2_with fail
      go_loop [6] (fun dv => ∃ t : ByteArray, dv = .string t ∧ t.size ≤ 21 ∧ Hid (Lib.trimRightB t.data.toList 48 = fracD (m % 1000000))) (fun dv => match dv with | .string t => t.size | _ => 0)
      case atStart => exact ⟨_, rfl, hz3, hy⟩
      case round =>
        obtain ⟨t, rfl, ht, H⟩ := hrel
        have hpos : 0 < t.size := trim_pos (by rw [H.out]; exact hfr.out)
        by_cases hc : t[t.size - 1] = 48
        · have hb : ((t[t.size - 1].toNat : Int) == 48) = true := by rw [hc]; rfl
          have HT := Lib.hid (trim_step hpos hc)
          clear hc
          go_wp2_with fail
          refine ⟨⟨_, rfl, by rw [ByteArray.size_extract]; omega, Lib.hid (by rw [HT.out, H.out])⟩, ?_⟩
          show (t.extract 0 (t.size - 1)).size < t.size
          rw [ByteArray.size_extract]; omega
        · have hb : ((t[t.size - 1].toNat : Int) == 48) = false := by
            rw [beq_eq_false_iff_ne]; intro h; exact hc (UInt8.toNat_inj.mp (by show t[t.size - 1].toNat = 48; omega))
          have HT := Lib.hid (trim_stop hpos hc)
          clear hc
          go_wp2_with fail
          go_ret
          refine ⟨?_, HG⟩
          rw [← hS.out, HN.out]
          refine ret_string (ext_data ?_)
          rw [hpr.out, hfin.out, ← H.out, HT.out]
          simp [ByteArray.data_append, Hz1.out]
end Go.Proofs.YtjfonckmfafdgaaDoor
