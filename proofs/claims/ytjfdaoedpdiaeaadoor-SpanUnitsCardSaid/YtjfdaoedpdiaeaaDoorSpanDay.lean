/-
  What a text of eight digits says; the walks of the reference's num and day.
-/
import Derived.Test.YtjfdaoedpdiaeaaDoorSpanCal
import Derived.Test.YtjfdaoedpdiaeaaDoorSpanInterR
import Derived.Test.YtjfdaoedpdiaeaaDoorGrow
namespace Go.Proofs.YtjfdaoedpdiaeaaDoor
open Go.RowKit
theorem whole_digits {t : ByteArray} (h : t.data.toList.all isD = true) (hne : 0 < t.size) : wholeO t = Option.map (fun (m : Nat) => (m : Int)) (numR 0 t.data.toList) := by
  have h1 : minusS t = false := minus_not (fun r e => by
    rw [e, List.all_cons, Bool.and_eq_true] at h
    exact absurd h.1 (by decide))
  have h2 : bareW t = t := by unfold bareW; rw [h1]; rfl
  have e : t.data.toList.length = t.size := by simp
  unfold wholeO
  rw [h2, h1]
  unfold okD
  have : t.data.toList.isEmpty = false := by
    cases h2 : t.data.toList with
    | nil => rw [h2, List.length_nil] at e; omega
    | cons c r => rfl
  rw [h, this]; simp
theorem valF_lt : ∀ (l : List UInt8), l.all isD = true → valF 0 l < 10 ^ l.length := by
  intro l
  induction l with
  | nil => intro _; rw [valF_nil]; decide
  | cons c r ih =>
    intro h
    rw [List.all_cons, Bool.and_eq_true] at h
    have h1 := dg_le h.1
    have h2 := ih h.2
    rw [valF_cons, valF_base, List.length_cons, Nat.pow_succ, Nat.zero_mul, Nat.zero_add]
    generalize 10 ^ r.length = p at *
    have h3 : dg c * p ≤ 9 * p := Nat.mul_le_mul_right p h1
    omega
/-- the number that digits say -/
def numB (t : ByteArray) : Nat := valF 0 t.data.toList
theorem piece_digits {s : ByteArray} (h : allAt s 0 = true) (a b : Nat) : (s.extract a b).data.toList.all isD = true := by
  rw [allAt_zero] at h
  rw [List.all_eq_true] at h ⊢
  intro x hx
  rw [Lib.extract_data] at hx
  exact h x (List.mem_of_mem_drop (List.mem_of_mem_take hx))
theorem piece_whole {s : ByteArray} (h : allAt s 0 = true) (a b : Nat) (hab : a < b) (hb : b ≤ s.size) (h9 : b ≤ a + 8) : wholeO (s.extract a b) = some (numB (s.extract a b) : Int) ∧ numB (s.extract a b) < 10 ^ (b - a) := by
  have hd := piece_digits h a b
  have hz : (s.extract a b).size = b - a := by rw [ByteArray.size_extract]; omega
  have hl : (s.extract a b).data.toList.length = b - a := by rw [← hz, Array.length_toList]; rfl
  have hv := valF_lt _ hd
  rw [hl] at hv
  refine ⟨?_, hv⟩
  have hp : 10 ^ (b - a) ≤ 10 ^ 8 := Nat.pow_le_pow_right (by omega) (by omega)
  rw [whole_digits hd (by omega)]
  unfold numR
  rw [if_pos (by unfold topN; omega)]
  rfl
def okYMD (y m d : Nat) : Bool := decide (1970 ≤ y) && decide (1 ≤ m) && decide (m ≤ 12) && decide (1 ≤ d) && decide (d ≤ mlen y m)
def daysN (y m d : Nat) : Nat := (d - 1) + msum y 1 (m - 1) + ysum 1970 (y - 1970)
/-- the day, counted from the first one, that eight digits name -/
def dayN (s : ByteArray) : Option Nat := if s.size = 8 ∧ allAt s 0 = true then (if okYMD (numB (s.extract 0 4)) (numB (s.extract 4 6)) (numB (s.extract 6 8)) then some (daysN (numB (s.extract 0 4)) (numB (s.extract 4 6)) (numB (s.extract 6 8))) else none) else none
def dayV (o : Option Nat) : Value := match o with
  | none => .tuple #[.int .i64 0, .bool false]
  | some n => .tuple #[.int .i64 ((n : Int) * 86400), .bool (decide ((n : Int) * 86400 ≤ 4294967295))]
theorem num_ref {t : ByteArray} {n : Nat} (w : World) (hs : t.size ≤ 1000) (h : wholeO t = some (n : Int)) : Calls Tryd.prog 27 #[.string t] w fun e w' => e = .returned (.int .i64 n) ∧ w.grownBy w' none := by
  have HG := G.refl w none
  have HW := Lib.hid (fun w => whole_ref t w (by omega))
  rw [h] at HW
  simp only [wholeT] at HW
  go_enter Tryd.func27, Tryd.ntmps27
  go_wp2_with (go_at_call 22; refine (HW.out _).mono ?_; rintro e wn ⟨rfl, hgn⟩; replace HG := G.trans (w := w) (by have hb0 := (HG); (repeat first | with_reducible exact hb0 | with_reducible refine G.drewN ?_ _ | with_reducible refine G.drew ?_ | with_reducible refine G.alloc ?_ _ | with_reducible refine G.set ?_ _ (Or.inr rfl) | (with_reducible refine G.set ?_ _ (Or.inl ?_); rotate_left; focus (first | omega | (simp; done) | (simp; omega))))) hgn; clear hgn)
  go_ret
  exact ⟨rfl, (by have hb0 := (HG); (repeat first | with_reducible exact hb0 | with_reducible refine G.drewN ?_ _ | with_reducible refine G.drew ?_ | with_reducible refine G.alloc ?_ _ | with_reducible refine G.set ?_ _ (Or.inr rfl) | (with_reducible refine G.set ?_ _ (Or.inl ?_); rotate_left; focus (first | omega | (simp; done) | (simp; omega)))))⟩
theorem msum_le (y m k : Nat) : msum y m k ≤ k * 31 := by
  induction k with
  | zero => exact Nat.le_refl _
  | succ k ih =>
    have : mlen y (m + k) ≤ 31 := by unfold mlen; repeat' split
                                     all_goals omega
    have e : msum y m (k + 1) = msum y m k + mlen y (m + k) := rfl
    rw [e, Nat.succ_mul]; omega
theorem ysum_le (y : Nat) : ∀ k, ysum y k ≤ k * 366 := by
  intro k
  induction k with
  | zero => exact Nat.le_refl _
  | succ k ih =>
    have h1 : ylen (y + k) ≤ 366 := by unfold ylen; split <;> omega
    have h2 : ysum y (k + 1) = ysum y k + ylen (y + k) := rfl
    rw [h2, Nat.succ_mul]; omega
set_option maxHeartbeats 8000000 in
theorem day_ref (s : ByteArray) (w : World) (hs : s.size ≤ 1000) :
    Calls Tryd.prog 28 #[.string s] w fun e w' => e = .returned (dayV (dayN s)) ∧ w.grownBy w' none := by
  obtain ⟨V, hV⟩ : ∃ V, Hid (dayV (dayN s) = V) := ⟨_, Lib.hid rfl⟩
  rw [hV.out]
  have HG := G.refl w none
  have hO : Hid (dayN s = if s.size = 8 ∧ allAt s 0 = true then (if okYMD (numB (s.extract 0 4)) (numB (s.extract 4 6)) (numB (s.extract 6 8)) then some (daysN (numB (s.extract 0 4)) (numB (s.extract 4 6)) (numB (s.extract 6 8))) else none) else none) := Lib.hid rfl
  have hVn : Hid (dayN s = none → V = .tuple #[.int .i64 0, .bool false]) := Lib.hid (fun h => by rw [← hV.out, h]; rfl)
  have HA := Lib.hid (fun w => all16_any s w (by omega))
  by_cases h8 : s.size = 8
  case neg =>
    have hfin : Hid (V = .tuple #[.int .i64 0, .bool false]) := Lib.hid (hVn.out (by rw [hO.out, if_neg (fun h => h8 h.1)]))
    have h8' : (((s.size : Nat) : Int) != 8) = true := by simp; omega
    go_enter Tryd.func28, Tryd.ntmps28
    go_wp2_with fail
    go_ret2
    exact ⟨by rw [hfin.out]; rfl, (by have hb0 := (HG); (repeat first | with_reducible exact hb0 | with_reducible refine G.drewN ?_ _ | with_reducible refine G.drew ?_ | with_reducible refine G.alloc ?_ _ | with_reducible refine G.set ?_ _ (Or.inr rfl) | (with_reducible refine G.set ?_ _ (Or.inl ?_); rotate_left; focus (first | omega | (simp; done) | (simp; omega)))))⟩
  have h8' : (((s.size : Nat) : Int) != 8) = false := by simp; omega
  cases hal : allAt s 0
  · have hfin : Hid (V = .tuple #[.int .i64 0, .bool false]) := Lib.hid (hVn.out (by rw [hO.out, if_neg (fun h => by rw [hal] at h; cases h.2)]))
    rw [hal] at HA
    clear hal
    go_enter Tryd.func28, Tryd.ntmps28
    go_wp2_with (go_at_call 26; refine (HA.out _).mono ?_; rintro e wn ⟨rfl, rfl⟩)
    go_ret2
    exact ⟨by rw [hfin.out]; rfl, (by have hb0 := (HG); (repeat first | with_reducible exact hb0 | with_reducible refine G.drewN ?_ _ | with_reducible refine G.drew ?_ | with_reducible refine G.alloc ?_ _ | with_reducible refine G.set ?_ _ (Or.inr rfl) | (with_reducible refine G.set ?_ _ (Or.inl ?_); rotate_left; focus (first | omega | (simp; done) | (simp; omega)))))⟩
  rw [hal] at HA
  obtain ⟨y1, y2⟩ := piece_whole hal 0 4 (by omega) (by omega) (by omega)
  obtain ⟨m1, m2⟩ := piece_whole hal 4 6 (by omega) (by omega) (by omega)
  obtain ⟨d1, d2⟩ := piece_whole hal 6 8 (by omega) (by omega) (by omega)
  have hO2 : Hid (dayN s = if okYMD (numB (s.extract 0 4)) (numB (s.extract 4 6)) (numB (s.extract 6 8)) then some (daysN (numB (s.extract 0 4)) (numB (s.extract 4 6)) (numB (s.extract 6 8))) else none) := Lib.hid (by rw [hO.out, if_pos ⟨h8, hal⟩])
  have zz : ∀ a b, (s.extract a b).size ≤ 1000 := fun a b => by rw [ByteArray.size_extract]; omega
  have HY := Lib.hid (fun w => num_ref w (zz _ _) y1)
  have HM := Lib.hid (fun w => num_ref w (zz _ _) m1)
  have HD := Lib.hid (fun w => num_ref w (zz _ _) d1)
  clear y1 m1 d1 zz hal
  have e4 : (10 : Nat) ^ (4 - 0) = 10000 := by decide
  have e2 : (10 : Nat) ^ (6 - 4) = 100 := by decide
  have e3 : (10 : Nat) ^ (8 - 6) = 100 := by decide
  rw [e4] at y2
  rw [e2] at m2
  rw [e3] at d2
  clear e4 e2 e3
  generalize numB (s.extract 0 4) = y at *
  generalize numB (s.extract 4 6) = m at *
  generalize numB (s.extract 6 8) = d at *
  go_enter Tryd.func28, Tryd.ntmps28
  go_wp2_with (go_at_call 26; refine (HA.out _).mono ?_; rintro e wn ⟨rfl, rfl⟩)
  (refine wp_region_grow (w0 := w) (by have hb0 := (HG); (repeat first | with_reducible exact hb0 | with_reducible refine G.drewN ?_ _ | with_reducible refine G.drew ?_ | with_reducible refine G.alloc ?_ _ | with_reducible refine G.set ?_ _ (Or.inr rfl) | (with_reducible refine G.set ?_ _ (Or.inl ?_); rotate_left; focus (first | omega | (simp; done) | (simp; omega))))) (by kernel_rfl) (by kernel_rfl) ?_; (repeat (refine wpQuiet_step (fun K hK => ?_); go_simp; first | (refine hK _ ?_; clear hK K) | (apply Exists.intro; refine ⟨fun xq => ?_, hK _ ?_⟩; (focus (first | (go_at_call_of 27 (Value.string (s.extract 0 4)); exact grow_of (HY.out _)) | (go_at_call_of 27 (Value.string (s.extract 4 6)); exact grow_of (HM.out _)) | (go_at_call_of 27 (Value.string (s.extract 6 8)); exact grow_of (HD.out _)))); clear hK K))); refine wpQuiet_nil ?_; clear HG; intro wn HG)
  have p0 : (0 : Int) ≤ (y : Int) := by omega
  by_cases hy : (y : Int) < 1970
  · have hfin : Hid (V = .tuple #[.int .i64 0, .bool false]) := Lib.hid (hVn.out (by rw [hO2.out, if_neg (by unfold okYMD; simp; omega)]))
    go_wp2_with fail
    go_ret2
    exact ⟨by rw [hfin.out]; rfl, (by have hb0 := (HG); (repeat first | with_reducible exact hb0 | with_reducible refine G.drewN ?_ _ | with_reducible refine G.drew ?_ | with_reducible refine G.alloc ?_ _ | with_reducible refine G.set ?_ _ (Or.inr rfl) | (with_reducible refine G.set ?_ _ (Or.inl ?_); rotate_left; focus (first | omega | (simp; done) | (simp; omega)))))⟩
  by_cases hm1 : (m : Int) < 1
  · have hfin : Hid (V = .tuple #[.int .i64 0, .bool false]) := Lib.hid (hVn.out (by rw [hO2.out, if_neg (by unfold okYMD; simp; omega)]))
    go_wp2_with fail
    go_ret2
    exact ⟨by rw [hfin.out]; rfl, (by have hb0 := (HG); (repeat first | with_reducible exact hb0 | with_reducible refine G.drewN ?_ _ | with_reducible refine G.drew ?_ | with_reducible refine G.alloc ?_ _ | with_reducible refine G.set ?_ _ (Or.inr rfl) | (with_reducible refine G.set ?_ _ (Or.inl ?_); rotate_left; focus (first | omega | (simp; done) | (simp; omega)))))⟩
  by_cases hm2 : (12 : Int) < (m : Int)
  · have hfin : Hid (V = .tuple #[.int .i64 0, .bool false]) := Lib.hid (hVn.out (by rw [hO2.out, if_neg (by unfold okYMD; simp; omega)]))
    go_wp2_with fail
    go_ret2
    exact ⟨by rw [hfin.out]; rfl, (by have hb0 := (HG); (repeat first | with_reducible exact hb0 | with_reducible refine G.drewN ?_ _ | with_reducible refine G.drew ?_ | with_reducible refine G.alloc ?_ _ | with_reducible refine G.set ?_ _ (Or.inr rfl) | (with_reducible refine G.set ?_ _ (Or.inl ?_); rotate_left; focus (first | omega | (simp; done) | (simp; omega)))))⟩
  by_cases hd1 : (d : Int) < 1
  · have hfin : Hid (V = .tuple #[.int .i64 0, .bool false]) := Lib.hid (hVn.out (by rw [hO2.out, if_neg (by unfold okYMD; simp; omega)]))
    go_wp2_with fail
    go_ret2
    exact ⟨by rw [hfin.out]; rfl, (by have hb0 := (HG); (repeat first | with_reducible exact hb0 | with_reducible refine G.drewN ?_ _ | with_reducible refine G.drew ?_ | with_reducible refine G.alloc ?_ _ | with_reducible refine G.set ?_ _ (Or.inr rfl) | (with_reducible refine G.set ?_ _ (Or.inl ?_); rotate_left; focus (first | omega | (simp; done) | (simp; omega)))))⟩
  have HL := Lib.hid (fun (m : Nat) (hm : m ≤ 1000000) w => days_ref y m w (by omega) hm)
  have HL0 := Lib.hid (fun w => HL.out m (by omega) w)
  by_cases hd2 : (mlen y m : Int) < (d : Int)
  · have hfin : Hid (V = .tuple #[.int .i64 0, .bool false]) := Lib.hid (hVn.out (by rw [hO2.out, if_neg (by unfold okYMD; simp; omega)]))
    go_wp2_with (go_at_call 34; refine (HL0.out _).mono ?_; rintro e wn ⟨rfl, rfl⟩)
    go_ret2
    exact ⟨by rw [hfin.out]; rfl, (by have hb0 := (HG); (repeat first | with_reducible exact hb0 | with_reducible refine G.drewN ?_ _ | with_reducible refine G.drew ?_ | with_reducible refine G.alloc ?_ _ | with_reducible refine G.set ?_ _ (Or.inr rfl) | (with_reducible refine G.set ?_ _ (Or.inl ?_); rotate_left; focus (first | omega | (simp; done) | (simp; omega)))))⟩
  have hd3 : ¬ mlen y m < d := by omega
  have hq : Hid (dayN s = some (daysN y m d)) := Lib.hid (by rw [hO2.out, if_pos (by unfold okYMD; simp; omega)])
  have hfin : Hid (V = .tuple #[.int .i64 ((daysN y m d : Nat) * 86400), .bool (decide (((daysN y m d : Nat) : Int) * 86400 ≤ 4294967295))]) := Lib.hid (by rw [← hV.out, hq.out]; rfl)
  have hDN : Hid (daysN y m d = (d - 1) + msum y 1 (m - 1) + ysum 1970 (y - 1970)) := Lib.hid rfl
  have b1 := Lib.hid (msum_le y 1)
  have b2 := Lib.hid (ysum_le 1970)
  generalize daysN y m d = N at *
  clear hO2 hVn hO hV hq
  go_wp2_with (go_at_call 34; refine (HL0.out _).mono ?_; rintro e wn ⟨rfl, rfl⟩)
  go_loop [7, 8] (fun nv iv => ∃ k n : Nat, iv = .int .i64 ((k : Int) + 1) ∧ k + 1 ≤ m ∧ nv = .int .i64 n ∧ Hid (n = (d - 1) + msum y 1 k) ∧ n ≤ 100000) (fun _ iv => m - (intOf iv).toNat)
  case atStart => exact ⟨0, d - 1, rfl, by omega, by congr 1; omega, Lib.hid (by simp [msum]), by omega⟩
  case round =>
    obtain ⟨k, n, rfl, hk, rfl, H, hn⟩ := hrel
    by_cases hlt : (k : Int) + 1 < (m : Int)
    · have HLk := HL.out (k + 1) (by omega)
      have hle : mlen y (k + 1) ≤ 31 := by unfold mlen; (repeat' split) <;> omega
      have hms : Hid (msum y 1 (k + 1) = msum y 1 k + mlen y (k + 1)) := Lib.hid (by rw [msum, Nat.add_comm 1 k])
      have ek : ((k + 1 : Nat) : Int) = (k : Int) + 1 := by omega
      rw [ek] at HLk
      have HLk' := Lib.hid HLk
      clear HLk ek
      generalize mlen y (k + 1) = L at *
      go_wp2_with (go_at_call 34; refine (HLk'.out _).mono ?_; rintro e wn ⟨rfl, rfl⟩)
      refine ⟨?_, by simp [intOf]; omega⟩
      exact ⟨k + 1, n + L, by go_num, by omega, by go_num, Lib.hid (by have := H.out; have := hms.out; omega), by have := H.out; have := hms.out; have := b1.out (k + 1); omega⟩
    · have hkm : Hid (k = m - 1) := Lib.hid (by omega)
      go_wp2_with fail
      have hn2 : n ≤ 472 := by have := H.out; have := b1.out k; omega
      have HLp := Lib.hid (fun (y : Nat) (hy : y ≤ 1000000) w => leap_ref y w hy)
      have H0 := Lib.hid (show n = (d - 1) + msum y 1 (m - 1) by rw [← hkm.out]; exact H.out)
      clear H hkm HL HL0
      go_loop [7, 9] (fun nv iv => ∃ j n2 : Nat, iv = .int .i64 ((j : Int) + 1970) ∧ j + 1970 ≤ y ∧ nv = .int .i64 n2 ∧ Hid (n2 = n + ysum 1970 j) ∧ n2 ≤ 5000000) (fun _ iv => y - (intOf iv).toNat)
      case atStart => exact ⟨0, n, rfl, by omega, rfl, Lib.hid (by simp [ysum]), by omega⟩
      case round =>
        obtain ⟨j, n2, rfl, hj, rfl, H, hn3⟩ := hrel
        by_cases hlt2 : (j : Int) + 1970 < (y : Int)
        · have HLj := HLp.out (j + 1970) (by omega)
          have ej : ((j + 1970 : Nat) : Int) = (j : Int) + 1970 := by omega
          rw [ej] at HLj
          have HLj' := Lib.hid HLj
          have hys : Hid (ysum 1970 (j + 1) = ysum 1970 j + ylen (j + 1970)) := Lib.hid (by rw [ysum, Nat.add_comm 1970 j])
          have hyl : Hid (ylen (j + 1970) = if leapY (j + 1970) = true then 366 else 365) := Lib.hid rfl
          clear HLj ej
          generalize leapY (j + 1970) = lp at *
          cases lp
          · go_wp2_with (go_at_call 33; refine (HLj'.out _).mono ?_; rintro e wn ⟨rfl, rfl⟩)
            refine ⟨?_, by simp [intOf]; omega⟩
            exact ⟨j + 1, n2 + 365, by go_num, by omega, by go_num, Lib.hid (by have := H.out; have := hys.out; have := hyl.out; simp at *; omega), by have := H.out; have := hys.out; have := hyl.out; have := b2.out (j + 1); simp at *; omega⟩
          · go_wp2_with (go_at_call 33; refine (HLj'.out _).mono ?_; rintro e wn ⟨rfl, rfl⟩)
            refine ⟨?_, by simp [intOf]; omega⟩
            exact ⟨j + 1, n2 + 366, by go_num, by omega, by go_num, Lib.hid (by have := H.out; have := hys.out; have := hyl.out; simp at *; omega), by have := H.out; have := hys.out; have := hyl.out; have := b2.out (j + 1); simp at *; omega⟩
        · have hjy : Hid (j = y - 1970) := Lib.hid (by omega)
          have HN : N = n2 := by rw [hDN.out, ← hjy.out, H.out, H0.out]
          subst HN
          go_wp2_with fail
          go_ret2
          exact ⟨by rw [hfin.out]; rfl, (by have hb0 := (HG); (repeat first | with_reducible exact hb0 | with_reducible refine G.drewN ?_ _ | with_reducible refine G.drew ?_ | with_reducible refine G.alloc ?_ _ | with_reducible refine G.set ?_ _ (Or.inr rfl) | (with_reducible refine G.set ?_ _ (Or.inl ?_); rotate_left; focus (first | omega | (simp; done) | (simp; omega)))))⟩
end Go.Proofs.YtjfdaoedpdiaeaaDoor
