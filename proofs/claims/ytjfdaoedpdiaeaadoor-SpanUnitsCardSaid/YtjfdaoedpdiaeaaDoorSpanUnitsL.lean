/-
  The walk of the law on units.
-/
import Derived.Test.YtjfdaoedpdiaeaaDoorSpanUnitsW
namespace Go.Proofs.YtjfdaoedpdiaeaaDoor
open Go.RowKit
def unitsL : List ByteArray := [⟨#[115]⟩, ⟨#[109, 105, 110]⟩, ⟨#[104]⟩, ⟨#[100]⟩, ⟨#[119]⟩, ⟨#[109, 111, 110]⟩, ⟨#[121]⟩, ⟨#[115, 101, 99, 111, 110, 100, 115]⟩, ⟨#[104, 111, 117, 114, 115]⟩, ⟨#[121, 101, 97, 114, 115]⟩]
def secsL : List Nat := [1, 60, 3600, 86400, 604800, 2592000, 31536000, 1, 3600, 31536000]
theorem units_at : ∀ K, K < 10 → ∃ (U : ByteArray) (S : Nat), unitsL[K]? = some U ∧ secsL[K]? = some S ∧ unitN U = S ∧ S ≠ 0 ∧ S ≤ 31536000 ∧ U.size ≤ 7 ∧ ∃ c r, U.data.toList = c :: r ∧ isD c = false := by
  intro K hK
  have h : K = 0 ∨ K = 1 ∨ K = 2 ∨ K = 3 ∨ K = 4 ∨ K = 5 ∨ K = 6 ∨ K = 7 ∨ K = 8 ∨ K = 9 := by omega
  rcases h with rfl | rfl | rfl | rfl | rfl | rfl | rfl | rfl | rfl | rfl <;>
  exact ⟨_, _, rfl, rfl, by simp [unitN, hitAt, uw0, uw1, uw2, uw3, uw4, uw5, uw6, ByteArray.toList_eq], by omega, by omega, by decide, _, _, rfl, by decide⟩
theorem digits_fit {n : Nat} (h : n ≤ 100) : (⟨(Lib.decDigits n).toArray⟩ : ByteArray).size ≤ 3 := by rw [Lib.size_mk]; exact decDigits_len (by omega)
theorem refDigits_txt {x : Int} (n : Nat) (hx : x = n) (h2 : n ≤ 9999) (w : World) : Calls Tryd.prog 16 #[.int .i64 x] w fun e w' => e = .returned (.string ⟨(Lib.decDigits n).toArray⟩) ∧ w.grownBy w' none := by
  refine (refDigits_nat n hx (by omega) w).mono ?_
  rintro e w' ⟨Z, he, hz, _, hg⟩
  exact ⟨by rw [he, ext_data hz], hg⟩
set_option maxHeartbeats 16000000 in
set_option maxRecDepth 100000 in
theorem spanUnits_walk (n which now : Int) (w : World) (_n1 : -9223372036854775808 ≤ n) (_n2 : n ≤ 9223372036854775807) (_w1 : -9223372036854775808 ≤ which) (_w2 : which ≤ 9223372036854775807) (_t1 : -9223372036854775808 ≤ now) (_t2 : now ≤ 9223372036854775807) (hp : Pow10 w) :
    Calls Tryd.prog 6 #[.int .i64 n, .int .i64 which, .int .i64 now] w fun e w' => e = .returned (.bool true) ∧ w.grownBy w' none := by
  have HP := Lib.hid hp; clear hp
  have HG := G.refl w none
  have HK := Lib.hid known16_any
  by_cases z1 : n < 0
  · go_enter Tryd.func6, Tryd.ntmps6
    go_wp2_with (go_at_call 13; refine (HK.out _ (Pow10.kept (w := w) HP.out (by have hb0 := (HG); (repeat first | with_reducible exact hb0 | with_reducible refine G.drewN ?_ _ | with_reducible refine G.drew ?_ | with_reducible refine G.alloc ?_ _ | with_reducible refine G.set ?_ _ (Or.inr rfl) | (with_reducible refine G.set ?_ _ (Or.inl ?_); rotate_left; focus (first | omega | (simp; done) | (simp; omega))))))).mono ?_; rintro e wn ⟨rfl, hgn⟩; replace HG := G.trans (w := w) (by have hb0 := (HG); (repeat first | with_reducible exact hb0 | with_reducible refine G.drewN ?_ _ | with_reducible refine G.drew ?_ | with_reducible refine G.alloc ?_ _ | with_reducible refine G.set ?_ _ (Or.inr rfl) | (with_reducible refine G.set ?_ _ (Or.inl ?_); rotate_left; focus (first | omega | (simp; done) | (simp; omega))))) hgn; clear hgn)
    go_ret
    exact ⟨ret_bool rfl, (by have hb0 := (HG); (repeat first | with_reducible exact hb0 | with_reducible refine G.drewN ?_ _ | with_reducible refine G.drew ?_ | with_reducible refine G.alloc ?_ _ | with_reducible refine G.set ?_ _ (Or.inr rfl) | (with_reducible refine G.set ?_ _ (Or.inl ?_); rotate_left; focus (first | omega | (simp; done) | (simp; omega)))))⟩
  by_cases z2 : 100 < n
  · go_enter Tryd.func6, Tryd.ntmps6
    go_wp2_with (go_at_call 13; refine (HK.out _ (Pow10.kept (w := w) HP.out (by have hb0 := (HG); (repeat first | with_reducible exact hb0 | with_reducible refine G.drewN ?_ _ | with_reducible refine G.drew ?_ | with_reducible refine G.alloc ?_ _ | with_reducible refine G.set ?_ _ (Or.inr rfl) | (with_reducible refine G.set ?_ _ (Or.inl ?_); rotate_left; focus (first | omega | (simp; done) | (simp; omega))))))).mono ?_; rintro e wn ⟨rfl, hgn⟩; replace HG := G.trans (w := w) (by have hb0 := (HG); (repeat first | with_reducible exact hb0 | with_reducible refine G.drewN ?_ _ | with_reducible refine G.drew ?_ | with_reducible refine G.alloc ?_ _ | with_reducible refine G.set ?_ _ (Or.inr rfl) | (with_reducible refine G.set ?_ _ (Or.inl ?_); rotate_left; focus (first | omega | (simp; done) | (simp; omega))))) hgn; clear hgn)
    go_ret
    exact ⟨ret_bool rfl, (by have hb0 := (HG); (repeat first | with_reducible exact hb0 | with_reducible refine G.drewN ?_ _ | with_reducible refine G.drew ?_ | with_reducible refine G.alloc ?_ _ | with_reducible refine G.set ?_ _ (Or.inr rfl) | (with_reducible refine G.set ?_ _ (Or.inl ?_); rotate_left; focus (first | omega | (simp; done) | (simp; omega)))))⟩
  by_cases z3 : now < 0
  · go_enter Tryd.func6, Tryd.ntmps6
    go_wp2_with (go_at_call 13; refine (HK.out _ (Pow10.kept (w := w) HP.out (by have hb0 := (HG); (repeat first | with_reducible exact hb0 | with_reducible refine G.drewN ?_ _ | with_reducible refine G.drew ?_ | with_reducible refine G.alloc ?_ _ | with_reducible refine G.set ?_ _ (Or.inr rfl) | (with_reducible refine G.set ?_ _ (Or.inl ?_); rotate_left; focus (first | omega | (simp; done) | (simp; omega))))))).mono ?_; rintro e wn ⟨rfl, hgn⟩; replace HG := G.trans (w := w) (by have hb0 := (HG); (repeat first | with_reducible exact hb0 | with_reducible refine G.drewN ?_ _ | with_reducible refine G.drew ?_ | with_reducible refine G.alloc ?_ _ | with_reducible refine G.set ?_ _ (Or.inr rfl) | (with_reducible refine G.set ?_ _ (Or.inl ?_); rotate_left; focus (first | omega | (simp; done) | (simp; omega))))) hgn; clear hgn)
    go_ret
    exact ⟨ret_bool rfl, (by have hb0 := (HG); (repeat first | with_reducible exact hb0 | with_reducible refine G.drewN ?_ _ | with_reducible refine G.drew ?_ | with_reducible refine G.alloc ?_ _ | with_reducible refine G.set ?_ _ (Or.inr rfl) | (with_reducible refine G.set ?_ _ (Or.inl ?_); rotate_left; focus (first | omega | (simp; done) | (simp; omega)))))⟩
  by_cases z4 : 4294967295 < now
  · go_enter Tryd.func6, Tryd.ntmps6
    go_wp2_with (go_at_call 13; refine (HK.out _ (Pow10.kept (w := w) HP.out (by have hb0 := (HG); (repeat first | with_reducible exact hb0 | with_reducible refine G.drewN ?_ _ | with_reducible refine G.drew ?_ | with_reducible refine G.alloc ?_ _ | with_reducible refine G.set ?_ _ (Or.inr rfl) | (with_reducible refine G.set ?_ _ (Or.inl ?_); rotate_left; focus (first | omega | (simp; done) | (simp; omega))))))).mono ?_; rintro e wn ⟨rfl, hgn⟩; replace HG := G.trans (w := w) (by have hb0 := (HG); (repeat first | with_reducible exact hb0 | with_reducible refine G.drewN ?_ _ | with_reducible refine G.drew ?_ | with_reducible refine G.alloc ?_ _ | with_reducible refine G.set ?_ _ (Or.inr rfl) | (with_reducible refine G.set ?_ _ (Or.inl ?_); rotate_left; focus (first | omega | (simp; done) | (simp; omega))))) hgn; clear hgn)
    go_ret
    exact ⟨ret_bool rfl, (by have hb0 := (HG); (repeat first | with_reducible exact hb0 | with_reducible refine G.drewN ?_ _ | with_reducible refine G.drew ?_ | with_reducible refine G.alloc ?_ _ | with_reducible refine G.set ?_ _ (Or.inr rfl) | (with_reducible refine G.set ?_ _ (Or.inl ?_); rotate_left; focus (first | omega | (simp; done) | (simp; omega)))))⟩
  obtain ⟨n, rfl⟩ : ∃ k : Nat, n = k := ⟨n.toNat, by omega⟩
  have hn : n ≤ 100 := by omega
  obtain ⟨K, hK1, hK9⟩ : ∃ K : Nat, (bits .and .i64 which 1023).tmod 10 = (K : Int) ∧ K < 10 := by
    have h1 := Int.tmod_nonneg 10 (last_bits which).1
    have h2 : (bits .and .i64 which 1023).tmod 10 < 10 := Int.tmod_lt_of_pos _ (by decide)
    exact ⟨((bits .and .i64 which 1023).tmod 10).toNat, by omega, by omega⟩
  obtain ⟨U, S, hU, hS, q1, q2, q3, q4, q5⟩ := units_at K hK9
  go_enter Tryd.func6, Tryd.ntmps6
  go_upto_region 5 with (fail)
  go_cut [9] (fun kv wc => kv = .int .i64 K ∧ w.grownBy wc none ∧ Hx wc w.heap.size (unitsL.map (fun u => Value.string u)) 9 ∧ Hx wc (w.heap.size + 1) (secsL.map (fun (x : Nat) => Value.int .i64 x)) 3)
  case first =>
    go_wp2_with fail
    go_meet
    exact ⟨rfl, (by have hb0 := (HG); (repeat first | with_reducible exact hb0 | with_reducible refine G.drewN ?_ _ | with_reducible refine G.drew ?_ | with_reducible refine G.alloc ?_ _ | with_reducible refine G.set ?_ _ (Or.inr rfl) | (with_reducible refine G.set ?_ _ (Or.inl ?_); rotate_left; focus (first | omega | (simp; done) | (simp; omega))))), Hx.alloc (Hx.new' rfl rfl) _, Hx.new' (by simp) rfl⟩
  case rest =>
    obtain ⟨rfl, HG, xu, xs⟩ := hcut
    have cU : wc.cell? ⟨w.heap.size, K, none⟩ = some (.string U) := by rw [xu.cell, List.getElem?_map, hU]; rfl
    have cS : wc.cell? ⟨w.heap.size + 1, K, none⟩ = some (.int .i64 S) := by rw [xs.cell, List.getElem?_map, hS]; rfl
    have lU := xu.lt
    have lS := xs.lt
    have xU : ∀ x : GrowW wc, x.1.cell? ⟨w.heap.size, K, none⟩ = some (.string U) := fun x => by rw [GrowW.cell x lU]; exact cU
    have k10 : (K : Int) < 10 := by omega
    have HD := Lib.hid (fun w => refDigits_txt n rfl (by omega) w)
    have hDz := digits_fit hn
    obtain ⟨D, hD⟩ : ∃ D : ByteArray, (⟨(Lib.decDigits n).toArray⟩ : ByteArray) = D := ⟨_, rfl⟩
    have hDd : Hid (D.data.toList = Lib.decDigits n) := Lib.hid (by rw [← hD])
    rw [hD] at HD hDz
    have hcat : ¬ 9223372036854775807 < D.size + U.size := by omega
    clear hD hU hS xu xs cU
    go_upto_region 6 with (fail)
    refine wp_region_grow (w0 := wc) (G.refl _ _) (by kernel_rfl) (by kernel_rfl) ?_
    (repeat (refine wpQuiet_step (fun K hK => ?_); go_simp; first | (refine hK _ ?_; clear hK K) | (apply Exists.intro; refine ⟨fun xq => ?_, hK _ ?_⟩; (focus (go_at_call 16; exact grow_of (HD.out _))); clear hK K)))
    refine wpQuiet_nil ?_
    intro wd hgd
    have cS2 : wd.cell? ⟨w.heap.size + 1, K, none⟩ = some (.int .i64 S) := by rw [G.cell hgd (by exact lS) (by simp)]; exact cS
    have lS2 : w.heap.size + 1 < wd.heap.size := Nat.lt_of_lt_of_le lS hgd.size
    replace HG := G.trans HG hgd
    clear cS lU xU hgd lS
    obtain ⟨s, hs'⟩ : ∃ s : ByteArray, D ++ U = s := ⟨_, rfl⟩
    have hs : s.data.toList = Lib.decDigits n ++ U.data.toList := by rw [← hs', ByteArray.data_append, Array.toList_append, hDd.out]
    have sz : s.size ≤ 10 := by rw [← hs', ByteArray.size_append]; omega
    obtain ⟨m, hm'⟩ : ∃ m : ByteArray, (⟨#[45]⟩ : ByteArray) ++ s = m := ⟨_, rfl⟩
    have hm : m.data.toList = 45 :: s.data.toList := by rw [← hm', ByteArray.data_append, Array.toList_append]; rfl
    have mz : m.size ≤ 11 := by have := size_of_data hm; have := size_of_data (Z := s) rfl; rw [List.length_cons] at *; omega
    obtain ⟨q, hq'⟩ : ∃ q : ByteArray, (⟨#[110, 111, 119, 45]⟩ : ByteArray) ++ s = q := ⟨_, rfl⟩
    have hq : q.data.toList = 110 :: 111 :: 119 :: m.data.toList := by rw [← hq', ByteArray.data_append, Array.toList_append, hm]; rfl
    have qz : q.size ≤ 14 := by have := size_of_data hq; have := size_of_data (Z := m) rfl; simp only [List.length_cons] at *; omega
    have HI := Lib.hid (fun w => inter_prog s w (by omega))
    have HM := Lib.hid (fun w => inter_prog m w (by omega))
    have HAq := Lib.hid (fun w => at_prog q now w (by omega) (by omega) (by omega))
    have HAm := Lib.hid (fun w => at_prog m now w (by omega) (by omega) (by omega))
    rw [inter_unit hs q5 hn (by omega) (by omega)] at HI
    rw [inter_minus hm hs q5 hn (by omega) (by omega)] at HM
    rw [at_now hq hm hs q5 hn (by omega) (by omega) (by omega) (by omega)] at HAq
    rw [at_minus hm hs q5 hn (by omega) (by omega) (by omega) (by omega)] at HAm
    have hP1 : n * S ≤ 100 * 31536000 := Nat.mul_le_mul hn q3
    have hP2 : ((n * S : Nat) : Int) = (n : Int) * (S : Int) := Int.natCast_mul n S
    rw [q1] at HI HM HAq HAm
    obtain ⟨P, hP⟩ : ∃ P, (n : Int) * (S : Int) = P := ⟨_, rfl⟩
    rw [hP] at HI HM HAq HAm hP2
    have p1 : 0 ≤ P := by omega
    have p2 : P ≤ 4294967295 := by omega
    simp only [wholeT] at HI HM
    clear hs hm hq q5 hDd q1 hP1 hP2 HD
    by_cases hlt : now < P
    · have e1 : inV (now - P) = .tuple #[.int .i64 0, .int .i64 7] := by unfold inV; rw [if_pos (by omega)]
      rw [e1] at HAq HAm
      clear e1
      go_wp2_with (first | (go_at_call_of 7 (Value.string s); refine (HI.out _).mono ?_; rintro e wn ⟨rfl, hgn⟩; have cS2 := (G.cell hgn lS2 (by simp) (a := ⟨w.heap.size + 1, K, none⟩)).trans cS2; replace lS2 := Nat.lt_of_lt_of_le lS2 hgn.size; replace HG := G.trans (w := w) (by have hb0 := (HG); (repeat first | with_reducible exact hb0 | with_reducible refine G.drewN ?_ _ | with_reducible refine G.drew ?_ | with_reducible refine G.alloc ?_ _ | with_reducible refine G.set ?_ _ (Or.inr rfl) | (with_reducible refine G.set ?_ _ (Or.inl ?_); rotate_left; focus (first | omega | (simp; done) | (simp; omega))))) hgn; clear hgn) | (go_at_call_of 7 (Value.string m); refine (HM.out _).mono ?_; rintro e wn ⟨rfl, hgn⟩; have cS2 := (G.cell hgn lS2 (by simp) (a := ⟨w.heap.size + 1, K, none⟩)).trans cS2; replace lS2 := Nat.lt_of_lt_of_le lS2 hgn.size; replace HG := G.trans (w := w) (by have hb0 := (HG); (repeat first | with_reducible exact hb0 | with_reducible refine G.drewN ?_ _ | with_reducible refine G.drew ?_ | with_reducible refine G.alloc ?_ _ | with_reducible refine G.set ?_ _ (Or.inr rfl) | (with_reducible refine G.set ?_ _ (Or.inl ?_); rotate_left; focus (first | omega | (simp; done) | (simp; omega))))) hgn; clear hgn) | (go_at_call_of 11 (Value.string q); refine (HAq.out _).mono ?_; rintro e wn ⟨rfl, hgn⟩; replace HG := G.trans (w := w) (by have hb0 := (HG); (repeat first | with_reducible exact hb0 | with_reducible refine G.drewN ?_ _ | with_reducible refine G.drew ?_ | with_reducible refine G.alloc ?_ _ | with_reducible refine G.set ?_ _ (Or.inr rfl) | (with_reducible refine G.set ?_ _ (Or.inl ?_); rotate_left; focus (first | omega | (simp; done) | (simp; omega))))) hgn; clear hgn) | (go_at_call_of 11 (Value.string m); refine (HAm.out _).mono ?_; rintro e wn ⟨rfl, hgn⟩; replace HG := G.trans (w := w) (by have hb0 := (HG); (repeat first | with_reducible exact hb0 | with_reducible refine G.drewN ?_ _ | with_reducible refine G.drew ?_ | with_reducible refine G.alloc ?_ _ | with_reducible refine G.set ?_ _ (Or.inr rfl) | (with_reducible refine G.set ?_ _ (Or.inl ?_); rotate_left; focus (first | omega | (simp; done) | (simp; omega))))) hgn; clear hgn) | (go_at_call 13; refine (HK.out _ (Pow10.kept (w := w) HP.out (by have hb0 := (HG); (repeat first | with_reducible exact hb0 | with_reducible refine G.drewN ?_ _ | with_reducible refine G.drew ?_ | with_reducible refine G.alloc ?_ _ | with_reducible refine G.set ?_ _ (Or.inr rfl) | (with_reducible refine G.set ?_ _ (Or.inl ?_); rotate_left; focus (first | omega | (simp; done) | (simp; omega))))))).mono ?_; rintro e wn ⟨rfl, hgn⟩; replace HG := G.trans (w := w) (by have hb0 := (HG); (repeat first | with_reducible exact hb0 | with_reducible refine G.drewN ?_ _ | with_reducible refine G.drew ?_ | with_reducible refine G.alloc ?_ _ | with_reducible refine G.set ?_ _ (Or.inr rfl) | (with_reducible refine G.set ?_ _ (Or.inl ?_); rotate_left; focus (first | omega | (simp; done) | (simp; omega))))) hgn; clear hgn))
      go_ret
      exact ⟨ret_bool (by simp), (by have hb0 := (HG); (repeat first | with_reducible exact hb0 | with_reducible refine G.drewN ?_ _ | with_reducible refine G.drew ?_ | with_reducible refine G.alloc ?_ _ | with_reducible refine G.set ?_ _ (Or.inr rfl) | (with_reducible refine G.set ?_ _ (Or.inl ?_); rotate_left; focus (first | omega | (simp; done) | (simp; omega)))))⟩
    · have e1 : inV (now - P) = .tuple #[.int .i64 (now - P), .int .i64 0] := by unfold inV; rw [if_neg (by omega)]
      rw [e1] at HAq HAm
      clear e1
      go_wp2_with (first | (go_at_call_of 7 (Value.string s); refine (HI.out _).mono ?_; rintro e wn ⟨rfl, hgn⟩; have cS2 := (G.cell hgn lS2 (by simp) (a := ⟨w.heap.size + 1, K, none⟩)).trans cS2; replace lS2 := Nat.lt_of_lt_of_le lS2 hgn.size; replace HG := G.trans (w := w) (by have hb0 := (HG); (repeat first | with_reducible exact hb0 | with_reducible refine G.drewN ?_ _ | with_reducible refine G.drew ?_ | with_reducible refine G.alloc ?_ _ | with_reducible refine G.set ?_ _ (Or.inr rfl) | (with_reducible refine G.set ?_ _ (Or.inl ?_); rotate_left; focus (first | omega | (simp; done) | (simp; omega))))) hgn; clear hgn) | (go_at_call_of 7 (Value.string m); refine (HM.out _).mono ?_; rintro e wn ⟨rfl, hgn⟩; have cS2 := (G.cell hgn lS2 (by simp) (a := ⟨w.heap.size + 1, K, none⟩)).trans cS2; replace lS2 := Nat.lt_of_lt_of_le lS2 hgn.size; replace HG := G.trans (w := w) (by have hb0 := (HG); (repeat first | with_reducible exact hb0 | with_reducible refine G.drewN ?_ _ | with_reducible refine G.drew ?_ | with_reducible refine G.alloc ?_ _ | with_reducible refine G.set ?_ _ (Or.inr rfl) | (with_reducible refine G.set ?_ _ (Or.inl ?_); rotate_left; focus (first | omega | (simp; done) | (simp; omega))))) hgn; clear hgn) | (go_at_call_of 11 (Value.string q); refine (HAq.out _).mono ?_; rintro e wn ⟨rfl, hgn⟩; replace HG := G.trans (w := w) (by have hb0 := (HG); (repeat first | with_reducible exact hb0 | with_reducible refine G.drewN ?_ _ | with_reducible refine G.drew ?_ | with_reducible refine G.alloc ?_ _ | with_reducible refine G.set ?_ _ (Or.inr rfl) | (with_reducible refine G.set ?_ _ (Or.inl ?_); rotate_left; focus (first | omega | (simp; done) | (simp; omega))))) hgn; clear hgn) | (go_at_call_of 11 (Value.string m); refine (HAm.out _).mono ?_; rintro e wn ⟨rfl, hgn⟩; replace HG := G.trans (w := w) (by have hb0 := (HG); (repeat first | with_reducible exact hb0 | with_reducible refine G.drewN ?_ _ | with_reducible refine G.drew ?_ | with_reducible refine G.alloc ?_ _ | with_reducible refine G.set ?_ _ (Or.inr rfl) | (with_reducible refine G.set ?_ _ (Or.inl ?_); rotate_left; focus (first | omega | (simp; done) | (simp; omega))))) hgn; clear hgn) | (go_at_call 13; refine (HK.out _ (Pow10.kept (w := w) HP.out (by have hb0 := (HG); (repeat first | with_reducible exact hb0 | with_reducible refine G.drewN ?_ _ | with_reducible refine G.drew ?_ | with_reducible refine G.alloc ?_ _ | with_reducible refine G.set ?_ _ (Or.inr rfl) | (with_reducible refine G.set ?_ _ (Or.inl ?_); rotate_left; focus (first | omega | (simp; done) | (simp; omega))))))).mono ?_; rintro e wn ⟨rfl, hgn⟩; replace HG := G.trans (w := w) (by have hb0 := (HG); (repeat first | with_reducible exact hb0 | with_reducible refine G.drewN ?_ _ | with_reducible refine G.drew ?_ | with_reducible refine G.alloc ?_ _ | with_reducible refine G.set ?_ _ (Or.inr rfl) | (with_reducible refine G.set ?_ _ (Or.inl ?_); rotate_left; focus (first | omega | (simp; done) | (simp; omega))))) hgn; clear hgn))
      go_ret
      exact ⟨ret_bool (by simp), (by have hb0 := (HG); (repeat first | with_reducible exact hb0 | with_reducible refine G.drewN ?_ _ | with_reducible refine G.drew ?_ | with_reducible refine G.alloc ?_ _ | with_reducible refine G.set ?_ _ (Or.inr rfl) | (with_reducible refine G.set ?_ _ (Or.inl ?_); rotate_left; focus (first | omega | (simp; done) | (simp; omega)))))⟩
end Go.Proofs.YtjfdaoedpdiaeaaDoor
