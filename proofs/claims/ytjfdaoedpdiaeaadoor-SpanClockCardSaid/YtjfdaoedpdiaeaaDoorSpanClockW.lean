/-
  A time in words, and what its day and its minute say; the walk of the law on it.
-/
import Derived.Test.YtjfdaoedpdiaeaaDoorSpanUnitsL
namespace Go.Proofs.YtjfdaoedpdiaeaaDoor
open Go.RowKit
theorem twoL_isD {n : Nat} (h : n < 100) : (twoL n).all isD = true := by
  unfold twoL
  rw [List.all_cons, List.all_cons, isD_ofNat (show n / 10 < 10 by omega), isD_ofNat (show n % 10 < 10 by omega)]
  rfl
theorem twoL_val {n : Nat} (h : n < 100) : valF 0 (twoL n) = n := by
  unfold twoL
  rw [valF_cons, valF_cons, valF_nil, dg_ofNat (show n / 10 < 10 by omega), dg_ofNat (show n % 10 < 10 by omega)]
  omega
theorem day_parts {W : ByteArray} {Y : List UInt8} {y m d : Nat} (hW : W.data.toList = Y ++ (twoL m ++ twoL d)) (hY : Y.length = 4) (hd : Y.all isD = true) (hv : valF 0 Y = y) (hm : m < 100) (hdd : d < 100) (hok : okYMD y m d = true) : dayN W = some (daysN y m d) := by
  have hz : W.size = 8 := by rw [size_of_data hW, List.length_append, List.length_append, hY]; rfl
  have hal : allAt W 0 = true := by rw [allAt_zero, hW, List.all_append, List.all_append, hd, twoL_isD hm, twoL_isD hdd]; rfl
  match Y, hY with
  | [a, b, c, e], _ =>
    have e1 : numB (W.extract 0 4) = y := by unfold numB; rw [Lib.extract_data, hW, ← hv]; rfl
    have e2 : numB (W.extract 4 6) = m := by
      unfold numB; rw [Lib.extract_data, hW]
      exact twoL_val hm
    have e3 : numB (W.extract 6 8) = d := by
      unfold numB; rw [Lib.extract_data, hW]
      exact twoL_val hdd
    unfold dayN
    rw [if_pos ⟨hz, hal⟩, e1, e2, e3, hok]
    rfl
theorem day_date {W : ByteArray} {n : Nat} (hz : W.size = 8) (h : dayN W = some n) (hn : n ≤ 49710) : dateO W = some ((n : Int) * 86400) := by
  have h1 : hmS W = false := by unfold hmS; rw [dif_neg (by omega)]
  unfold dateO capO
  rw [h1, h]
  simp only [Bool.false_eq_true, if_false, Option.bind_some]
  rw [if_pos (by omega)]
  simp
theorem minute_date {V W : ByteArray} {h m n : Nat} (hV : V.data.toList = twoL h ++ (58 :: (twoL m ++ (95 :: W.data.toList)))) (hz : W.size = 8) (hh : h < 24) (hm : m < 60) (hd : dayN W = some n) (hn : (n : Int) * 86400 + ((h * 3600 + m * 60 : Nat) : Int) ≤ 4294967295) :
    dateO V = some ((n : Int) * 86400 + ((h * 3600 + m * 60 : Nat) : Int)) := by
  have hl : W.data.toList.length = 8 := by rw [← hz]; simp
  have vz : V.size = 14 := by
    rw [size_of_data hV, List.length_append, List.length_cons, List.length_append, List.length_cons, hl]; rfl
  have b2 : V[2]'(by omega) = 58 := by
    have : V[2]'(by omega) = V.data.toList[2]'(by rw [Array.length_toList]; show 2 < V.size; omega) := rfl
    rw [this]; simp only [hV]; rfl
  have b5 : V[5]'(by omega) = 95 := by
    have : V[5]'(by omega) = V.data.toList[5]'(by rw [Array.length_toList]; show 5 < V.size; omega) := rfl
    rw [this]; simp only [hV]; rfl
  have d1 : (V.extract 0 2).data.toList = twoL h := by rw [Lib.extract_data, hV]; rfl
  have d2 : (V.extract 3 5).data.toList = twoL m := by rw [Lib.extract_data, hV]; rfl
  have d3 : V.extract 6 14 = W := by
    have : (V.extract 6 14).data.toList = W.data.toList := by
      rw [Lib.extract_data, hV]
      show List.take 8 W.data.toList = _
      exact List.take_of_length_le (by omega)
    rw [ext_data this]
  have h1 : hmS V = true := by
    unfold hmS
    rw [dif_pos vz, b2, b5, allAt_zero, allAt_zero, d1, d2, twoL_isD (by omega), twoL_isD (by omega)]
    rfl
  have n1 : numB (V.extract 0 2) = h := by unfold numB; rw [d1]; exact twoL_val (by omega)
  have n2 : numB (V.extract 3 5) = m := by unfold numB; rw [d2]; exact twoL_val (by omega)
  unfold dateO
  rw [h1, n1, n2, d3, hd]
  simp only [if_true]
  rw [if_neg (by omega)]
  unfold capO
  simp only [Option.bind_some]
  rw [if_pos hn]
/-- what is read out of a time in words -/
theorem clock_reads {Z : ByteArray} {T : Nat} (hT : T ≤ 4294967295) (hZ : Z.data.toList = clockL T) :
    Z.size = 19 ∧ dateO (Z.extract 0 4 ++ Z.extract 5 7 ++ Z.extract 8 10) = some ((T : Int) - (T : Int) % 86400) ∧
      dateO (Z.extract 11 16 ++ ⟨#[95]⟩ ++ Z.extract 0 4 ++ Z.extract 5 7 ++ Z.extract 8 10) = some ((T : Int) - (T : Int) % 60) := by
  obtain ⟨p1, p2, p3, p4, p5, p6⟩ := clock_parts hT
  have s1 := yOf_spec (T / 86400) 1970
  have s2 := mOf_spec (yOf 1970 (T / 86400)).1 (yOf 1970 (T / 86400)).2 1
  unfold clockL at hZ
  generalize yOf 1970 (T / 86400) = Y at *
  generalize mOf Y.1 1 Y.2 = M at *
  obtain ⟨y, d⟩ := Y
  obtain ⟨m, k⟩ := M
  dsimp only at *
  have hl := dec_four (n := y) (by omega) (by omega)
  have hd := decDigits_isD y
  have hv := decDigits_val y
  generalize Lib.decDigits y = L at *
  match L, hl with
  | [a, b, c, e], _ =>
    have hz : Z.size = 19 := by rw [size_of_data hZ]; rfl
    have hW : (Z.extract 0 4 ++ Z.extract 5 7 ++ Z.extract 8 10).data.toList = [a, b, c, e] ++ (twoL m ++ twoL (k + 1)) := by
      rw [ByteArray.data_append, Array.toList_append, ByteArray.data_append, Array.toList_append, Lib.extract_data, Lib.extract_data, Lib.extract_data, hZ]; rfl
    have hV : (Z.extract 11 16 ++ ⟨#[95]⟩ ++ Z.extract 0 4 ++ Z.extract 5 7 ++ Z.extract 8 10).data.toList = twoL (T % 86400 / 3600) ++ (58 :: (twoL (T % 86400 % 3600 / 60) ++ (95 :: (Z.extract 0 4 ++ Z.extract 5 7 ++ Z.extract 8 10).data.toList))) := by
      rw [hW, ByteArray.data_append, Array.toList_append, ByteArray.data_append, Array.toList_append, ByteArray.data_append, Array.toList_append, ByteArray.data_append, Array.toList_append, Lib.extract_data, Lib.extract_data, Lib.extract_data, Lib.extract_data, hZ]; rfl
    have hok : okYMD y m (k + 1) = true := by unfold okYMD; simp; omega
    have hday := day_parts hW rfl hd hv (by omega) (by omega) hok
    have hN : daysN y m (k + 1) = T / 86400 := by unfold daysN; omega
    rw [hN] at hday
    have wz : (Z.extract 0 4 ++ Z.extract 5 7 ++ Z.extract 8 10).size = 8 := by rw [size_of_data hW]; rfl
    refine ⟨hz, ?_, ?_⟩
    · rw [day_date wz hday (by omega)]
      exact congrArg some (by omega)
    · rw [minute_date hV wz (by omega) (by omega) hday (by omega)]
      exact congrArg some (by omega)
set_option maxHeartbeats 8000000 in
set_option maxRecDepth 100000 in
theorem spanClock_walk (t : Int) (w : World) (h1 : -9223372036854775808 ≤ t) (h2 : t ≤ 9223372036854775807) (hp : Pow10 w) :
    Calls Tryd.prog 4 #[.int .i64 t] w fun e w' => e = .returned (.bool true) ∧ w.grownBy w' none := by
  have HP := Lib.hid hp; clear hp
  have HG := G.refl w none
  have HK := Lib.hid known16_any
  have HA := Lib.hid (fun w hp => clock_prog t w h1 h2 hp)
  have HB := Lib.hid (fun w => clock_ref t w h1 h2)
  obtain ⟨r1, r2, r3⟩ := clock_reads (Z := clockB (capT t)) (capT_le t) rfl
  have hct : 0 ≤ t → t ≤ 4294967295 → (capT t : Int) = t := fun a b => by unfold capT; omega
  generalize clockB (capT t) = Z at *
  generalize capT t = T at *
  by_cases z1 : t < 0
  · clear r2 r3 hct
    go_enter Tryd.func4, Tryd.ntmps4
    go_wp2_with (first | (go_at_call 14; refine (HA.out _ (Pow10.kept (w := w) HP.out (by have hb0 := (HG); (repeat first | with_reducible exact hb0 | with_reducible refine G.drewN ?_ _ | with_reducible refine G.drew ?_ | with_reducible refine G.alloc ?_ _ | with_reducible refine G.set ?_ _ (Or.inr rfl) | (with_reducible refine G.set ?_ _ (Or.inl ?_); rotate_left; focus (first | omega | (simp; done) | (simp; omega))))))).mono ?_; rintro e wn ⟨rfl, hgn⟩; replace HG := G.trans (w := w) (by have hb0 := (HG); (repeat first | with_reducible exact hb0 | with_reducible refine G.drewN ?_ _ | with_reducible refine G.drew ?_ | with_reducible refine G.alloc ?_ _ | with_reducible refine G.set ?_ _ (Or.inr rfl) | (with_reducible refine G.set ?_ _ (Or.inl ?_); rotate_left; focus (first | omega | (simp; done) | (simp; omega))))) hgn; clear hgn) | (go_at_call 15; refine (HB.out _).mono ?_; rintro e wn ⟨rfl, hgn⟩; replace HG := G.trans (w := w) (by have hb0 := (HG); (repeat first | with_reducible exact hb0 | with_reducible refine G.drewN ?_ _ | with_reducible refine G.drew ?_ | with_reducible refine G.alloc ?_ _ | with_reducible refine G.set ?_ _ (Or.inr rfl) | (with_reducible refine G.set ?_ _ (Or.inl ?_); rotate_left; focus (first | omega | (simp; done) | (simp; omega))))) hgn; clear hgn) | (go_at_call 13; refine (HK.out _ (Pow10.kept (w := w) HP.out (by have hb0 := (HG); (repeat first | with_reducible exact hb0 | with_reducible refine G.drewN ?_ _ | with_reducible refine G.drew ?_ | with_reducible refine G.alloc ?_ _ | with_reducible refine G.set ?_ _ (Or.inr rfl) | (with_reducible refine G.set ?_ _ (Or.inl ?_); rotate_left; focus (first | omega | (simp; done) | (simp; omega))))))).mono ?_; rintro e wn ⟨rfl, hgn⟩; replace HG := G.trans (w := w) (by have hb0 := (HG); (repeat first | with_reducible exact hb0 | with_reducible refine G.drewN ?_ _ | with_reducible refine G.drew ?_ | with_reducible refine G.alloc ?_ _ | with_reducible refine G.set ?_ _ (Or.inr rfl) | (with_reducible refine G.set ?_ _ (Or.inl ?_); rotate_left; focus (first | omega | (simp; done) | (simp; omega))))) hgn; clear hgn))
    go_ret
    exact ⟨ret_bool rfl, (by have hb0 := (HG); (repeat first | with_reducible exact hb0 | with_reducible refine G.drewN ?_ _ | with_reducible refine G.drew ?_ | with_reducible refine G.alloc ?_ _ | with_reducible refine G.set ?_ _ (Or.inr rfl) | (with_reducible refine G.set ?_ _ (Or.inl ?_); rotate_left; focus (first | omega | (simp; done) | (simp; omega)))))⟩
  by_cases z2 : 4294967295 < t
  · clear r2 r3 hct
    go_enter Tryd.func4, Tryd.ntmps4
    go_wp2_with (first | (go_at_call 14; refine (HA.out _ (Pow10.kept (w := w) HP.out (by have hb0 := (HG); (repeat first | with_reducible exact hb0 | with_reducible refine G.drewN ?_ _ | with_reducible refine G.drew ?_ | with_reducible refine G.alloc ?_ _ | with_reducible refine G.set ?_ _ (Or.inr rfl) | (with_reducible refine G.set ?_ _ (Or.inl ?_); rotate_left; focus (first | omega | (simp; done) | (simp; omega))))))).mono ?_; rintro e wn ⟨rfl, hgn⟩; replace HG := G.trans (w := w) (by have hb0 := (HG); (repeat first | with_reducible exact hb0 | with_reducible refine G.drewN ?_ _ | with_reducible refine G.drew ?_ | with_reducible refine G.alloc ?_ _ | with_reducible refine G.set ?_ _ (Or.inr rfl) | (with_reducible refine G.set ?_ _ (Or.inl ?_); rotate_left; focus (first | omega | (simp; done) | (simp; omega))))) hgn; clear hgn) | (go_at_call 15; refine (HB.out _).mono ?_; rintro e wn ⟨rfl, hgn⟩; replace HG := G.trans (w := w) (by have hb0 := (HG); (repeat first | with_reducible exact hb0 | with_reducible refine G.drewN ?_ _ | with_reducible refine G.drew ?_ | with_reducible refine G.alloc ?_ _ | with_reducible refine G.set ?_ _ (Or.inr rfl) | (with_reducible refine G.set ?_ _ (Or.inl ?_); rotate_left; focus (first | omega | (simp; done) | (simp; omega))))) hgn; clear hgn) | (go_at_call 13; refine (HK.out _ (Pow10.kept (w := w) HP.out (by have hb0 := (HG); (repeat first | with_reducible exact hb0 | with_reducible refine G.drewN ?_ _ | with_reducible refine G.drew ?_ | with_reducible refine G.alloc ?_ _ | with_reducible refine G.set ?_ _ (Or.inr rfl) | (with_reducible refine G.set ?_ _ (Or.inl ?_); rotate_left; focus (first | omega | (simp; done) | (simp; omega))))))).mono ?_; rintro e wn ⟨rfl, hgn⟩; replace HG := G.trans (w := w) (by have hb0 := (HG); (repeat first | with_reducible exact hb0 | with_reducible refine G.drewN ?_ _ | with_reducible refine G.drew ?_ | with_reducible refine G.alloc ?_ _ | with_reducible refine G.set ?_ _ (Or.inr rfl) | (with_reducible refine G.set ?_ _ (Or.inl ?_); rotate_left; focus (first | omega | (simp; done) | (simp; omega))))) hgn; clear hgn))
    go_ret
    exact ⟨ret_bool rfl, (by have hb0 := (HG); (repeat first | with_reducible exact hb0 | with_reducible refine G.drewN ?_ _ | with_reducible refine G.drew ?_ | with_reducible refine G.alloc ?_ _ | with_reducible refine G.set ?_ _ (Or.inr rfl) | (with_reducible refine G.set ?_ _ (Or.inl ?_); rotate_left; focus (first | omega | (simp; done) | (simp; omega)))))⟩
  rw [hct (by omega) (by omega)] at r2 r3
  have zx : ∀ a b, (Z.extract a b).size ≤ 19 := fun a b => by rw [ByteArray.size_extract]; omega
  have v1 : (Z.extract 0 4 ++ Z.extract 5 7 ++ Z.extract 8 10).size ≤ 1000 := by
    have := zx 0 4; have := zx 5 7; have := zx 8 10
    simp only [ByteArray.size_append]; omega
  have v2 : (Z.extract 11 16 ++ ⟨#[95]⟩ ++ Z.extract 0 4 ++ Z.extract 5 7 ++ Z.extract 8 10).size ≤ 1000 := by
    have := zx 0 4; have := zx 5 7; have := zx 8 10; have := zx 11 16
    simp only [ByteArray.size_append]
    have e : ByteArray.size ⟨#[95]⟩ = 1 := rfl
    omega
  have HD := Lib.hid (fun w => date_prog _ w v1)
  have HE := Lib.hid (fun w => date_prog _ w v2)
  rw [r2] at HD
  rw [r3] at HE
  simp only [wholeT] at HD HE
  clear r2 r3 hct zx v1 v2
  go_enter Tryd.func4, Tryd.ntmps4
  go_upto_region 6 with (first | (go_at_call 14; refine (HA.out _ (Pow10.kept (w := w) HP.out (by have hb0 := (HG); (repeat first | with_reducible exact hb0 | with_reducible refine G.drewN ?_ _ | with_reducible refine G.drew ?_ | with_reducible refine G.alloc ?_ _ | with_reducible refine G.set ?_ _ (Or.inr rfl) | (with_reducible refine G.set ?_ _ (Or.inl ?_); rotate_left; focus (first | omega | (simp; done) | (simp; omega))))))).mono ?_; rintro e wn ⟨rfl, hgn⟩; replace HG := G.trans (w := w) (by have hb0 := (HG); (repeat first | with_reducible exact hb0 | with_reducible refine G.drewN ?_ _ | with_reducible refine G.drew ?_ | with_reducible refine G.alloc ?_ _ | with_reducible refine G.set ?_ _ (Or.inr rfl) | (with_reducible refine G.set ?_ _ (Or.inl ?_); rotate_left; focus (first | omega | (simp; done) | (simp; omega))))) hgn; clear hgn) | (go_at_call 15; refine (HB.out _).mono ?_; rintro e wn ⟨rfl, hgn⟩; replace HG := G.trans (w := w) (by have hb0 := (HG); (repeat first | with_reducible exact hb0 | with_reducible refine G.drewN ?_ _ | with_reducible refine G.drew ?_ | with_reducible refine G.alloc ?_ _ | with_reducible refine G.set ?_ _ (Or.inr rfl) | (with_reducible refine G.set ?_ _ (Or.inl ?_); rotate_left; focus (first | omega | (simp; done) | (simp; omega))))) hgn; clear hgn) | (go_at_call 13; refine (HK.out _ (Pow10.kept (w := w) HP.out (by have hb0 := (HG); (repeat first | with_reducible exact hb0 | with_reducible refine G.drewN ?_ _ | with_reducible refine G.drew ?_ | with_reducible refine G.alloc ?_ _ | with_reducible refine G.set ?_ _ (Or.inr rfl) | (with_reducible refine G.set ?_ _ (Or.inl ?_); rotate_left; focus (first | omega | (simp; done) | (simp; omega))))))).mono ?_; rintro e wn ⟨rfl, hgn⟩; replace HG := G.trans (w := w) (by have hb0 := (HG); (repeat first | with_reducible exact hb0 | with_reducible refine G.drewN ?_ _ | with_reducible refine G.drew ?_ | with_reducible refine G.alloc ?_ _ | with_reducible refine G.set ?_ _ (Or.inr rfl) | (with_reducible refine G.set ?_ _ (Or.inl ?_); rotate_left; focus (first | omega | (simp; done) | (simp; omega))))) hgn; clear hgn))
  (refine wp_region_grow (w0 := w) (by have hb0 := (HG); (repeat first | with_reducible exact hb0 | with_reducible refine G.drewN ?_ _ | with_reducible refine G.drew ?_ | with_reducible refine G.alloc ?_ _ | with_reducible refine G.set ?_ _ (Or.inr rfl) | (with_reducible refine G.set ?_ _ (Or.inl ?_); rotate_left; focus (first | omega | (simp; done) | (simp; omega))))) (by kernel_rfl) (by kernel_rfl) ?_; (repeat (refine wpQuiet_step (fun K hK => ?_); go_simp; first | (refine hK _ ?_; clear hK K) | (apply Exists.intro; refine ⟨fun xq => ?_, hK _ ?_⟩; (focus ((go_at_call 9; exact grow_of (HD.out _)))); clear hK K))); refine wpQuiet_nil ?_; clear HG; intro wn HG)
  go_upto_region 7 with (fail)
  (refine wp_region_grow (w0 := w) (by have hb0 := (HG); (repeat first | with_reducible exact hb0 | with_reducible refine G.drewN ?_ _ | with_reducible refine G.drew ?_ | with_reducible refine G.alloc ?_ _ | with_reducible refine G.set ?_ _ (Or.inr rfl) | (with_reducible refine G.set ?_ _ (Or.inl ?_); rotate_left; focus (first | omega | (simp; done) | (simp; omega))))) (by kernel_rfl) (by kernel_rfl) ?_; (repeat (refine wpQuiet_step (fun K hK => ?_); go_simp; first | (refine hK _ ?_; clear hK K) | (apply Exists.intro; refine ⟨fun xq => ?_, hK _ ?_⟩; (focus ((go_at_call 9; exact grow_of (HE.out _)))); clear hK K))); refine wpQuiet_nil ?_; clear HG; intro wn HG)
  go_wp2_with (go_at_call 13; refine (HK.out _ (Pow10.kept (w := w) HP.out (by have hb0 := (HG); (repeat first | with_reducible exact hb0 | with_reducible refine G.drewN ?_ _ | with_reducible refine G.drew ?_ | with_reducible refine G.alloc ?_ _ | with_reducible refine G.set ?_ _ (Or.inr rfl) | (with_reducible refine G.set ?_ _ (Or.inl ?_); rotate_left; focus (first | omega | (simp; done) | (simp; omega))))))).mono ?_; rintro e wn ⟨rfl, hgn⟩; replace HG := G.trans (w := w) (by have hb0 := (HG); (repeat first | with_reducible exact hb0 | with_reducible refine G.drewN ?_ _ | with_reducible refine G.drew ?_ | with_reducible refine G.alloc ?_ _ | with_reducible refine G.set ?_ _ (Or.inr rfl) | (with_reducible refine G.set ?_ _ (Or.inl ?_); rotate_left; focus (first | omega | (simp; done) | (simp; omega))))) hgn; clear hgn)
  go_ret
  exact ⟨ret_bool (by simp), (by have hb0 := (HG); (repeat first | with_reducible exact hb0 | with_reducible refine G.drewN ?_ _ | with_reducible refine G.drew ?_ | with_reducible refine G.alloc ?_ _ | with_reducible refine G.set ?_ _ (Or.inr rfl) | (with_reducible refine G.set ?_ _ (Or.inl ?_); rotate_left; focus (first | omega | (simp; done) | (simp; omega)))))⟩
end Go.Proofs.YtjfdaoedpdiaeaaDoor
