/-
  The walks of series.Is and the reference's Is. Printed by genseris.py.
-/
import Derived.Test.YtjfonckmfafdgaaDoorSerSpec
namespace Go.Proofs.YtjfonckmfafdgaaDoor
open Go.RowKit
set_option maxHeartbeats 4000000 in
theorem isClos_any (b : Bool) (n : Int) (w : World) : Calls Tryd.prog 62 #[.agg #[.bool b, .int .i64 n]] w fun e w' => e = .returned (.bool (!isR b n)) ∧ w.grownBy w' none := by
  have HK := Lib.hid (fun w => fixedIs_any w b n)
  generalize isR b n = k at *
  have HG := G.refl w none
  go_enter Tryd.func62, Tryd.ntmps62
  go_wp2_with (go_at_call 46; (with_reducible refine (HK.out _).mono ?_); rintro e wn ⟨rfl, hgn⟩; replace HG := G.trans (w := w) (by exact G.go HG) hgn; clear hgn)
  go_ret
  exact ⟨rfl, (by exact G.go HG)⟩
def IdxPost (X : List (Bool × Int)) (w : World) (e : Ending) (w' : World) : Prop := ∃ k : Int, e = .returned (.int .i64 k) ∧ decide (0 ≤ k) = !(X.all fun p => isR p.1 p.2) ∧ -1 ≤ k ∧ k ≤ X.length ∧ w.grownBy w' none
theorem valCells {X : List (Bool × Int)} {w wr : World} {b o i : Nat} (h : ∀ i (hi : i < X.length) j u, (valE.cells X[i])[j]? = some u → w.cell? ⟨b, o + i * valE.k + j, none⟩ = some u) (hg : w.grownBy wr none) (hb : b < w.heap.size) (hi : i < X.length) :
    wr.cell? ⟨b, o + i * 2, none⟩ = some (.bool X[i].1) ∧ wr.cell? ⟨b, o + i * 2 + 1, none⟩ = some (.int .i64 X[i].2) := by
  have c0 : w.cell? ⟨b, o + i * 2, none⟩ = some (.bool X[i].1) := by have := h i hi 0 _ rfl; simpa [valE] using this
  have c1 : w.cell? ⟨b, o + i * 2 + 1, none⟩ = some (.int .i64 X[i].2) := by have := h i hi 1 _ rfl; simpa [valE] using this
  exact ⟨(G.cell hg (a := ⟨b, o + i * 2, none⟩) hb (by simp)).trans c0, (G.cell hg (a := ⟨b, o + i * 2 + 1, none⟩) hb (by simp)).trans c1⟩
set_option maxHeartbeats 8000000 in
theorem valsIdx_any (X : List (Bool × Int)) (v : Value) (w : World) (h : ERow valE w v X) :
    Calls Tryd.prog 73 #[v, .func (.func 62) #[] #[]] w fun e w' => IdxPost X w e w' := by
  have hle := h.le
  unfold maxLen at hle
  have HG := G.refl w none
  obtain ⟨A, c, rfl, q1, q2, q3⟩ := h
  have Q3 := Lib.hid q3; clear q3
  have eg := enters_of Tryd.func62 (by kernel_rfl) rfl
  go_enter Tryd.func73, Tryd.ntmps73
  go_wp2_with fail
  go_loopw [5, 8] (fun _ iv wr => ∃ (i : Nat), iv = .int .i64 i ∧ i ≤ X.length ∧ Hid (∀ j (hj : j < X.length), j < i → isR X[j].1 X[j].2 = true) ∧ w.grownBy wr none) (fun _ iv _ => X.length - (intOf iv).toNat)
  case atStart => exact ⟨0, rfl, by omega, Lib.hid (fun j _ h => by omega), HG⟩
  case round =>
    clear HG
    obtain ⟨i, rfl, hi, HV, HG⟩ := hrel
    by_cases hlt : i < X.length
    · obtain ⟨b, o, rfl, hbl, hc⟩ := Q3.out (by omega)
      obtain ⟨x0, x1⟩ := valCells hc HG hbl hlt
      have HK := Lib.hid (fun w => isClos_any X[i].1 X[i].2 w)
      have hall := Lib.hid (fun hk => @all_hit X i hlt hk)
      have hstep : Hid (isR X[i].1 X[i].2 = true → ∀ j (hj : j < X.length), j < i + 1 → isR X[j].1 X[j].2 = true) := Lib.hid (fun hk j hj hji => by
        rcases Nat.lt_or_ge j i with g | g
        · exact HV.out j hj g
        · obtain rfl : j = i := by omega
          exact hk)
      clear hc HV
      generalize isR X[i].1 X[i].2 = k at *
      generalize X[i].1 = vb at *
      generalize X[i].2 = vn at *
      cases k
      · have ha := Lib.hid (hall.out rfl)
        clear hall hstep
        go_wp2_with (go_at_call 62; (with_reducible refine (HK.out _).mono ?_); rintro e wn ⟨rfl, hgn⟩; replace HG := G.trans (w := w) (by exact G.go HG) hgn; clear hgn)
        go_ret
        exact ⟨i, rfl, by rw [ha.out]; simp, by omega, by omega, HG⟩
      · have hs := Lib.hid (hstep.out rfl)
        clear hall hstep
        go_wp2_with (go_at_call 62; (with_reducible refine (HK.out _).mono ?_); rintro e wn ⟨rfl, hgn⟩; replace HG := G.trans (w := w) (by exact G.go HG) hgn; clear hgn)
        refine ⟨?_, by first | (simp [intOf]; done) | (simp [intOf]; omega)⟩
        exact ⟨i + 1, by go_num, by omega, hs, HG⟩
    · have ha := Lib.hid (all_miss (X := X) (fun j hj => HV.out j hj (by omega)))
      clear HV
      go_wp2_with fail
      go_ret
      exact ⟨-1, rfl, by rw [ha.out]; rfl, by omega, by omega, HG⟩
set_option maxHeartbeats 4000000 in
theorem valsCont_any (X : List (Bool × Int)) (v : Value) (w : World) (h : ERow valE w v X) :
    Calls Tryd.prog 61 #[v, .func (.func 62) #[] #[]] w fun e w' => e = .returned (.bool (!(X.all fun p => isR p.1 p.2))) ∧ w.grownBy w' none := by
  have HK := Lib.hid (fun w h => valsIdx_any X v w h)
  have HA := Lib.hid h
  have hle := h.le
  unfold maxLen at hle
  have HG := G.refl w none
  clear h
  go_enter Tryd.func61, Tryd.ntmps61
  go_wp2_with (go_at_call 73; (with_reducible refine (HK.out _ (HA.out.kept0 (by exact G.go HG))).mono ?_); rintro e wn ⟨k, rfl, hk, k1, k2, hgn⟩; replace HG := G.trans (w := w) (by exact G.go HG) hgn; clear hgn)
  go_ret
  exact ⟨ret_bool (by first | exact hk | (rw [← hk]; done) | (rw [← hk]; simp; done) | (rw [← hk]; simp; omega)), HG⟩
set_option maxHeartbeats 16000000 in
set_option maxRecDepth 100000 in
theorem serIs_any (S : Ser) (sv : Value) (w : World) (h : ERow valE w sv S.vals) : Calls Tryd.prog 45 #[.agg #[.string S.name, .int .i64 S.start, .int .i64 S.step, sv, .int .i64 S.cons]] w fun e w' => e = .returned (.bool (isSer S)) ∧ w.grownBy w' none := by
  have hle := h.le
  unfold maxLen at hle
  have HG := G.refl w none
  have HK := Lib.hid (fun w h => valsCont_any S.vals sv w h)
  have HA := Lib.hid h
  have hV := Lib.hid (show isSer S = (isHead S && S.vals.all fun p => isR p.1 p.2) from rfl)
  obtain ⟨A, c, rfl, q1, q2, _⟩ := h
  rw [hV.out]
  by_cases hc0 : S.name.size ≤ 4096
  rotate_left
  · have hz : isHead S = false := by unfold isHead; simp only [decide_eq_false hc0, Bool.false_and]
    rw [hz, Bool.false_and]
    clear hz hV
    go_enter Tryd.func45, Tryd.ntmps45
    go_wp2_with fail
    go_ret
    exact ⟨rfl, (by exact G.go HG)⟩
  by_cases hc1 : 0 ≤ S.start
  rotate_left
  · have hz : isHead S = false := by unfold isHead; simp only [decide_eq_true hc0, decide_eq_false hc1, Bool.true_and, Bool.false_and]
    rw [hz, Bool.false_and]
    clear hz hV
    go_enter Tryd.func45, Tryd.ntmps45
    go_wp2_with fail
    go_ret
    exact ⟨rfl, (by exact G.go HG)⟩
  by_cases hc2 : S.start ≤ 4294967295
  rotate_left
  · have hz : isHead S = false := by unfold isHead; simp only [decide_eq_true hc0, decide_eq_true hc1, decide_eq_false hc2, Bool.true_and, Bool.false_and]
    rw [hz, Bool.false_and]
    clear hz hV
    go_enter Tryd.func45, Tryd.ntmps45
    go_wp2_with fail
    go_ret
    exact ⟨rfl, (by exact G.go HG)⟩
  by_cases hc3 : 1 ≤ S.step
  rotate_left
  · have hz : isHead S = false := by unfold isHead; simp only [decide_eq_true hc0, decide_eq_true hc1, decide_eq_true hc2, decide_eq_false hc3, Bool.true_and, Bool.false_and]
    rw [hz, Bool.false_and]
    clear hz hV
    go_enter Tryd.func45, Tryd.ntmps45
    go_wp2_with fail
    go_ret
    exact ⟨rfl, (by exact G.go HG)⟩
  by_cases hc4 : S.step ≤ 1099511627776
  rotate_left
  · have hz : isHead S = false := by unfold isHead; simp only [decide_eq_true hc0, decide_eq_true hc1, decide_eq_true hc2, decide_eq_true hc3, decide_eq_false hc4, Bool.true_and, Bool.false_and]
    rw [hz, Bool.false_and]
    clear hz hV
    go_enter Tryd.func45, Tryd.ntmps45
    go_wp2_with fail
    go_ret
    exact ⟨rfl, (by exact G.go HG)⟩
  by_cases hc5 : S.vals.length ≤ 131072
  rotate_left
  · have hz : isHead S = false := by unfold isHead; simp only [decide_eq_true hc0, decide_eq_true hc1, decide_eq_true hc2, decide_eq_true hc3, decide_eq_true hc4, decide_eq_false hc5, Bool.true_and, Bool.false_and]
    rw [hz, Bool.false_and]
    clear hz hV
    go_enter Tryd.func45, Tryd.ntmps45
    go_wp2_with fail
    go_ret
    exact ⟨rfl, (by exact G.go HG)⟩
  by_cases hc6 : 0 ≤ S.cons
  rotate_left
  · have hz : isHead S = false := by unfold isHead; simp only [decide_eq_true hc0, decide_eq_true hc1, decide_eq_true hc2, decide_eq_true hc3, decide_eq_true hc4, decide_eq_true hc5, decide_eq_false hc6, Bool.true_and, Bool.false_and]
    rw [hz, Bool.false_and]
    clear hz hV
    go_enter Tryd.func45, Tryd.ntmps45
    go_wp2_with fail
    go_ret
    exact ⟨rfl, (by exact G.go HG)⟩
  by_cases hc7 : S.cons ≤ 5
  rotate_left
  · have hz : isHead S = false := by unfold isHead; simp only [decide_eq_true hc0, decide_eq_true hc1, decide_eq_true hc2, decide_eq_true hc3, decide_eq_true hc4, decide_eq_true hc5, decide_eq_true hc6, decide_eq_false hc7, Bool.true_and]
    rw [hz, Bool.false_and]
    clear hz hV
    go_enter Tryd.func45, Tryd.ntmps45
    go_wp2_with fail
    go_ret
    exact ⟨rfl, (by exact G.go HG)⟩
  have hz : isHead S = true := by unfold isHead; simp only [decide_eq_true hc0, decide_eq_true hc1, decide_eq_true hc2, decide_eq_true hc3, decide_eq_true hc4, decide_eq_true hc5, decide_eq_true hc6, decide_eq_true hc7, Bool.true_and]
  rw [hz, Bool.true_and]
  clear hz hV
  generalize (S.vals.all fun p => isR p.1 p.2) = al at *
  cases al
  all_goals (
    go_enter Tryd.func45, Tryd.ntmps45
    go_wp2_with (go_at_call 61; (with_reducible refine (HK.out _ (HA.out.kept0 (by exact G.go HG))).mono ?_); rintro e wn ⟨rfl, hgn⟩; replace HG := G.trans (w := w) (by exact G.go HG) hgn; clear hgn)
    go_ret
    exact ⟨rfl, (by exact G.go HG)⟩)
set_option maxHeartbeats 16000000 in
set_option maxRecDepth 100000 in
theorem refIs18_any (S : Ser) (sv : Value) (w : World) (h : ERow valE w sv S.vals) : Calls Tryd.prog 13 #[.agg #[.string S.name, .int .i64 S.start, .int .i64 S.step, sv, .int .i64 S.cons]] w fun e w' => e = .returned (.bool (isSer S)) ∧ w.grownBy w' none := by
  have hle := h.le
  unfold maxLen at hle
  have HG := G.refl w none
  have HA := Lib.hid h
  have hV := Lib.hid (show isSer S = (isHead S && S.vals.all fun p => isR p.1 p.2) from rfl)
  obtain ⟨A, c, rfl, q1, q2, q3⟩ := h
  have Q3 := Lib.hid q3; clear q3
  rw [hV.out]
  by_cases hc0 : S.name.size ≤ 4096
  rotate_left
  · have hz : isHead S = false := by unfold isHead; simp only [decide_eq_false hc0, Bool.false_and]
    rw [hz, Bool.false_and]
    clear hz hV
    go_enter Tryd.func13, Tryd.ntmps13
    go_wp2_with fail
    go_ret
    exact ⟨rfl, (by exact G.go HG)⟩
  by_cases hc1 : 0 ≤ S.start
  rotate_left
  · have hz : isHead S = false := by unfold isHead; simp only [decide_eq_true hc0, decide_eq_false hc1, Bool.true_and, Bool.false_and]
    rw [hz, Bool.false_and]
    clear hz hV
    go_enter Tryd.func13, Tryd.ntmps13
    go_wp2_with fail
    go_ret
    exact ⟨rfl, (by exact G.go HG)⟩
  by_cases hc2 : S.start ≤ 4294967295
  rotate_left
  · have hz : isHead S = false := by unfold isHead; simp only [decide_eq_true hc0, decide_eq_true hc1, decide_eq_false hc2, Bool.true_and, Bool.false_and]
    rw [hz, Bool.false_and]
    clear hz hV
    go_enter Tryd.func13, Tryd.ntmps13
    go_wp2_with fail
    go_ret
    exact ⟨rfl, (by exact G.go HG)⟩
  by_cases hc3 : 1 ≤ S.step
  rotate_left
  · have hz : isHead S = false := by unfold isHead; simp only [decide_eq_true hc0, decide_eq_true hc1, decide_eq_true hc2, decide_eq_false hc3, Bool.true_and, Bool.false_and]
    rw [hz, Bool.false_and]
    clear hz hV
    go_enter Tryd.func13, Tryd.ntmps13
    go_wp2_with fail
    go_ret
    exact ⟨rfl, (by exact G.go HG)⟩
  by_cases hc4 : S.step ≤ 1099511627776
  rotate_left
  · have hz : isHead S = false := by unfold isHead; simp only [decide_eq_true hc0, decide_eq_true hc1, decide_eq_true hc2, decide_eq_true hc3, decide_eq_false hc4, Bool.true_and, Bool.false_and]
    rw [hz, Bool.false_and]
    clear hz hV
    go_enter Tryd.func13, Tryd.ntmps13
    go_wp2_with fail
    go_ret
    exact ⟨rfl, (by exact G.go HG)⟩
  by_cases hc5 : S.vals.length ≤ 131072
  rotate_left
  · have hz : isHead S = false := by unfold isHead; simp only [decide_eq_true hc0, decide_eq_true hc1, decide_eq_true hc2, decide_eq_true hc3, decide_eq_true hc4, decide_eq_false hc5, Bool.true_and, Bool.false_and]
    rw [hz, Bool.false_and]
    clear hz hV
    go_enter Tryd.func13, Tryd.ntmps13
    go_wp2_with fail
    go_ret
    exact ⟨rfl, (by exact G.go HG)⟩
  by_cases hc6 : 0 ≤ S.cons
  rotate_left
  · have hz : isHead S = false := by unfold isHead; simp only [decide_eq_true hc0, decide_eq_true hc1, decide_eq_true hc2, decide_eq_true hc3, decide_eq_true hc4, decide_eq_true hc5, decide_eq_false hc6, Bool.true_and, Bool.false_and]
    rw [hz, Bool.false_and]
    clear hz hV
    go_enter Tryd.func13, Tryd.ntmps13
    go_wp2_with fail
    go_ret
    exact ⟨rfl, (by exact G.go HG)⟩
  by_cases hc7 : S.cons ≤ 5
  rotate_left
  · have hz : isHead S = false := by unfold isHead; simp only [decide_eq_true hc0, decide_eq_true hc1, decide_eq_true hc2, decide_eq_true hc3, decide_eq_true hc4, decide_eq_true hc5, decide_eq_true hc6, decide_eq_false hc7, Bool.true_and]
    rw [hz, Bool.false_and]
    clear hz hV
    go_enter Tryd.func13, Tryd.ntmps13
    go_wp2_with fail
    go_ret
    exact ⟨rfl, (by exact G.go HG)⟩
  have hz : isHead S = true := by unfold isHead; simp only [decide_eq_true hc0, decide_eq_true hc1, decide_eq_true hc2, decide_eq_true hc3, decide_eq_true hc4, decide_eq_true hc5, decide_eq_true hc6, decide_eq_true hc7, Bool.true_and]
  rw [hz, Bool.true_and]
  clear hz hV
  go_enter Tryd.func13, Tryd.ntmps13
  go_upto_region 0 with (fail)
  go_cut [1] (fun p wc => p = .pointer (some ⟨w.heap.size, 0, none⟩) ∧ w.grownBy wc none ∧ Hx wc w.heap.size [.string S.name, .int .i64 S.start, .int .i64 S.step, .slice A S.vals.length c, .int .i64 S.cons] 29)
  case first =>
    go_wp2_with fail
    go_meet
    exact ⟨rfl, (by exact G.go HG), Hx.new _ _ _⟩
  obtain ⟨rfl, HG, hs⟩ := hcut
  have hs_0 := hs.cell 0; have hs_1 := hs.cell 1; have hs_2 := hs.cell 2; have hs_3 := hs.cell 3; have hs_4 := hs.cell 4; have hs_f0 := hs.free 0; have hs_f1 := hs.free 1; have hs_f2 := hs.free 2; have hs_f3 := hs.free 3; have hs_f4 := hs.free 4; have hs_l := hs.lt
  go_wp2_with fail
  go_loopw [3] (fun iv wr => ∃ (i : Nat), iv = .int .i64 i ∧ i ≤ S.vals.length ∧ Hid (∀ j (hj : j < S.vals.length), j < i → isR S.vals[j].1 S.vals[j].2 = true) ∧ w.grownBy wr none ∧ Hx wr w.heap.size [.string S.name, .int .i64 S.start, .int .i64 S.step, .slice A S.vals.length c, .int .i64 S.cons] 29) (fun iv _ => S.vals.length - (intOf iv).toNat)
  case atStart => exact ⟨0, rfl, by omega, Lib.hid (fun j _ h => by omega), HG, hs⟩
  case round =>
    clear HG hs hs_0 hs_1 hs_2 hs_3 hs_4 hs_f0 hs_f1 hs_f2 hs_f3 hs_f4 hs_l
    obtain ⟨i, rfl, hi, HV, HG, hs⟩ := hrel
    have hs_3 := hs.cell 3
    by_cases hlt : i < S.vals.length
    · obtain ⟨b, o, rfl, hbl, hcc⟩ := Q3.out (by omega)
      obtain ⟨x0, x1⟩ := valCells hcc HG hbl hlt
      have HK := Lib.hid (fun w => refIs_any w S.vals[i].1 S.vals[i].2)
      have hall := Lib.hid (fun hk => @all_hit S.vals i hlt hk)
      have hstep : Hid (isR S.vals[i].1 S.vals[i].2 = true → ∀ j (hj : j < S.vals.length), j < i + 1 → isR S.vals[j].1 S.vals[j].2 = true) := Lib.hid (fun hk j hj hji => by
        rcases Nat.lt_or_ge j i with g | g
        · exact HV.out j hj g
        · obtain rfl : j = i := by omega
          exact hk)
      clear hcc HV
      generalize isR S.vals[i].1 S.vals[i].2 = k at *
      generalize S.vals[i].1 = vb at *
      generalize S.vals[i].2 = vn at *
      cases k
      · have ha := Lib.hid (hall.out rfl)
        clear hall hstep
        go_wp2_with (go_at_call 31; (with_reducible refine (HK.out _).mono ?_); rintro e wn ⟨rfl, hgn⟩; replace HG := G.trans (w := w) (by exact G.go HG) hgn; replace hs := Hx.kept (by first | exact Hx.go hs | exact Hx.go2) hgn (by simp); clear hgn)
        go_ret
        exact ⟨ret_bool (by rw [ha.out]), HG⟩
      · have hss := Lib.hid (hstep.out rfl)
        clear hall hstep
        go_wp2_with (go_at_call 31; (with_reducible refine (HK.out _).mono ?_); rintro e wn ⟨rfl, hgn⟩; replace HG := G.trans (w := w) (by exact G.go HG) hgn; replace hs := Hx.kept (by first | exact Hx.go hs | exact Hx.go2) hgn (by simp); clear hgn)
        refine ⟨?_, by first | (simp [intOf]; done) | (simp [intOf]; omega)⟩
        exact ⟨i + 1, by go_num, by omega, hss, HG, hs⟩
    · have ha := Lib.hid (all_miss (X := S.vals) (fun j hj => HV.out j hj (by omega)))
      clear HV
      go_wp2_with fail
      go_ret
      exact ⟨ret_bool (by rw [ha.out]), HG⟩
end Go.Proofs.YtjfonckmfafdgaaDoor
