/-
  The walks of the values that are not none.
-/
import Derived.Test.YtfomknfjidbdcaaGreatDoorFixAddR
namespace Go.Proofs.YtfomknfjidbdcaaGreatDoor
open Go.RowKit
theorem info_val : (Tryz.prog.info? 28).map (fun i => (i.zero, i.size, i.bytes)) = some (some valE.zero, valE.k, valE.bytes) := by kernel_rfl
def knownP (p : Bool × Int) : Bool := p.1 && isR p.1 p.2
def knownL (X : List (Bool × Int)) : List (Bool × Int) := X.filter knownP
theorem knownL_yes {X : List (Bool × Int)} {i : Nat} (h : i < X.length) (hk : knownP X[i] = true) : knownL (X.drop i) = X[i] :: knownL (X.drop (i + 1)) := by
  unfold knownL; rw [List.drop_eq_getElem_cons h, List.filter_cons_of_pos hk]
theorem knownL_no {X : List (Bool × Int)} {i : Nat} (h : i < X.length) (hk : knownP X[i] = false) : knownL (X.drop i) = knownL (X.drop (i + 1)) := by
  unfold knownL; rw [List.drop_eq_getElem_cons h, List.filter_cons_of_neg (by rw [hk]; simp)]
theorem knownL_end {X : List (Bool × Int)} {i : Nat} (h : ¬ i < X.length) : knownL (X.drop i) = [] := by
  unfold knownL; rw [List.drop_eq_nil_of_le (by omega)]; rfl
set_option maxHeartbeats 8000000 in
set_option maxRecDepth 100000 in
theorem known6_any (X : List (Bool × Int)) (v : Value) (w : World) (h : ERow valE w v X) (hl : X.length ≤ 1000000) :
    Calls Tryz.prog 114 #[v] w fun e w' => ∃ u, e = .returned u ∧ EOwn valE 28 w' w.heap.size u (knownL X) ∧ w.grownBy w' none := by
  have HG := G.refl w none
  obtain ⟨A, c, rfl, q1, q2, q3⟩ := h
  have Q3 := Lib.hid q3; clear q3
  go_enter Tryz.func114, Tryz.ntmps114
  go_wp2_with fail
  go_loopw [3, 4] (fun mv iv wr => ∃ (i : Nat) (ts : List (Bool × Int)), iv = .int .i64 i ∧ i ≤ X.length ∧ ts.length ≤ i ∧ Hid (ts ++ knownL (X.drop i) = knownL X) ∧ w.grownBy wr none ∧ EOwn valE 28 wr w.heap.size mv ts) (fun _ iv _ => X.length - (intOf iv).toNat)
  case atStart => exact ⟨0, [], rfl, by omega, by simp, Lib.hid (by rw [List.drop_zero]; rfl), HG, EOwn.nil _ _ _ _⟩
  case round =>
    clear HG
    obtain ⟨i, ts, rfl, hi, hts, HV, HG, HO⟩ := hrel
    have hsz := HG.size
    by_cases hlt : i < X.length
    · obtain ⟨b, o, rfl, hbl, hc⟩ := Q3.out (by omega)
      have c0 : w.cell? ⟨b, o + i * 2, none⟩ = some (.bool X[i].1) := by have := hc i hlt 0 _ rfl; simpa [valE] using this
      have c1 : w.cell? ⟨b, o + i * 2 + 1, none⟩ = some (.int .i64 X[i].2) := by have := hc i hlt 1 _ rfl; simpa [valE] using this
      have x0 := (G.cell HG (a := ⟨b, o + i * 2, none⟩) hbl (by simp)).trans c0
      have x1 := (G.cell HG (a := ⟨b, o + i * 2 + 1, none⟩) hbl (by simp)).trans c1
      have HK := Lib.hid (fun w => known1_any w X[i].1 X[i].2)
      have hy := Lib.hid (@knownL_yes X i hlt)
      have hn := Lib.hid (@knownL_no X i hlt)
      have hkd : Hid (knownP X[i] = (X[i].1 && isR X[i].1 X[i].2)) := Lib.hid rfl
      have hpair : Hid (X[i] = (X[i].1, X[i].2)) := Lib.hid rfl
      generalize X[i] = p at *
      obtain ⟨vb, vn⟩ := p
      dsimp only at *
      generalize (vb && isR vb vn) = kk at *
      clear hc
      cases kk
      · have hnn := hn.out hkd.out
        have HVn := Lib.hid (hnn ▸ HV.out)
        clear hnn HV
        go_wp2_with (go_at_call 80; refine (HK.out _).mono ?_; rintro e wn ⟨rfl, hgn⟩; replace HO := HO.kept0 hgn; replace HG := G.trans HG hgn; clear hgn)
        refine ⟨?_, by first | (simp [intOf]; done) | (simp [intOf]; omega)⟩
        exact ⟨i + 1, ts, by go_num, by omega, by omega, HVn, (by exact G.go HG), (by have hb0 := (HO); (repeat first | with_reducible exact hb0 | with_reducible apply EOwn.drewN | with_reducible apply EOwn.drew | with_reducible apply EOwn.alloc | (with_reducible apply EOwn.set; (case hne => (first | assumption | omega | (simp; done) | (simp; omega))))))⟩
      · have hyy := hy.out hkd.out
        have HVn : Hid ((ts ++ [(vb, vn)]) ++ knownL (X.drop (i + 1)) = knownL X) := Lib.hid (by rw [← HV.out, hyy]; simp)
        clear hyy HV
        go_wp2_with (first | (go_at_call 80; refine (HK.out _).mono ?_; rintro e wn ⟨rfl, hgn⟩; have y0 := (G.cell hgn (a := ⟨b, o + i * 2, none⟩) (Nat.lt_of_lt_of_le hbl hsz) (by simp)).trans x0; have y1 := (G.cell hgn (a := ⟨b, o + i * 2 + 1, none⟩) (Nat.lt_of_lt_of_le hbl hsz) (by simp)).trans x1; replace HO := HO.kept0 hgn; replace HG := G.trans HG hgn; have hsz2 := HG.size; clear hgn) | (at_builtin; refine wpList_append_el valE rfl _ _ 22 28 rfl Tryz.underlying22 info_val w.heap.size u3 ts rfl _ (vb, vn) 28 rfl ?_ ?_; rotate_left; exact ⟨(by have hb0 := (HO); (repeat first | with_reducible exact hb0 | with_reducible apply EOwn.drewN | with_reducible apply EOwn.drew | with_reducible apply EOwn.alloc | (with_reducible apply EOwn.set; (case hne => (first | assumption | omega | (simp; done) | (simp; omega)))))), (by have hb0 := (Hx.new wn #[.bool vb, .int .i64 vn] 28); apply Hx.conv; (case h => (repeat first | with_reducible exact hb0 | with_reducible apply Hx.drewN | with_reducible apply Hx.drew | with_reducible apply Hx.set | with_reducible exact Hx.new _ _ _ | (with_reducible apply Hx.new'; (case hl => rfl); (case hb => (first | omega | (simp; done) | (simp; omega)))) | with_reducible apply Hx.alloc | (with_reducible apply Hx.other; (case hne => (first | omega | (simp; done) | (simp; omega)))))); (case e => (first | rfl | (simp; done) | (simp; omega)))), by simp; omega, by omega⟩; intro g' cap' w1 hown' hgrow; have HG1 := EOwn.grow (by have hb0 := (HO); (repeat first | with_reducible exact hb0 | with_reducible apply EOwn.drewN | with_reducible apply EOwn.drew | with_reducible apply EOwn.alloc | (with_reducible apply EOwn.set; (case hne => (first | assumption | omega | (simp; done) | (simp; omega)))))) (by exact G.go HG) hgrow))
        refine ⟨?_, by first | (simp [intOf]; done) | (simp [intOf]; omega)⟩
        exact ⟨i + 1, ts ++ [(vb, vn)], by go_num, by omega, by simp; omega, HVn, HG1, hown'⟩
    · have he := knownL_end hlt
      have hfin : Hid (ts = knownL X) := Lib.hid (by rw [← HV.out, he, List.append_nil])
      clear he HV
      go_wp2_with fail
      go_ret
      exact ⟨u3, rfl, by rw [← hfin.out]; exact HO, HG⟩
end Go.Proofs.YtfomknfjidbdcaaGreatDoor
