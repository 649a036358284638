/-
  The walks of the law's heavy, same, known and applied. Printed by genlaw.py, without the reference.
-/
import Derived.Test.YtkablhamnepfnaaDoorFsApply
namespace Go.Proofs.YtkablhamnepfnaaDoor
open Go.RowKit
/-- is a series more than is looked at? -/
def bigS (S : Ser) : Bool := decide (120 < S.vals.length) || decide (300 < S.name.size)
set_option maxHeartbeats 8000000 in
theorem heavy20_any (S : Ser) (sv : Value) (w : World) (h : ERow valE w sv S.vals) (B : Nat) (hs : Hx w B [.string S.name, .int .i64 S.start, .int .i64 S.step, sv, .int .i64 S.cons] 26) : Calls Tryd.prog 7 #[.slice (some ⟨B, 0, none⟩) 1 1] w fun e w' => e = .returned (.bool (bigS S)) ∧ w.grownBy w' none := by
  have hle := h.le
  unfold maxLen at hle
  have HG := G.refl w none
  obtain ⟨A, c, rfl, q1, q2, q3⟩ := h
  clear q3
  have hbig := Lib.hid (show bigS S = (decide (120 < S.vals.length) || decide (300 < S.name.size)) from rfl)
  have hs_0 := hs.cell 0; have hs_f0 := hs.free 0; have hs_1 := hs.cell 1; have hs_f1 := hs.free 1; have hs_2 := hs.cell 2; have hs_f2 := hs.free 2; have hs_3 := hs.cell 3; have hs_f3 := hs.free 3; have hs_4 := hs.cell 4; have hs_f4 := hs.free 4; have hs_l := hs.lt
  generalize bigS S = big at *
  by_cases h1 : 120 < S.vals.length
  · obtain rfl : big = true := by rw [hbig.out, decide_eq_true h1]; rfl
    go_enter Tryd.func7, Tryd.ntmps7
    go_wp2_with fail
    go_loopw [3, 4] (fun nv iv wr => wr = w ∧ nv = .int .i64 0 ∧ iv = .int .i64 0) (fun _ iv _ => 2 - (intOf iv).toNat)
    case atStart => exact ⟨rfl, rfl, rfl⟩
    case round =>
      obtain ⟨rfl, rfl, rfl⟩ := hrel
      go_wp2_with fail
      go_ret
      exact ⟨rfl, (by exact G.go HG)⟩
  by_cases h2 : 300 < S.name.size
  · obtain rfl : big = true := by rw [hbig.out, decide_eq_true h2, Bool.or_true]
    go_enter Tryd.func7, Tryd.ntmps7
    go_wp2_with fail
    go_loopw [3, 4] (fun nv iv wr => wr = w ∧ nv = .int .i64 0 ∧ iv = .int .i64 0) (fun _ iv _ => 2 - (intOf iv).toNat)
    case atStart => exact ⟨rfl, rfl, rfl⟩
    case round =>
      obtain ⟨rfl, rfl, rfl⟩ := hrel
      go_wp2_with fail
      go_ret
      exact ⟨rfl, (by exact G.go HG)⟩
  obtain rfl : big = false := by rw [hbig.out, decide_eq_false h1, decide_eq_false h2]; rfl
  go_enter Tryd.func7, Tryd.ntmps7
  go_wp2_with fail
  go_loopw [3, 4] (fun nv iv wr => wr = w ∧ ((nv = .int .i64 0 ∧ iv = .int .i64 0) ∨ (nv = .int .i64 S.vals.length ∧ iv = .int .i64 1))) (fun _ iv _ => 2 - (intOf iv).toNat)
  case atStart => exact ⟨rfl, Or.inl ⟨rfl, rfl⟩⟩
  case round =>
    obtain ⟨rfl, ⟨rfl, rfl⟩ | ⟨rfl, rfl⟩⟩ := hrel
    · go_wp2_with fail
      refine ⟨?_, by first | (simp [intOf]; done) | (simp [intOf]; omega)⟩
      first | exact ⟨rfl, Or.inr ⟨by simp, rfl⟩⟩ | (simp; done) | (simp; omega)
    · go_wp2_with fail
      go_ret
      exact ⟨ret_bool (by simp; try omega), (by exact G.go HG)⟩
theorem known20_spec : fsApply ⟨#[105, 110, 116, 101, 114, 112, 111, 108, 97, 116, 101]⟩ ⟨⟨#[97]⟩, 0, 1, [(true, 1), (false, 0), (false, 0), (true, 4)], 0⟩ [] = some ⟨⟨#[105, 110, 116, 101, 114, 112, 111, 108, 97, 116, 101, 40, 97, 41]⟩, 0, 1, [(true, 1), (true, 2), (true, 3), (true, 4)], 0⟩ := by kernel_rfl
set_option maxHeartbeats 8000000 in
theorem lawKnown20_any (w : World) (hp : Pow10 w) : Calls Tryd.prog 5 #[] w fun e w' => e = .returned (.bool true) ∧ w.grownBy w' none := by
  have HG := G.refl w none
  have HP := Lib.hid hp; clear hp
  have HA := Lib.hid (fun w2 sv lv h hl hpp => fsApply_any ⟨#[105, 110, 116, 101, 114, 112, 111, 108, 97, 116, 101]⟩ ⟨⟨#[97]⟩, 0, 1, [(true, 1), (false, 0), (false, 0), (true, 4)], 0⟩ sv lv [] w2 h hl (by decide) (by decide) (by decide) (by decide) (by decide) hpp)
  simp only [known20_spec] at HA
  go_enter Tryd.func5, Tryd.ntmps5
  go_wp2_with (go_at_call 6; (with_reducible refine (HA.out _ _ _ ?_ ?_ ?_).mono ?_); (exact ERow.of_hx (ts := [(true, 1), (false, 0), (false, 0), (true, 4)]) (by simp) (by decide) (by have hb0 := ((Hx.new w #[.bool true, .int .i64 1, .bool false, .int .i64 0, .bool false, .int .i64 0, .bool true, .int .i64 4] 28 : Hx _ w.heap.size [.bool true, .int .i64 1, .bool false, .int .i64 0, .bool false, .int .i64 0, .bool true, .int .i64 4] 28)); apply Hx.conv; (case h => (repeat first | with_reducible exact hb0 | with_reducible apply Hx.drewN | with_reducible apply Hx.drew | with_reducible apply Hx.set | with_reducible exact Hx.new _ _ _ | (with_reducible apply Hx.new'; (case hl => rfl); (case hb => (first | omega | (simp; done) | (simp; omega)))) | with_reducible apply Hx.alloc | (with_reducible apply Hx.other; (case hne => (first | omega | (simp; done) | (simp; omega)))))); (case e => (first | rfl | (simp; done) | (simp; omega))))); (exact ERow.nil _); (exact Pow10.kept (w := w) HP.out (by exact G.go HG)); rintro e wn ⟨u, rfl, hu, hgn⟩; replace HG := G.trans (w := w) (by exact G.go HG) hgn; obtain ⟨A, c, rfl, _, _, q3⟩ := hu; obtain ⟨b, o, rfl, hb, hc⟩ := q3 (by simp); have z2 : wn.cell? ⟨b, o + 2, none⟩ = some (.bool true) := (by simpa [valE] using hc 1 (by simp) 0 _ rfl); have z3 : wn.cell? ⟨b, o + 2 + 1, none⟩ = some (.int .i64 2) := (by simpa [valE] using hc 1 (by simp) 1 _ rfl); have z4 : wn.cell? ⟨b, o + 4, none⟩ = some (.bool true) := (by simpa [valE] using hc 2 (by simp) 0 _ rfl); have z5 : wn.cell? ⟨b, o + 4 + 1, none⟩ = some (.int .i64 3) := (by simpa [valE] using hc 2 (by simp) 1 _ rfl); have z3b : wn.cell? ⟨b, o + 3, none⟩ = some (.int .i64 2) := z3; have z5b : wn.cell? ⟨b, o + 5, none⟩ = some (.int .i64 3) := z5; clear hc q3 hgn)
  go_ret
  exact ⟨rfl, (by exact G.go HG)⟩
end Go.Proofs.YtkablhamnepfnaaDoor
