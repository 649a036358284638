/-
  The walk of slices.IndexFunc over the table of functions, by name.
-/
import Derived.Test.YtfomknfjidbdcaaGreatDoorFmRows
import Derived.Test.YtfomknfjidbdcaaGreatDoorSerSpec
import Derived.Laws.StructEq
import Derived.MapKept
namespace Go.Proofs.YtfomknfjidbdcaaGreatDoor
open Go.RowKit
theorem sbeq (a b : ByteArray) : (a.toList == b.toList) = decide (a = b) := by
  rw [Bool.eq_iff_iff, ← beq_toListBytes, MapKept.bytes_beq]; simp
set_option maxHeartbeats 4000000 in
theorem fmClos_any (r : FRow) (nm : ByteArray) (w : World) (q : Nat) (hq : Hx w q [.string nm] 9) : Calls Tryz.prog 31 #[.agg #[.string r.name, .int .i64 r.need, .int .i64 r.most, r.f], .pointer (some ⟨q, 0, none⟩)] w fun e w' => e = .returned (.bool (decide (r.name = nm))) ∧ w.grownBy w' none := by
  have hq_0 := hq.cell 0
  have hq_l := hq.lt
  have HG := G.refl w none
  have hb := Lib.hid (sbeq r.name nm)
  have hf1 : r.f.oneCell' = true := rfl
  have hf2 : r.f.cells = #[r.f] := rfl
  generalize r.f = f at *
  go_enter Tryz.func31, Tryz.ntmps31
  go_wp2_with fail
  go_ret
  exact ⟨ret_bool hb.out, (by exact G.go HG)⟩
/-- the place of a name in the table -/
def FindPost (R : List FRow) (nm : ByteArray) (w : World) (e : Ending) (w' : World) : Prop :=
  (e = .returned (.int .i64 (-1)) ∧ (∀ j (hj : j < R.length), R[j].name ≠ nm) ∧ w.grownBy w' none) ∨ (∃ i : Nat, ∃ hi : i < R.length, e = .returned (.int .i64 i) ∧ R[i].name = nm ∧ (∀ j (hj : j < R.length), j < i → R[j].name ≠ nm) ∧ w.grownBy w' none)
theorem frow_cells {R : List FRow} {w wr : World} {b o i : Nat} (h : ∀ i (hi : i < R.length) j u, (frowE.cells R[i])[j]? = some u → w.cell? ⟨b, o + i * frowE.k + j, none⟩ = some u) (hg : w.grownBy wr none) (hb : b < w.heap.size) (hi : i < R.length) :
    wr.cell? ⟨b, o + i * 4, none⟩ = some (.string R[i].name) ∧ wr.cell? ⟨b, o + i * 4 + 1, none⟩ = some (.int .i64 R[i].need) ∧ wr.cell? ⟨b, o + i * 4 + 2, none⟩ = some (.int .i64 R[i].most) ∧ wr.cell? ⟨b, o + i * 4 + 3, none⟩ = some R[i].f := by
  have c0 : w.cell? ⟨b, o + i * 4, none⟩ = some (.string R[i].name) := by have := h i hi 0 _ rfl; simpa [frowE] using this
  have c1 : w.cell? ⟨b, o + i * 4 + 1, none⟩ = some (.int .i64 R[i].need) := by have := h i hi 1 _ rfl; simpa [frowE] using this
  have c2 : w.cell? ⟨b, o + i * 4 + 2, none⟩ = some (.int .i64 R[i].most) := by have := h i hi 2 _ rfl; simpa [frowE] using this
  have c3 : w.cell? ⟨b, o + i * 4 + 3, none⟩ = some R[i].f := by have := h i hi 3 _ rfl; simpa [frowE] using this
  exact ⟨(G.cell hg (a := ⟨b, o + i * 4, none⟩) hb (by simp)).trans c0, (G.cell hg (a := ⟨b, o + i * 4 + 1, none⟩) hb (by simp)).trans c1, (G.cell hg (a := ⟨b, o + i * 4 + 2, none⟩) hb (by simp)).trans c2, (G.cell hg (a := ⟨b, o + i * 4 + 3, none⟩) hb (by simp)).trans c3⟩
set_option maxHeartbeats 8000000 in
theorem fmFind_any (R : List FRow) (v : Value) (nm : ByteArray) (w : World) (h : ERow frowE w v R) (q : Nat) (hq : Hx w q [.string nm] 9) :
    Calls Tryz.prog 30 #[v, .func (.func 31) #[] #[.pointer (some ⟨q, 0, none⟩)]] w fun e w' => FindPost R nm w e w' := by
  have hle := h.le
  unfold maxLen at hle
  have HG := G.refl w none
  have HQ := Lib.hid hq
  clear hq
  obtain ⟨A, c, rfl, q1, q2, q3⟩ := h
  have Q3 := Lib.hid q3; clear q3
  go_enter Tryz.func30, Tryz.ntmps30
  go_wp2_with fail
  go_loopw [5, 8] (fun _ iv wr => ∃ (i : Nat), iv = .int .i64 i ∧ i ≤ R.length ∧ Hid (∀ j (hj : j < R.length), j < i → R[j].name ≠ nm) ∧ w.grownBy wr none) (fun _ iv _ => R.length - (intOf iv).toNat)
  case atStart => exact ⟨0, rfl, by omega, Lib.hid (fun j _ h => by omega), HG⟩
  case round =>
    clear HG
    obtain ⟨i, rfl, hi, HV, HG⟩ := hrel
    by_cases hlt : i < R.length
    · obtain ⟨b, o, rfl, hbl, hc⟩ := Q3.out (by omega)
      obtain ⟨x0, x1, x2, x3⟩ := frow_cells hc HG hbl hlt
      have HK := Lib.hid (fun w h => fmClos_any R[i] nm w q h)
      have hstep : Hid (R[i].name ≠ nm → ∀ j (hj : j < R.length), j < i + 1 → R[j].name ≠ nm) := Lib.hid (fun hk j hj hji => by
        rcases Nat.lt_or_ge j i with g | g
        · exact HV.out j hj g
        · obtain rfl : j = i := by omega
          exact hk)
      have hname := Lib.hid (show R[i].name = R[i].name from rfl)
      have hf1 : R[i].f.oneCell' = true := rfl
      have hf2 : R[i].f.cells = #[R[i].f] := rfl
      clear hc
      generalize hx : R[i].name = xn at *
      generalize R[i].need = n1 at *
      generalize R[i].most = n2 at *
      generalize R[i].f = f at *
      by_cases hk : xn = nm
      · rw [decide_eq_true hk] at HK
        have hk2 := Lib.hid hk
        have hx2 := Lib.hid hx
        clear hstep hk hx hname
        go_wp2_with (go_at_call 31; (with_reducible refine (HK.out _ (HQ.out.kept HG (by simp))).mono ?_); rintro e wn ⟨rfl, hgn⟩; replace HG := G.trans (w := w) (by exact G.go HG) hgn; clear hgn)
        go_ret
        exact Or.inr ⟨i, hlt, rfl, by rw [hx2.out]; exact hk2.out, HV.out, HG⟩
      · rw [decide_eq_false hk] at HK
        have hs := Lib.hid (hstep.out hk)
        clear hstep hk hx HV hname
        go_wp2_with (go_at_call 31; (with_reducible refine (HK.out _ (HQ.out.kept HG (by simp))).mono ?_); rintro e wn ⟨rfl, hgn⟩; replace HG := G.trans (w := w) (by exact G.go HG) hgn; clear hgn)
        refine ⟨?_, by first | (simp [intOf]; done) | (simp [intOf]; omega)⟩
        exact ⟨i + 1, by go_num, by omega, hs, HG⟩
    · go_wp2_with fail
      go_ret
      exact Or.inl ⟨rfl, fun j hj => HV.out j hj (by omega), HG⟩
end Go.Proofs.YtfomknfjidbdcaaGreatDoor
