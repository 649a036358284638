/-
  Rows of series as they came in; numbers in digits; a series' end.
-/
import Derived.Test.YtjfonckmfafdgaaDoorOutSpec
import Derived.Test.YtjfonckmfafdgaaDoorSerIs
namespace Go.Proofs.YtjfonckmfafdgaaDoor
open Go.RowKit
/-- a series with where its values lie -/
abbrev SerP := Ser × (Option Addr × Nat)
def slV (p : SerP) : Value := .slice p.2.1 p.1.vals.length p.2.2
def serE : Elt SerP := { cells := fun p => serC p.1 (slV p), k := 5, zero := .agg #[.string ⟨#[]⟩, .int .i64 0, .int .i64 0, .slice none 0 0, .int .i64 0], bytes := 64, len := fun _ => rfl, one := fun _ u h => (by simp [serC, slV] at h; rcases h with rfl | rfl | rfl | rfl | rfl <;> rfl), zc := rfl, pos := by omega, small := by omega }
def SerRow (w : World) (v : Value) (L : List SerP) : Prop := ERow serE w v L ∧ ∀ p ∈ L, ERow valE w (slV p) p.1.vals
/-- the series of a row -/
def sersOf (L : List SerP) : List Ser := L.map (·.1)
theorem sersOf_len (L : List SerP) : (sersOf L).length = L.length := by simp [sersOf]
theorem sersOf_at {L : List SerP} {i : Nat} (h : i < L.length) : serAt (sersOf L) i = L[i].1 := by rw [serAt_lt (by simpa [sersOf] using h)]; simp [sersOf]
theorem serCells {L : List SerP} {w wr : World} {b o i : Nat} (h : ∀ i (hi : i < L.length) j u, (serE.cells L[i])[j]? = some u → w.cell? ⟨b, o + i * serE.k + j, none⟩ = some u) (hg : w.grownBy wr none) (hb : b < w.heap.size) (hi : i < L.length) :
    wr.cell? ⟨b, o + i * 5, none⟩ = some (.string L[i].1.name) ∧ wr.cell? ⟨b, o + i * 5 + 1, none⟩ = some (.int .i64 L[i].1.start) ∧ wr.cell? ⟨b, o + i * 5 + 2, none⟩ = some (.int .i64 L[i].1.step) ∧ wr.cell? ⟨b, o + i * 5 + 3, none⟩ = some (slV L[i]) ∧ wr.cell? ⟨b, o + i * 5 + 4, none⟩ = some (.int .i64 L[i].1.cons) := by
  have key : ∀ j u, (serE.cells L[i])[j]? = some u → wr.cell? ⟨b, o + i * 5 + j, none⟩ = some u := fun j u hu => (G.cell hg (a := ⟨b, o + i * 5 + j, none⟩) hb (by simp)).trans (h i hi j u hu)
  exact ⟨key 0 _ rfl, key 1 _ rfl, key 2 _ rfl, key 3 _ rfl, key 4 _ rfl⟩
theorem isR_bound {b : Bool} {n : Int} (h : isR b n = true) : -9223372036854775808 ≤ n ∧ n ≤ 9223372036854775807 := by
  cases b
  · simp [isR] at h; omega
  · simp [isR] at h; omega
/-- a number in digits -/
def dgB (n : Int) : ByteArray := ⟨(Lib.itoa n).toArray⟩
theorem dgB_data (n : Int) : (dgB n).data.toList = Lib.itoa n := rfl
theorem dg_any (n : Int) (w : World) (h1 : -9223372036854775808 ≤ n) (h2 : n ≤ 9223372036854775807) (hp : Pow10 w) :
    Calls Tryd.prog 23 #[.int .i64 n] w fun e w' => e = .returned (.string (dgB n)) ∧ w.grownBy w' none :=
  (digits_any n w h1 h2 hp).mono fun _ _ ⟨_, he, hz, _, hg⟩ => ⟨by rw [he, ext_data hz]; rfl, hg⟩
theorem dgR_any (n : Int) (w : World) (h1 : -9223372036854775808 ≤ n) (h2 : n ≤ 9223372036854775807) :
    Calls Tryd.prog 28 #[.int .i64 n] w fun e w' => e = .returned (.string (dgB n)) ∧ w.grownBy w' none :=
  (refDigits_any n w h1 h2).mono fun _ _ ⟨_, he, hz, _, hg⟩ => ⟨by rw [he, ext_data hz]; rfl, hg⟩
theorem InS.endB {S : Ser} (h : InS S) : (0 : Int) ≤ (S.vals.length : Int) * S.step ∧ (S.vals.length : Int) * S.step ≤ 131941395333120 := h.time h.l
set_option maxHeartbeats 8000000 in
set_option maxRecDepth 100000 in
theorem end_any (S : Ser) (A : Option Addr) (c : Nat) (w : World) (h : ERow valE w (.slice A S.vals.length c) S.vals) (hS : isSer S = true) (hI : InS S) :
    Calls Tryd.prog 24 #[.agg #[.string S.name, .int .i64 S.start, .int .i64 S.step, .slice A S.vals.length c, .int .i64 S.cons]] w fun e w' => e = .returned (.int .i64 (endS S)) ∧ w.grownBy w' none := by
  have HK := Lib.hid (fun w h => serIs_any S (.slice A S.vals.length c) w h)
  rw [hS] at HK
  have HA := Lib.hid h; clear h
  have HG := G.refl w none
  have hE := hI.endB
  have h0 := hI.a0
  have h1 := hI.a1
  have hV : Hid (endS S = S.start + S.vals.length * S.step) := Lib.hid rfl
  rw [hV.out]
  clear hS
  generalize hm : (S.vals.length : Int) * S.step = m at *
  go_enter Tryd.func24, Tryd.ntmps24
  go_wp2_with (go_at_call 45; (with_reducible refine (HK.out _ (HA.out.kept0 (by exact G.go HG))).mono ?_); rintro e wn ⟨rfl, hgn⟩; have hs := Hx.kept (Hx.new w #[.string S.name, .int .i64 S.start, .int .i64 S.step, .slice A S.vals.length c, .int .i64 S.cons] 29) hgn (by simp); replace HG := G.trans (w := w) (by exact G.go HG) hgn; have hs_0 := hs.cell 0; have hs_1 := hs.cell 1; have hs_2 := hs.cell 2; have hs_3 := hs.cell 3; have hs_4 := hs.cell 4; have hs_f0 := hs.free 0; have hs_f1 := hs.free 1; have hs_f2 := hs.free 2; have hs_f3 := hs.free 3; have hs_f4 := hs.free 4; have hs_l := hs.lt; clear hgn)
  go_ret
  exact ⟨rfl, (by exact G.go HG)⟩
set_option maxHeartbeats 8000000 in
set_option maxRecDepth 100000 in
theorem endR_any (S : Ser) (A : Option Addr) (c : Nat) (w : World) (h : ERow valE w (.slice A S.vals.length c) S.vals) (hS : isSer S = true) (hI : InS S) :
    Calls Tryd.prog 29 #[.agg #[.string S.name, .int .i64 S.start, .int .i64 S.step, .slice A S.vals.length c, .int .i64 S.cons]] w fun e w' => e = .returned (.int .i64 (endS S)) ∧ w.grownBy w' none := by
  have HK := Lib.hid (fun w h => refIs18_any S (.slice A S.vals.length c) w h)
  rw [hS] at HK
  have HA := Lib.hid h; clear h
  have HG := G.refl w none
  have hE := hI.endB
  have h0 := hI.a0
  have h1 := hI.a1
  have hV : Hid (endS S = S.start + S.vals.length * S.step) := Lib.hid rfl
  rw [hV.out]
  clear hS
  generalize hm : (S.vals.length : Int) * S.step = m at *
  go_enter Tryd.func29, Tryd.ntmps29
  go_wp2_with (go_at_call 13; (with_reducible refine (HK.out _ (HA.out.kept0 (by exact G.go HG))).mono ?_); rintro e wn ⟨rfl, hgn⟩; have hs := Hx.kept (Hx.new w #[.string S.name, .int .i64 S.start, .int .i64 S.step, .slice A S.vals.length c, .int .i64 S.cons] 29) hgn (by simp); replace HG := G.trans (w := w) (by exact G.go HG) hgn; have hs_0 := hs.cell 0; have hs_1 := hs.cell 1; have hs_2 := hs.cell 2; have hs_3 := hs.cell 3; have hs_4 := hs.cell 4; have hs_f0 := hs.free 0; have hs_f1 := hs.free 1; have hs_f2 := hs.free 2; have hs_f3 := hs.free 3; have hs_f4 := hs.free 4; have hs_l := hs.lt; clear hgn)
  go_ret
  exact ⟨rfl, (by exact G.go HG)⟩
end Go.Proofs.YtjfonckmfafdgaaDoor
