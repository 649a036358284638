/-
  The walk of the law on lines of a table.
-/
import Derived.Test.YtjfonckmfafdgaaDoorOutLaw
import Derived.Test.YtjfonckmfafdgaaDoorOutOpen
import Derived.Test.YtjfonckmfafdgaaDoorOutCSVRef
namespace Go.Proofs.YtjfonckmfafdgaaDoor
open Go.RowKit
set_option maxHeartbeats 8000000 in
set_option maxRecDepth 100000 in
theorem outCSVLaw (v : Value) (L : List SerP) (w : World) (h : SerRow w v L) (hm : MaxLen w) (hp : Pow10 w) :
    Calls Tryd.prog 7 #[v] w fun e w' => e = .returned (.bool true) ∧ w.grownBy w' none := by
  have HP := Lib.hid hp; clear hp
  have HM := Lib.hid hm; clear hm
  have HA := Lib.hid h
  have HGd := Lib.hid (good28_any L v w h)
  have hv : ∃ A c, v = .slice A L.length c := by obtain ⟨A, c, e, _⟩ := h.1; exact ⟨A, c, e⟩
  clear h
  obtain ⟨A, c, rfl⟩ := hv
  have HG := G.refl w none
  go_enter Tryd.func7, Tryd.ntmps7
  go_wp2_with fail
  refine HGd.out.mono ?_
  rintro e wn ⟨r, rfl, hb, hgn⟩
  replace HG := G.trans (w := w) HG hgn
  have HB := Lib.hid hb
  clear hb hgn HGd
  cases r
  · go_wp2_with fail
    go_ret
    exact ⟨rfl, HG⟩
  have hF := HB.out rfl
  have HR1 := Lib.hid (fun W (hg : w.grownBy W none) => outCSV_any L (.slice A L.length c) W (HA.out.kept0 hg) hF (MaxLen.kept (w := w) HM.out hg) (Pow10.kept (w := w) HP.out hg))
  have HR2 := Lib.hid (fun W (hg : w.grownBy W none) => refCSV_any L (.slice A L.length c) W (HA.out.kept0 hg) hF)
  have HK := Lib.hid (fun W (hg : w.grownBy W none) => known28_any W (Pow10.kept (w := w) HP.out hg))
  clear hF HB
  generalize (⟨(csvP (sersOf L) L.length).toArray⟩ : ByteArray) = Z at *
  go_wp2_with (first | (go_at_call 20; (with_reducible refine (HR1.out _ (by exact G.go HG)).mono ?_); rintro e wn ⟨rfl, hgn⟩; replace HG := G.trans (w := w) (by exact G.go HG) hgn; clear hgn) | (go_at_call 21; (with_reducible refine (HR2.out _ (by exact G.go HG)).mono ?_); rintro e wn ⟨rfl, hgn⟩; replace HG := G.trans (w := w) (by exact G.go HG) hgn; clear hgn) | (go_at_call 11; (with_reducible refine (HK.out _ (by exact G.go HG)).mono ?_); rintro e wn ⟨rfl, hgn⟩; replace HG := G.trans (w := w) (by exact G.go HG) hgn; clear hgn))
  go_ret
  exact ⟨ret_bool (by simp), HG⟩
theorem maxLen_of {W : World} (h : W.ShapedOpen Tryd.prog) : MaxLen W := Tryd.laysM219.s1_3 W h
end Go.Proofs.YtjfonckmfafdgaaDoor
