/-
  What out.CSV prints, in plain terms.
-/
import Derived.Test.YtjfonckmfafdgaaDoorOutSpec
import Derived.Test.YtjfonckmfafdgaaDoorSpanClk
namespace Go.Proofs.YtjfonckmfafdgaaDoor
open Go.RowKit
def csvPt (S : Ser) (k : Nat) : List UInt8 := fieldL S.name.data.toList ++ (44 :: (clockL (capT (timeS S k)) ++ (44 :: (prN [] (atW S.vals k) ++ [10]))))
def csvV (S : Ser) (k : Nat) : List UInt8 := joinP [] (csvPt S) k
def csvS (S : Ser) : List UInt8 := csvV S S.vals.length
def csvP (L : List Ser) (k : Nat) : List UInt8 := joinP [] (fun k => csvS (serAt L k)) k
theorem clockL_len (t : Int) : (clockL (capT t)).length = 19 := by
  have h := clock_parts (capT_le t)
  have h4 := dec_four (show 1000 ≤ (yOf 1970 (capT t / 86400)).1 by omega) (by omega)
  unfold clockL
  simp only [List.length_append, List.length_cons, List.length_nil, twoL, h4]
theorem fieldL_len (l : List UInt8) : (fieldL l).length ≤ 2 * l.length + 2 := by
  have := (fcs_len l).2
  unfold fieldL
  split
  · simp only [List.length_append, List.length_cons, List.length_nil]; omega
  · omega
theorem InS.csvPt_len {S : Ser} (h : InS S) (k : Nat) : (csvPt S k).length ≤ 724 := by
  have h1 := prN_len [] (by simp) (atW S.vals k)
  have h2 := clockL_len (timeS S k)
  have h3 := fieldL_len S.name.data.toList
  have h0 : S.name.data.toList.length = S.name.size := by simp
  have h4 := h.n
  unfold csvPt
  simp only [List.length_append, List.length_cons, List.length_nil]
  omega
theorem InS.csvV_len {S : Ser} (h : InS S) {k : Nat} (hk : k ≤ S.vals.length) : (csvV S k).length ≤ 724 * k := by
  exact joinP_len (n := k) (fun j _ => by have := h.csvPt_len j; simp only [List.length_nil]; omega) k (Nat.le_refl _)
theorem InS.csvS_len {S : Ser} (h : InS S) : (csvS S).length ≤ 87000 := by
  have h1 := h.csvV_len (Nat.le_refl _)
  have h2 := h.l
  unfold csvS
  omega
theorem Few.csvP_len {L : List Ser} (h : Few L) {k : Nat} (hk : k ≤ L.length) : (csvP L k).length ≤ 2000000 := by
  have hn := h.n
  have h1 : (joinP [] (fun k => csvS (serAt L k)) k).length ≤ 87000 * k :=
    joinP_len (n := k) (fun j hj => by have := (h.at (k := j) (by omega)).csvS_len; simp only [List.length_nil]; omega) k (Nat.le_refl _)
  unfold csvP
  omega
end Go.Proofs.YtjfonckmfafdgaaDoor
