/-
  The walk of the reference's Label of a function, a series and args.
-/
import Derived.Test.YtkablhamnepfnaaDoorSerLabel
import Derived.Test.YtkablhamnepfnaaDoorSerIs
import Derived.Test.YtkablhamnepfnaaDoorDecB
namespace Go.Proofs.YtkablhamnepfnaaDoor
open Go.RowKit
theorem info_strL : (Tryd.prog.info? 9).map (fun i => (i.zero, i.size, i.bytes)) = some (some strE.zero, strE.k, strE.bytes) := by kernel_rfl
/-- a row that was laid whole -/
theorem EOwn.of_hx {α : Type} {L : Elt α} {E : TypeId} {w : World} {base b : Nat} {ts : List α} {n : Nat} (h : Hx w b (ts.flatMap L.cells) E) (hb : base ≤ b) (hn : ts.length = n) (hm : n ≤ maxLen) : EOwn L E w base (.slice (some ⟨b, 0, none⟩) n n) ts := by
  subst hn
  refine ⟨L.flat_len ts, Or.inr ⟨b, ts.length, _, rfl, hb, h, Nat.le_refl _, hm, ?_, ?_⟩⟩
  · show ((ts.flatMap L.cells).toArray).size = _
    rw [List.size_toArray, L.flat_len]
  · show (ts.flatMap L.cells).take _ = _
    rw [List.take_of_length_le (by rw [L.flat_len]; exact Nat.le_refl _)]
/-- the texts of a label: the series' name, and the args in words -/
def labTexts (nm : ByteArray) (L : List (Bool × Int)) : List ByteArray := nm :: L.map fun p => printV p.1 p.2
theorem labTexts_take {nm : ByteArray} {L : List (Bool × Int)} {i : Nat} (h : i < L.length) : (labTexts nm L).take (i + 2) = (labTexts nm L).take (i + 1) ++ [printV L[i].1 L[i].2] := by
  unfold labTexts
  rw [List.take_succ_cons, List.take_succ_cons, List.take_add_one, List.cons_append]
  congr 1
  simp [h]
theorem labTexts_all {nm : ByteArray} {L : List (Bool × Int)} {i : Nat} (h : L.length ≤ i) : (labTexts nm L).take (i + 1) = labTexts nm L := by
  rw [List.take_of_length_le]
  unfold labTexts
  simp; omega
theorem labTexts_len (nm : ByteArray) (L : List (Bool × Int)) (i : Nat) (h : i ≤ L.length) : ((labTexts nm L).take (i + 1)).length = i + 1 := by
  unfold labTexts
  simp; omega
theorem printV_le (b : Bool) (n : Int) : (printV b n).size ≤ 100 := by
  cases hk : (b && isR b n)
  · rw [printV_none hk]; decide
  · rw [printV_some hk]
    cases b
    · cases hk
    have hb : -4611686018427387904 ≤ n ∧ n ≤ 4611686018427387904 := by simpa [isR] using hk
    rw [Lib.size_mk]
    unfold printL printA
    have h1 := decDigits_len (u := n.natAbs / 1000000) (k := 18) (by omega)
    have h2 := fracD_len (f := n.natAbs % 1000000) (by omega)
    simp only [List.length_append]
    split <;> split <;> simp <;> omega
theorem joinTail_len (X : List (List UInt8)) (c : Nat) (h : ∀ x ∈ X, x.length ≤ c) : (Lib.joinTail [44] X).length ≤ X.length * (c + 1) := by
  induction X with
  | nil => simp [Lib.joinTail]
  | cons x X ih =>
    have h1 := h x (by simp)
    have h2 := ih (fun y hy => h y (by simp [hy]))
    simp [Lib.joinTail, Nat.succ_mul] at h2 ⊢
    omega
theorem joinC_labTexts (nm : ByteArray) (L : List (Bool × Int)) : (joinC (labTexts nm L)).length ≤ nm.size + L.length * 101 := by
  unfold joinC labTexts
  rw [List.map_cons, Lib.join_cons, List.length_append]
  have := joinTail_len ((L.map fun p => printV p.1 p.2).map (·.data.toList)) 100 (fun x hx => by
    obtain ⟨y, hy, rfl⟩ := List.mem_map.1 hx
    obtain ⟨p, _, rfl⟩ := List.mem_map.1 hy
    have := printV_le p.1 p.2
    have e : (printV p.1 p.2).data.size = (printV p.1 p.2).size := rfl
    simp
    omega)
  have e : nm.data.size = nm.size := rfl
  simp at this ⊢
  omega
end Go.Proofs.YtkablhamnepfnaaDoor
