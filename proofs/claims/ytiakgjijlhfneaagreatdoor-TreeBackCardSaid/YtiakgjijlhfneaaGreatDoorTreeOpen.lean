/-
  Nodes that came in as arguments. No program is named here.
-/
import Derived.Test.YtiakgjijlhfneaaGreatDoorLawPost
import Derived.Test.YtiakgjijlhfneaaGreatDoorTreeNode
import Derived.Deep.SlicePairs
import Derived.Deep.Fields
namespace Go.Proofs.YtiakgjijlhfneaaGreatDoor
open Go.ChangeShapes Go.WideShapes Go.RowKit Go.Deep
instance : Inhabited Nd := ⟨Nd.none⟩
theorem list4 {α : Type} {cs : List α} (h : cs.length = 4) : ∃ c0 c1 c2 c3, cs = [c0, c1, c2, c3] := by
  match cs, h with
  | [c0, c1, c2, c3], _ => exact ⟨c0, c1, c2, c3, rfl⟩
theorem weightsAll_mem {H : Type} {P : Program} {e : TypeId} : ∀ {l : List (DataW H)} {d : DataW H} (_ : d ∈ l) {n : Nat} (_ : n ∈ d.weights P e), n ∈ DataW.weightsAll P e l
  | [], _, h, _, _ => by cases h
  | d0 :: l, d, h, n, hn => by
    rw [DataW.weightsAll, List.mem_append]
    rcases List.mem_cons.1 h with rfl | h
    · exact Or.inl hn
    · exact Or.inr (weightsAll_mem h hn)
section
variable {H : Type} {enc : TypeId × Value → H} {P : Program} {W : World} {base : Nat} {sp : Nat → Bool} {held : Bool}
theorem node_cells {tN tK : TypeId} {f0 f1 f2 f3 : Field} (hN : P.underlying tN = some (.struct #[f0, f1, f2, f3])) (hone : oneCellFields P #[f0, f1, f2, f3] = true) (hC : P.cellsOf tN = 4)
    (k0 : P.underlying f0.type = some (.int .i64)) (k1 : P.underlying f1.type = some .string) (k2 : P.underlying f2.type = some (.int .i64)) (k3 : f3.type = tK) (hK : P.underlying tK = some (.slice tN)) :
    ∀ (fuel : Nat) (cs : List Value) (x : DataW H × List MemPlace), DataW.trod enc P W base sp held fuel tN cs = some x → (∀ n ∈ x.1.weights P tN, n ≤ reachBytes) → ∃ a : Nd, NdV W (fun _ => True) a cs := by
  intro fuel
  induction fuel using Nat.strongRecOn with
  | _ fuel ih =>
    intro cs x h hz
    obtain ⟨xs, n, hfu, hx, hl, hlen, hfl⟩ := DataW.trod_struct hN h
    rw [hC] at hl
    obtain ⟨x0, x1, x2, x3, rfl⟩ := list4 hl
    obtain ⟨q0, j0⟩ := Go.Deep.hone_of hone 0 f0 rfl
    obtain ⟨q1, j1⟩ := Go.Deep.hone_of hone 1 f1 rfl
    obtain ⟨q2, j2⟩ := Go.Deep.hone_of hone 2 f2 rfl
    obtain ⟨q3, j3⟩ := Go.Deep.hone_of hone 3 f3 rfl
    match xs, hlen with
    | [y0, y1, y2, y3], _ =>
      rw [hx] at hz
      have hz : ∀ n ∈ DataW.weightsEach P [f0.type, f1.type, f2.type, f3.type] [y0.1, y1.1, y2.1, y3.1], n ≤ reachBytes := by simpa [DataW.weights, hN] using hz
      simp only [DataW.weightsEach, List.mem_append] at hz
      have g0 := hfl 0 f0 rfl
      have g1 := hfl 1 f1 rfl
      have g2 := hfl 2 f2 rfl
      have g3 := hfl 3 f3 rfl
      simp [q0, q1, q2, q3, j0, j1, j2, j3] at g0 g1 g2 g3
      obtain ⟨a0, ha0, _, w0⟩ := DataW.trod_int k0 g0
      obtain ⟨nm, hn, hn2, _⟩ := DataW.trod_string k1 g1
      have hnl : nm.size ≤ 140737488351232 := by
        have := hz nm.data.toList.length (Or.inr (Or.inl (by rw [hn2]; simp [DataW.weights])))
        simpa [reachBytes] using this
      obtain ⟨a2, ha2, _, w2⟩ := DataW.trod_int k2 g2
      rw [k3] at g3
      simp only [List.cons.injEq, and_true] at hn ha0 ha2
      subst hn; subst ha0; subst ha2
      have w2' : -9223372036854775808 ≤ a2 ∧ a2 ≤ 9223372036854775807 := by simpa [Lit.wf, IntKind.min, IntKind.max, IntKind.signed, IntKind.bits] using w2
      rcases DataW.trod_slice hK g3 with ⟨e0, _⟩ | ⟨ad, len, cap, elems, rest, m, e1, e2, e3, hb, hlc, hm, hle, hel, _, _⟩
      · simp only [List.cons.injEq, and_true] at e0
        subst e0
        exact ⟨.mk a0 nm a2 [], .mk a0 nm a2 [] none 0 0 0 (fun _ => []) w2' hnl (Nat.le_refl _) (Nat.zero_le _) (fun h => absurd h (by simp)) (fun i hi => absurd hi (by simp)) (fun i hi => absurd hi (by simp))⟩
      · simp only [List.cons.injEq, and_true] at e2
        subst e2
        have each : ∀ i, i < len → ∃ q : Nd × List Value, (∀ j u, q.2[j]? = some u → W.cell? (ad.add (i * 4 + j)) = some u) ∧ NdV W (fun _ => True) q.1 q.2 := by
          intro i hi
          have hh := hel i hi
          rw [List.getElem?_eq_getElem (by omega), Option.bind_eq_some_iff, hC] at hh
          obtain ⟨cs', c1, c2⟩ := hh
          obtain ⟨a, ha⟩ := ih m (by omega) cs' _ c2 (fun n hn => hz n (Or.inr (Or.inr (Or.inr (Or.inl (by
            rw [e3]
            simp only [DataW.weights, k3, hK, List.mem_cons, List.mem_append]
            exact Or.inr (Or.inl (weightsAll_mem (List.mem_map.2 ⟨_, List.getElem_mem _, rfl⟩) hn))))))))
          obtain ⟨_, hlen', hcell⟩ := World.cells?_some c1
          refine ⟨(a, cs'), fun j u hu => ?_, ha⟩
          have hu : cs'[j]? = some u := hu
          have hj : j < 4 := by have := (List.getElem?_eq_some_iff.1 hu).1; omega
          have := hcell j hj
          rw [add_add] at this
          rw [this]; exact hu
        obtain ⟨q, hq⟩ := choose_lt each
        rcases Nat.eq_zero_or_pos len with h0 | hp
        · subst h0
          exact ⟨.mk a0 nm a2 [], .mk a0 nm a2 [] (some ad) cap 0 0 (fun _ => []) w2' hnl (Nat.zero_le _) hm (fun h => absurd h (by simp)) (fun i hi => absurd hi (by simp)) (fun i hi => absurd hi (by simp))⟩
        obtain ⟨A0, C0, ee, _, _⟩ := (hq 0 hp).2.form
        have z0 := (hq 0 hp).1 0 (.int .i64 (q 0).1.kind) (by rw [ee]; rfl)
        rw [Nat.zero_mul, show ad.add (0 + 0) = ad from rfl] at z0
        have hblk : ad.block < W.heap.size := by
          unfold World.cell? at z0
          rcases Nat.lt_or_ge ad.block W.heap.size with g | g
          · exact g
          · rw [Array.getElem?_eq_none g] at z0; cases z0
        have hspot : ad.spot = none := by
          unfold World.cell? at z0
          split at z0
          · rcases hs : ad.spot with _ | q
            · rfl
            · rw [hs] at z0; simp at z0
          · cases z0
        obtain ⟨ab, ao, asp⟩ := ad
        subst hspot
        have hln : ((List.range len).map fun i => (q i).1).length = len := by simp
        have key := NdV.mk (w := W) (ok := fun _ => True) a0 nm a2 ((List.range len).map fun i => (q i).1) (some ⟨ab, ao, none⟩) cap ab ao (fun i => (q i).2) w2' hnl (by rw [hln]; exact hlc) hm (fun _ => ⟨rfl, hblk, trivial⟩) (fun i hi j u hu => by
          rw [hln] at hi
          have := (hq i hi).1 j u hu
          have hadd : ∀ d, (⟨ab, ao, none⟩ : Addr).add d = ⟨ab, ao + d, none⟩ := fun d => by unfold Addr.add; split <;> simp_all
          rw [hadd] at this
          rw [Nat.add_assoc]
          exact this) (fun i hi => by
          rw [hln] at hi
          simp only [List.getElem_map, List.getElem_range]
          exact (hq i hi).2)
        rw [hln] at key
        exact ⟨_, key⟩
/-- a node that came in -/
theorem open_node {tN tK : TypeId} {f0 f1 f2 f3 : Field} {v : Value} {d : DataW H} {p : List MemPlace} {r : Reach} {b0 : Nat} (hN : P.underlying tN = some (.struct #[f0, f1, f2, f3])) (hone : oneCellFields P #[f0, f1, f2, f3] = true) (hC : P.cellsOf tN = 4)
    (k0 : P.underlying f0.type = some (.int .i64)) (k1 : P.underlying f1.type = some .string) (k2 : P.underlying f2.type = some (.int .i64)) (k3 : f3.type = tK) (hK : P.underlying tK = some (.slice tN))
    (hv : Value.okWide P W r b0 tN v) (h : DataW.Trod enc P W base sp held tN v d p) (hz : ∀ n ∈ d.weights P tN, n ≤ reachBytes) :
    ∃ (a : Nd) (A : Option Addr) (c : Nat), v = .agg #[.int .i64 a.kind, .string a.text, .int .i64 a.num, .slice A a.kids.length c] ∧ NdV W (fun _ => True) a (nodeC a.kind a.text a.num A a.kids.length c) := by
  obtain ⟨cs, rfl, hsz⟩ := okWide_struct hN hv
  obtain ⟨fuel, hf⟩ := h
  obtain ⟨a, ha⟩ := node_cells hN hone hC k0 k1 k2 k3 hK fuel _ _ hf hz
  have ha' : NdV W (fun _ => True) a cs.toList := ha
  obtain ⟨A, c, e, _, _⟩ := ha'.form
  rw [e] at ha'
  refine ⟨a, A, c, ?_, ha'⟩
  congr 1
  exact Array.toList_inj.1 e
end
end Go.Proofs.YtiakgjijlhfneaaGreatDoor
