/-
  What a law's row asks behind the call, where the call made new memory alone; and arguments opened. No program is named here.
-/
import Derived.Test.YtjfonckmfafdgaaDoorElRow
import Derived.ReadAgain
import Derived.ChangeSame
import Derived.SliceStrings
import Derived.OpenShut
import Derived.ChangeBears
import Derived.ProofKit
import Derived.ChangeOld
import Derived.Lib.SmallJoins
namespace Go.Proofs.YtjfonckmfafdgaaDoor
open Go.ChangeShapes Go.WideShapes Go.RowKit
section
variable {H : Type} {enc : TypeId × Value → H} {P : Program}
theorem post_of_below {f : Func} {s : ChangeSpec} {apart fresh handsOn again : Bool} {W W' : World} {args : Array Value} {v : Value} {ds gs : List (DataW H)} {before pa pv : List MemPlace}
    (hW : DataW.Whole enc P f.params.toList s.vars apart W args.toList ds gs before)
    (hres : ∀ (b : Nat) (sp : Nat → Bool) (hd : Bool), DataW.TrodAll enc P W' b sp hd f.resultTypes.toList (v.resultList f.resultTypes.size) (s.fn H (ds ++ gs)).results [])
    (hargs : ∀ sp : Nat → Bool, (∀ p ∈ before, sp p.block = true) → DataW.TrodAll enc P W' 0 sp true f.params.toList args.toList (s.fn H (ds ++ gs)).args pa)
    (hvars : ∀ sp : Nat → Bool, (∀ p ∈ before, sp p.block = true) → DataW.TrodVars enc P W' sp s.vars (s.fn H (ds ++ gs)).vars pv)
    (hps : before = pa ++ pv) (hb : Below W.heap.size W W')
    (hok : ∀ (j : Nat) (t : TypeId) (r : Value), f.resultTypes[j]? = some t → (v.resultList f.resultTypes.size)[j]? = some r → Value.okWide P W' .any 0 t r) :
    s.post enc P f apart fresh handsOn again W args v W' := by
  have hlt : ∀ p ∈ before, p.block < W.heap.size := fun p hp => hW.lt p hp
  have hold : ∀ p ∈ before, (fun b => decide (b < W.heap.size)) p.block = true := fun p hp => by simpa using hlt p hp
  refine ⟨ds, gs, before, [], pa, pv, hW, hres _ _ _, hargs _ hold, hvars _ hold, World.keptBut_mono (fun p hp => ⟨hp, ?_⟩) (hb.frame (· ∈ before)), fun _ => ?_⟩
  · rw [hps, List.mem_append] at hp
    exact Or.inr hp
  · obtain ⟨_, _, _, _, _, hz, hn⟩ := hW
    refine ⟨hok, _, _, ([] ++ pa) ++ pv, ⟨[] ++ pa, pv, trodAll_append (hargs _ (fun _ _ => rfl)) (hres _ _ _), hvars _ (fun _ _ => rfl), rfl, ?_, ?_⟩, ?_⟩
    · intro b off hp
      have hin : MemPlace.cell b off ∈ before := by rw [hps]; simpa using hp
      rw [hb.frozen (hlt _ hin)]
      exact hz b off hin
    · intro ha
      have := hn ha
      rw [hps] at this
      simpa using this
    · intro p hp _
      rw [hps]
      simpa using hp
theorem trodAll_carry {w w' : World} {base : Nat} {spare : Nat → Bool} {held : Bool} (hb : Below w.heap.size w w') : ∀ {ts : List TypeId} {vs : List Value} {ds : List (DataW H)} {ps : List MemPlace},
    DataW.TrodAll enc P w base spare held ts vs ds ps → DataW.TrodAll enc P w' base spare held ts vs ds ps
  | [], [], [], _, h => h
  | _ :: _, _ :: _, _ :: _, _, ⟨p, q, ⟨n, hn⟩, h2, e⟩ => ⟨p, q, ⟨n, DataW.trod_carry n _ _ _ hn (fun x hx => hb.same (DataW.trod_lt n _ _ _ hn x hx))⟩, trodAll_carry hb h2, e⟩
/-- each slice's element has a cell -/
def fullB (P : Program) : Bool := (List.range P.types.size).all fun t => match P.underlying t with | some (.slice e) => decide (0 < P.cellsOf e) | _ => true
/-- A law that made new memory alone, and answered true: what its row asks. -/
theorem post_law {f : Func} {s : ChangeSpec} {apart fresh handsOn again : Bool} {W W' : World} {args : Array Value} {ds gs : List (DataW H)} {before : List MemPlace} {tb : TypeId}
    (hl : laidOutB P = true) (hm : mapsRowed P = true) (hz : fullB P = true)
    (hts : ∀ t ∈ f.params.toList, t < P.types.size) (hv : s.vars = []) (hrt : f.resultTypes = #[tb]) (htb : P.underlying tb = some .bool)
    (hW : DataW.Whole enc P f.params.toList s.vars apart W args.toList ds gs before)
    (hf : gs = [] → (s.fn H (ds ++ gs)).results = [.lit (.bool true)] ∧ (s.fn H (ds ++ gs)).args = ds ∧ (s.fn H (ds ++ gs)).vars = []) (hg : W.grownBy W' none) :
    s.post enc P f apart fresh handsOn again W args (.bool true) W' := by
  have hb := G.below hg
  have hW0 := hW
  obtain ⟨p, q, hA, hV, e, _, _⟩ := hW0
  rw [hv] at hV
  obtain ⟨hgs, hq⟩ := trodVars_none hV
  obtain ⟨f1, f2, f3⟩ := hf hgs
  subst hq
  refine post_of_below (pa := before) (pv := []) hW ?_ ?_ ?_ (by simp) hb ?_
  · intro b sp hd
    rw [f1, hrt]
    exact trodAll_cons_mk (shut_bool htb _) trodAll_mk0
  · intro sp hsp
    rw [f2]
    have e' : before = p := by rw [e]; simp
    subst e'
    exact trodAll_carry hb (DataW.TrodAll.respare (kids_rows hl hm) (slices_full_of P hz) hts hA hsp)
  · intro sp _
    rw [hv, f3]
    exact rfl
  · intro j t r ht hr
    rw [hrt] at ht hr
    have hj : j = 0 := by
      rcases Nat.eq_zero_or_pos j with h | h
      · exact h
      · rw [Array.getElem?_eq_none (by simp; omega)] at ht; cases ht
    subst hj
    obtain rfl : tb = t := by simpa using ht
    have : r = .bool true := by
      have : (Value.bool true).resultList 1 = [.bool true] := rfl
      rw [show (#[tb] : Array TypeId).size = 1 from rfl, this] at hr
      simpa using hr.symm
    subst this
    exact okWide_bool_mk htb _
/-- a row of texts that came in -/
theorem open_texts {W : World} {base : Nat} {sp : Nat → Bool} {held : Bool} {t e : TypeId} {v : Value} {d : DataW H} {p : List MemPlace} {r : Reach} {b0 : Nat} (ht : P.underlying t = some (.slice e)) (he : P.underlying e = some .string) (hc : P.cellsOf e = 1)
    (hv : Value.okWide P W r b0 t v) (h : DataW.Trod enc P W base sp held t v d p) (_hlt : ∀ q ∈ p, q.block < W.heap.size) : ∃ X : List ByteArray, ERow strE W v X ∧ ∀ j (hj : j < X.length), X[j].size ≤ maxLen := by
  obtain ⟨a, len, cap, rfl⟩ := okWide_slice ht hv
  obtain ⟨fuel, hf⟩ := h
  rcases open_strings ht he hc hf with ⟨h1, _⟩ | ⟨A, len', cap', ss, h1, _, hlc, hm, hss, hx, hcell, hsz⟩
  · have : (Value.slice a len cap).cells.toList = [.slice a len cap] := rfl
    rw [this] at h1
    simp only [List.cons.injEq, Value.slice.injEq, and_true] at h1
    obtain ⟨rfl, rfl, rfl⟩ := h1
    exact ⟨[], ERow.nil _, fun j hj => by simp at hj⟩
  · have : (Value.slice a len cap).cells.toList = [.slice a len cap] := rfl
    rw [this] at h1
    simp only [List.cons.injEq, Value.slice.injEq, and_true] at h1
    obtain ⟨rfl, rfl, rfl⟩ := h1
    have hle : len ≤ ss.length := by rw [hss]; split <;> omega
    have hl : (ss.take len).length = len := by rw [List.length_take]; omega
    refine ⟨ss.take len, ⟨some A, cap, by rw [hl], by omega, hm, fun hp => ?_⟩, fun j hj => ?_⟩
    · rw [hl] at hp
      have c0 := hcell 0 (by omega)
      have hblk : A.block < W.heap.size := by
        rw [show A.add 0 = A from rfl] at c0
        unfold World.cell? at c0
        rcases Nat.lt_or_ge A.block W.heap.size with g | g
        · exact g
        · rw [Array.getElem?_eq_none g] at c0; cases c0
      have hspot : A.spot = none := by
        rw [show A.add 0 = A from rfl] at c0
        unfold World.cell? at c0
        split at c0
        · rcases hs : A.spot with _ | q
          · rfl
          · rw [hs] at c0; simp at c0
        · cases c0
      refine ⟨A.block, A.off, ?_, hblk, fun i hi j u hu => ?_⟩
      · cases A; simp at hspot; subst hspot; rfl
      · rw [hl] at hi
        have ci := hcell i (by omega)
        have hj : j = 0 := by
          have := (List.getElem?_eq_some_iff.1 hu).1
          rw [strE.len] at this
          have e1 : strE.k = 1 := rfl
          omega
        subst hj
        have e2 : u = .string ((ss.take len)[i]'(by omega)) := by
          simp [strE] at hu
          rw [List.getElem_take]
          exact hu.symm
        subst e2
        have e3 : A.add i = ⟨A.block, A.off + i * strE.k + 0, none⟩ := by
          have e1 : strE.k = 1 := rfl
          unfold Addr.add
          rw [e1]
          split
          · rename_i h0; subst h0; cases A; simp at hspot; subst hspot; simp
          · simp
        rw [← e3, ci]
        simp [List.getD_eq_getElem?_getD]
        rw [List.getElem?_eq_getElem (by omega)]; rfl
    · rw [List.getElem_take]
      exact hsz _ (List.getElem_mem _)
open Go.Deep in
/-- a value that came in -/
theorem open_val {W : World} {base : Nat} {sp : Nat → Bool} {held : Bool} {t : TypeId} {f0 f1 : Field} {v : Value} {d : DataW H} {p : List MemPlace} {r : Reach} {b0 : Nat} (hs : P.underlying t = some (.struct #[f0, f1])) (hone : oneCellFields P #[f0, f1] = true) (hC : P.cellsOf t = 2)
    (h0 : P.underlying f0.type = some .bool) (h1 : P.underlying f1.type = some (.int .i64)) (hv : Value.okWide P W r b0 t v) (h : DataW.Trod enc P W base sp held t v d p) :
    ∃ (b : Bool) (n : Int), v = .agg #[.bool b, .int .i64 n] ∧ -9223372036854775808 ≤ n ∧ n ≤ 9223372036854775807 := by
  obtain ⟨v0, v1, y0, y1, m, rfl, _, _, e0, e1⟩ := Joins.open_agg2 hs hone hC hv h
  obtain ⟨b, hb, _⟩ := DataW.trod_bool h0 e0
  obtain ⟨n, hn, _, hwf⟩ := DataW.trod_int h1 e1
  simp only [List.cons.injEq, and_true] at hb hn
  subst hb; subst hn
  have := (show -9223372036854775808 ≤ n ∧ n ≤ 9223372036854775807 by simpa [Lit.wf, IntKind.min, IntKind.max, IntKind.signed, IntKind.bits] using hwf)
  exact ⟨b, n, rfl, this.1, this.2⟩
end
end Go.Proofs.YtjfonckmfafdgaaDoor
