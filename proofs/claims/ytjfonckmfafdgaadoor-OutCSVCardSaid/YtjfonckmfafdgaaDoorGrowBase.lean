/-
  A region that draws its order and whose callees only lay new blocks: one walk of the order of the text serves every order. No program is named here.
  A region that draws its order, whose callees only lay new blocks, and whose last operation waits for all others: the others are walked once, in the order of the text, and the last one as it stands. No program is named here.
  A region that draws its order, in which each operation makes a promise on what it leaves, good in every later world that has but new blocks more; the last operations come behind all others, one by one. No program is named here.
  A region that draws its order, told by promises, in which some operations lay new blocks that are to be told apart. No program is named here.
-/
import Derived.Test.YtjfonckmfafdgaaDoorAid
import Derived.Deep.QuietTactic
namespace Go.Proofs.YtjfonckmfafdgaaDoor
open Go.RowKit
/-- a world behind this one, with nothing but new blocks -/
def GrowW (w0 : World) : Type := { w' : World // w0.grownBy w' none }
instance (w0 : World) : Nonempty (GrowW w0) := ⟨⟨w0, G.refl w0 none⟩⟩
theorem GrowW.cell {w0 : World} (x : GrowW w0) {a : Addr} (ha : a.block < w0.heap.size) : x.1.cell? a = w0.cell? a := G.cell x.2 ha (by simp)
theorem wp_region_grow {P : Program} {id : Nat} {Q : Exit → Act → World → Prop} {a : Act} {w0 w : World} {l : List Oper} (hg : w0.grownBy w none) (hm : P.follows .mixedOrders = true) (hB : Region.lexB .any l.toArray = true)
    (h : wpQuiet P l.toArray (fun w' => ∃ x : GrowW w0, w' = x.1) (fun a' => ∀ w', w0.grownBy w' none → Q .normal a' w') l a) : (Code.region id l.toArray true).wp P Q a w := by
  refine wp_region_quiet (C := fun w' => ∃ x : GrowW w0, w' = x.1) hm hB ⟨⟨_, G.drew hg⟩, rfl⟩ ?_
  have e : (fun a' => ∀ w', w0.grownBy w' none → Q .normal a' w') = (fun a' => ∀ w', (∃ x : GrowW w0, w' = x.1) → Q .normal a' w') := by
    funext a'
    apply propext
    exact ⟨fun k w' ⟨x, hx⟩ => k w' (hx ▸ x.2), fun k w' hw => k w' ⟨⟨w', hw⟩, rfl⟩⟩
  rw [e] at h
  simpa using h
theorem grow_of {P : Program} {f : FuncId} {args : Array Value} {w0 : World} {x : GrowW w0} {v : Value} (h : Calls P f args x.1 fun e w' => e = .returned v ∧ x.1.grownBy w' none) :
    Calls P f args x.1 fun e w'' => e = .returned v ∧ ∃ y : GrowW w0, w'' = y.1 :=
  h.mono fun _ w' ⟨he, hg⟩ => ⟨he, ⟨w', G.trans x.2 hg⟩, rfl⟩
theorem grow_same {P : Program} {f : FuncId} {args : Array Value} {w0 : World} {x : GrowW w0} {v : Value} (h : Calls P f args x.1 fun e w' => e = .returned v ∧ x.1 = w') :
    Calls P f args x.1 fun e w'' => e = .returned v ∧ ∃ y : GrowW w0, w'' = y.1 :=
  h.mono fun _ _ ⟨he, hw⟩ => ⟨he, x, hw.symm⟩
end Go.Proofs.YtjfonckmfafdgaaDoor
namespace Go.Proofs.YtjfonckmfafdgaaDoor
open Go.RowKit
theorem Hx.inG {w0 : World} {b : Nat} {cs : List Value} {T : TypeId} (h : Hx w0 b cs T) (x : GrowW w0) : Hx x.1 b cs T := h.kept x.2 (by simp)
/-- the last operation, with nothing done -/
def idle (o : Oper) : Oper := { o with op := .move (.const undef) }
section
variable {P : Program} {C : World → Prop} {md : Region.Mode}
theorem ready_some {ops : Array Oper} {listed : Array Bool} (hac : ∀ (i : Nat) (o : Oper), ops[i]? = some o → ∀ e ∈ o.after, e.on < i) (n : Nat) (hn : n < ops.size) (hl : listed.getD n true = false) (hz : listed.size = ops.size) : Region.ready md ops listed ≠ [] := by
  induction n using Nat.strongRecOn with
  | _ n ih =>
    by_cases h : ∃ j, j < n ∧ listed.getD j true = false
    · obtain ⟨j, hj, h0⟩ := h
      exact ih j hj (by omega) h0
    · intro e
      have hm : n ∈ Region.ready md ops listed := by
        rw [mem_ready]
        refine ⟨hl, ops[n], by simp [hn], fun e he _ => ?_⟩
        have h1 := hac n _ (by simp [hn]) e he
        have h2 : listed.getD e.on true ≠ false := fun h2 => h ⟨_, h1, h2⟩
        have h3 : e.on < listed.size := by omega
        simp [h3] at h2 ⊢
        exact h2
      rw [e] at hm
      cases hm
theorem yielded_same {ops ops' : Array Oper} (h : ∀ i : Nat, (ops'[i]?).bind (fun x : Oper => x.dst) = (ops[i]?).bind (fun x : Oper => x.dst)) (t : Array Value) : yielded ops' t = yielded ops t := by
  funext j
  unfold yielded
  rw [h]
theorem wpAny_of_last {ops ops' : Array Oper} {n : Nat} {o : Oper} {Qq : Act → Prop} {Q : Exit → Act → World → Prop} (hsz : ops.size = n + 1) (hi : ∀ i : Nat, i ≠ n → ops'[i]? = ops[i]?) (ho : ops[n]? = some o) (ho' : ops'[n]? = some (idle o)) (hd : o.dst = none) (hg : o.guard = none)
    (hdep : ∀ i : Nat, i < n → ∃ e ∈ o.after, Region.binds md e = true ∧ e.on = i) (hac : ∀ (i : Nat) (o : Oper), ops[i]? = some o → ∀ e ∈ o.after, e.on < i) (hQ : ∀ a w, C w → Qq a → wpList P ops Q [o] a w) :
    ∀ (fuel : Nat) (listed : Array Bool) (a : Act) (w : World), C w → listed.size = n + 1 → listed.getD n true = false → wpAnyQ P md ops' C Qq fuel listed a → wpAny P md ops Q fuel listed a w := by
  have hdst : ∀ i : Nat, (ops'[i]?).bind (fun x : Oper => x.dst) = (ops[i]?).bind (fun x : Oper => x.dst) := by
    intro i
    by_cases h : i = n
    · subst h; rw [ho, ho']; rfl
    · rw [hi i h]
  have hsz' : ops'.size = n + 1 := by
    have h1 : n < ops'.size := (Array.getElem?_eq_some_iff.1 ho').1
    rcases Nat.lt_or_ge (n + 1) ops'.size with g | g
    · have := hi (n + 1) (by omega)
      rw [Array.getElem?_eq_none (xs := ops) (by omega), Array.getElem?_eq_none_iff] at this
      omega
    · omega
  have hrd : ∀ listed, Region.ready md ops' listed = Region.ready md ops listed := by
    intro listed
    unfold Region.ready
    rw [hsz', hsz]
    congr 1
    funext i
    by_cases h : i = n
    · subst h; rw [ho, ho']; rfl
    · rw [hi i h]
  intro fuel
  induction fuel with
  | zero =>
    intro listed a w _ hls hl h
    exact absurd h.1 (by rw [hrd]; exact ready_some hac n (by omega) hl (by omega))
  | succ fuel ih =>
    intro listed a w hw hls hl h
    refine ⟨fun h0 => absurd h0 (ready_some hac n (by omega) hl (by omega)), fun i hir => ?_⟩
    have hq := h.2 i (by rw [hrd]; exact hir)
    by_cases hin : i = n
    · subst hin
      obtain ⟨_, o1, ho1, hall⟩ := mem_ready.1 hir
      rw [ho] at ho1
      obtain rfl := Option.some.inj ho1
      have hdone : ∀ j, j < i + 1 → (listed.setIfInBounds i true).getD j true = true := by
        intro j hj
        by_cases hji : j = i
        · subst hji; simp [hls]
        · obtain ⟨e, he, hb, hon⟩ := hdep j (by omega)
          have h1 := hall e he hb
          rw [hon] at h1
          have h2 : j < listed.size := by omega
          rw [getD_set_ne true (Ne.symm hji)]
          simp [h2] at h1 ⊢
          exact h1
      have hnil : Region.ready md ops (listed.setIfInBounds i true) = [] := by
        rw [List.eq_nil_iff_forall_not_mem]
        intro j hj
        obtain ⟨h1, o2, ho2, _⟩ := mem_ready.1 hj
        have h2 : j < ops.size := (Array.getElem?_eq_some_iff.1 ho2).1
        rw [hdone j (by omega)] at h1
        cases h1
      unfold qOp at hq
      simp only [ho'] at hq
      rw [if_pos (by simp [Region.wanted, idle, hg])] at hq
      obtain ⟨v, _, hk⟩ := hq
      have ha : a.put (idle o).dst v = a := by show a.put o.dst v = a; rw [hd]; rfl
      rw [ha] at hk
      have hQa : Qq a := by
        cases fuel with
        | zero => exact hk.2
        | succ f => exact hk.1 (by rw [hrd]; exact hnil)
      unfold wpOp
      simp only [ho]
      rw [if_pos (by simp [Region.wanted, hg])]
      have hl1 := hQ a w hw hQa
      unfold wpList at hl1
      rw [if_pos (by simp [Region.wanted, hg])] at hl1
      rcases hl1 with hl1 | hl1
      · refine Or.inl (Oper.wp_mono (fun a' w' h' => ?_) hl1)
        unfold wpList at h'
        cases fuel with
        | zero => exact ⟨hnil, h'⟩
        | succ f => exact ⟨fun _ => h', fun j hj => by rw [hnil] at hj; cases hj⟩
      · exact Or.inr hl1
    · refine wpOp_of_qOp hw (K := wpAnyQ P md ops' C Qq fuel (listed.setIfInBounds i true)) (fun a' w' hw' hk => ih _ a' w' hw' (by simpa using hls) (by rw [getD_set_ne true hin]; exact hl) hk) ?_
      unfold qOp at hq ⊢
      rw [hi i hin, yielded_same hdst] at hq
      exact hq
end
def mapLast (f : Oper → Oper) : List Oper → List Oper
  | [] => []
  | [o] => [f o]
  | o :: p :: r => o :: mapLast f (p :: r)
def lastOf : List Oper → Option Oper
  | [] => none
  | [o] => some o
  | _ :: p :: r => lastOf (p :: r)
/-- does the last one wait for all others, and none for a later one? -/
def lastB (l : List Oper) : Bool := match lastOf l with
  | none => false
  | some o => o.dst.isNone && o.guard.isNone && ((List.range (l.length - 1)).all fun i => o.after.any fun e => Region.binds .any e && e.on == i) && ((List.range l.length).all fun i => match l[i]? with | none => true | some o => o.after.all fun e => decide (e.on < i))
theorem mapLast_split (f : Oper → Oper) : ∀ (l : List Oper) (o : Oper), lastOf l = some o → ∃ l1, l = l1 ++ [o] ∧ mapLast f l = l1 ++ [f o]
  | [], o, h => by cases h
  | [p], o, h => by cases h; exact ⟨[], rfl, rfl⟩
  | p :: q :: r, o, h => by
    obtain ⟨l1, h1, h2⟩ := mapLast_split f (q :: r) o h
    exact ⟨p :: l1, by rw [h1]; rfl, by rw [mapLast, h2]; rfl⟩
/-- **One walk of the order of the text, and the last one behind it.** -/
theorem wp_region_last {P : Program} {id : Nat} {Q : Exit → Act → World → Prop} {a : Act} {w0 w : World} {l : List Oper} (hg : w0.grownBy w none) (hm : P.follows .mixedOrders = true) (hB : Region.lexB .any (mapLast idle l).toArray = true) (hL : lastB l = true)
    (h : wpQuiet P (mapLast idle l).toArray (fun w' => ∃ x : GrowW w0, w' = x.1) (fun a' => ∀ w', w0.grownBy w' none → match lastOf l with | some o => wpList P l.toArray Q [o] a' w' | none => False) (mapLast idle l) a) : (Code.region id l.toArray true).wp P Q a w := by
  unfold lastB at hL
  cases hlo : lastOf l with
  | none => rw [hlo] at hL; cases hL
  | some o =>
    rw [hlo] at hL h
    simp only [Bool.and_eq_true, Option.isNone_iff_eq_none, List.all_eq_true, List.mem_range, Array.any_eq_true] at hL
    obtain ⟨⟨⟨hd, hgd⟩, hdep⟩, hac⟩ := hL
    obtain ⟨l1, e1, e2⟩ := mapLast_split idle l o hlo
    have hlen : l.length = l1.length + 1 := by rw [e1]; simp
    have hlen2 : (mapLast idle l).length = l1.length + 1 := by rw [e2]; simp
    simp only [Region.lexB, Bool.and_eq_true] at hB
    refine wp_region_any hm ?_
    refine wpAny_of_last (C := fun w' => ∃ x : GrowW w0, w' = x.1) (ops' := (mapLast idle l).toArray) (n := l1.length) (o := o) (Qq := fun a' => ∀ w', w0.grownBy w' none → wpList P l.toArray Q [o] a' w') (by simp [hlen]) ?_ (by rw [e1]; simp) (by rw [e2]; simp) hd hgd ?_ ?_ (fun a w ⟨x, hx⟩ hq => by rw [hx]; exact hq _ x.2) _ _ _ _ ⟨⟨_, G.drew hg⟩, rfl⟩ (by simp [hlen]) (by simp [hlen]) ?_
    · intro i hi
      rw [e2]
      conv => rhs; rw [e1]
      simp only [List.getElem?_toArray]
      rcases Nat.lt_or_ge i l1.length with g | g
      · rw [List.getElem?_append_left g, List.getElem?_append_left g]
      · rw [List.getElem?_eq_none (by simp; omega), List.getElem?_eq_none (by simp; omega)]
    · intro i hi
      have := hdep i (by omega)
      obtain ⟨k, hk, h1, h2⟩ := this
      exact ⟨o.after[k], Array.getElem_mem hk, h1, by simpa using h2⟩
    · intro i p hp e he
      have hlt : i < l.length := by
        have := (Array.getElem?_eq_some_iff.1 hp).1
        simpa using this
      have h1 := hac i hlt
      have hp' : l[i]? = some p := by simpa using hp
      rw [hp'] at h1
      simp only [Array.all_eq_true] at h1
      obtain ⟨k, hk, rfl⟩ := Array.getElem_of_mem he
      simpa using h1 k hk
    · have h4 := wpAnyQ_lex (C := fun w' => ∃ x : GrowW w0, w' = x.1) (md := .any) hB.1 (mapLast idle l) 0 (Array.replicate (mapLast idle l).toArray.size false) a (by simp) (by simpa using hB.2) h
      have e3 : (mapLast idle l).length = l.toArray.size := by simp [hlen, hlen2]
      simpa [e3] using h4
end Go.Proofs.YtjfonckmfafdgaaDoor
namespace Go.Proofs.YtjfonckmfafdgaaDoor
open Go.RowKit
/-- the slots of the first operations, each with what stands in it -/
def putAll : List Oper → (Nat → Value) → Nat → Act → Act
  | [], _, _, a => a
  | o :: l, V, k, a => putAll l V (k + 1) (a.put o.dst (V k))
def depsOf (o : Oper) : List Nat := (o.after.toList.filter fun e => Region.binds .any e).map (·.on)
def slotOf (o : Oper) (a : Act) : Value := match o.dst with | some d => a.tmps.getD d undef | none => undef
/-- the promise of one operation -/
def PRel (a : Act) (w : World) (o : Oper) (S : Value → World → Prop) : Exit → Act → World → Prop := fun x a' w' => x = .normal ∧ a'.defers = a.defers ∧ w.grownBy w' none ∧ S (slotOf o a') w'
def atS (S : List (Value → World → Prop)) (k : Nat) : Value → World → Prop := S.getD k (fun _ _ => True)
/-- each operation keeps its promise -/
def relOps (P : Program) (ops : Array Oper) (w0 : World) (a0 : Act) (pre : List Oper) (S : List (Value → World → Prop)) : List Oper → Nat → Prop
  | [], _ => True
  | o :: r, k => (∀ (V : Nat → Value) (w : World), w0.grownBy w none → (∀ j, (depsOf o).contains j = true → atS S j (V j) w) → wpList P ops (PRel (putAll pre V 0 a0) w o (atS S k)) [o] (putAll pre V 0 a0) w) ∧ relOps P ops w0 a0 pre S r (k + 1)
def relB (l : List Oper) (n size : Nat) : Bool :=
  decide (n < l.length) && ((List.range l.length).all fun i => match l[i]? with | none => true | some o => o.after.all fun e => decide (e.on < i)) &&
  ((List.range n).all fun j => (List.range (n + 1)).any fun k => decide (j < k) && match l[k]? with | none => false | some o => o.after.any fun e => Region.binds .any e && e.on == j) &&
  ((List.range (l.length - n - 1)).all fun t => match l[n + 1 + t]? with | none => false | some o => o.after.any fun e => Region.binds .any e && e.on == n + t) &&
  ((l.take n).all fun o => o.guard.isNone && match o.dst with | some d => decide (d < size) | none => false) && decide ((l.take n).map (·.dst)).Nodup
section
variable {P : Program} {ops : Array Oper} {Q : Exit → Act → World → Prop}
def upd (V : Nat → Value) (i : Nat) (v : Value) : Nat → Value := fun j => if j = i then v else V j
theorem putAll_ext {V V' : Nat → Value} : ∀ (l : List Oper) (k : Nat) (a : Act), (∀ j, k ≤ j → V j = V' j) → putAll l V k a = putAll l V' k a
  | [], _, _, _ => rfl
  | o :: l, k, a, h => by
    unfold putAll
    rw [h k (Nat.le_refl _)]
    exact putAll_ext l _ _ (fun j hj => h j (by omega))
theorem putAll_comm {V : Nat → Value} {d : Option Tmp} {v : Value} : ∀ (l : List Oper) (k : Nat) (a : Act), (∀ o ∈ l, d ≠ o.dst) → (∀ o ∈ l, o.dst.isSome = true) → putAll l V k (a.put d v) = (putAll l V k a).put d v
  | [], _, _, _, _ => rfl
  | o :: l, k, a, h, hs => by
    unfold putAll
    have h1 : (a.put d v).put o.dst (V k) = (a.put o.dst (V k)).put d v := by
      refine Act.put_comm a _ _ ?_
      intro e he
      have := h o (by simp)
      rw [he] at this
      exact fun h' => this h'.symm
    rw [h1]
    exact putAll_comm l _ _ (fun o ho => h o (by simp [ho])) (fun o ho => hs o (by simp [ho]))
theorem put_put (a : Act) (d : Option Tmp) (u v : Value) : (a.put d u).put d v = a.put d v := by
  cases d with
  | none => rfl
  | some d => simp [Act.put]
theorem putAll_set {V : Nat → Value} {v : Value} : ∀ (l : List Oper) (k i : Nat) (a : Act) (o : Oper), l[i]? = some o → (l.map (·.dst)).Nodup → (∀ o ∈ l, o.dst.isSome = true) → putAll l (upd V (k + i) v) k a = (putAll l V k a).put o.dst v
  | [], _, _, _, _, h, _, _ => by simp at h
  | p :: l, k, 0, a, o, h, hn, hs => by
    obtain rfl : p = o := by simpa using h
    unfold putAll
    rw [List.map_cons, List.nodup_cons] at hn
    rw [show upd V (k + 0) v k = v from by simp [upd], putAll_ext (V := upd V (k + 0) v) (V' := V) l (k + 1) _ (fun j hj => by simp [upd]; omega), ← putAll_comm l _ _ (fun q hq e => hn.1 (List.mem_map.2 ⟨q, hq, e.symm⟩)) (fun q hq => hs q (by simp [hq])), put_put]
  | p :: l, k, i + 1, a, o, h, hn, hs => by
    unfold putAll
    rw [List.map_cons, List.nodup_cons] at hn
    rw [show upd V (k + (i + 1)) v k = V k from by first | (simp [upd]; done) | (simp [upd]; omega), show k + (i + 1) = k + 1 + i from by omega]
    exact putAll_set l (k + 1) i _ o (by simpa using h) hn.2 (fun q hq => hs q (by simp [hq]))
theorem putAll_size {V : Nat → Value} : ∀ (l : List Oper) (k : Nat) (a : Act), (putAll l V k a).tmps.size = a.tmps.size
  | [], _, _ => rfl
  | o :: l, k, a => by
    unfold putAll
    rw [putAll_size l]
    cases h : o.dst <;> simp [Act.put]
theorem putAll_same : ∀ (l : List Oper) (k : Nat) (a : Act), (∀ o ∈ l, ∃ d, o.dst = some d ∧ d < a.tmps.size) → (l.map (·.dst)).Nodup → ∃ V : Nat → Value, putAll l V k a = a
  | [], k, a, _, _ => ⟨fun _ => undef, rfl⟩
  | o :: l, k, a, h, hn => by
    rw [List.map_cons, List.nodup_cons] at hn
    obtain ⟨d, hd, hlt⟩ := h o (by simp)
    obtain ⟨V, hV⟩ := putAll_same l (k + 1) a (fun q hq => h q (by simp [hq])) hn.2
    refine ⟨upd V k (a.tmps[d]), ?_⟩
    unfold putAll
    rw [show upd V k (a.tmps[d]) k = a.tmps[d] from by simp [upd], putAll_ext (V := upd V k _) (V' := V) l (k + 1) _ (fun j hj => by simp [upd]; omega)]
    have : a.put o.dst a.tmps[d] = a := by
      rw [hd]
      obtain ⟨t, df⟩ := a
      have e : t.setIfInBounds d (t[d]'hlt) = t := by
        apply Array.ext
        · simp
        · intro i h1 h2
          rw [Array.getElem_setIfInBounds (by simpa using h1)]
          split
          · rename_i h3; subst h3; rfl
          · rfl
      simp [Act.put, e]
    rw [this, hV]
theorem slot_put {o : Oper} {a : Act} {d : Tmp} {v : Value} (hd : o.dst = some d) (hlt : d < a.tmps.size) : slotOf o (a.put o.dst v) = v := by
  unfold slotOf
  rw [hd]
  simp [Act.put, hlt]
/-- an operation that keeps its promise leaves its value in its slot -/
theorem wp_of_prel {o : Oper} {a : Act} {w : World} {S : Value → World → Prop} {K : Act → World → Prop} {d : Tmp} (hd : o.dst = some d) (hlt : d < a.tmps.size)
    (h : o.wp P a w (PRel a w o S .normal) (PRel a w o S)) (hK : ∀ v w', w.grownBy w' none → S v w' → K (a.put o.dst v) w') : o.wp P a w K Q := by
  have hp : ∀ v w', PRel a w o S .normal (a.put o.dst v) w' → K (a.put o.dst v) w' := fun v w' ⟨_, _, h1, h2⟩ => hK v w' h1 (by rwa [slot_put hd hlt] at h2)
  unfold Oper.wp at *
  generalize (execOp a.eval o).run P w = r at *
  cases r with
  | ok n w' =>
    cases n <;> simp only [Oper.upon] at h ⊢
    case value v => exact hp _ _ h
    case skip => exact hp _ _ h
    case defer df =>
      obtain ⟨_, h1, _⟩ := h
      rw [hd] at h1
      exact absurd h1 (by simp [Act.put])
    case enter f args =>
      refine Calls.mono h (fun e w'' he => ?_)
      cases e with
      | returned v => exact hp _ _ he
      | panicked c => exact absurd he.1 (by simp)
      | outgrown => obtain ⟨_, _, h1, _⟩ := he; cases h1
    case row r args => exact Rows.mono h (fun _ _ he => hp _ _ he)
  | halt x w' =>
    cases x <;> simp only [Oper.upon] at h ⊢
    case panic v => exact absurd h.1 (by simp)
/-- the last operations, one by one -/
theorem wpAny_tail {l : List Oper} (hl : ops = l.toArray) (hac : ∀ (i : Nat) (o : Oper), ops[i]? = some o → ∀ e ∈ o.after, e.on < i) {n : Nat}
    (hch : ∀ t o, n < t → ops[t]? = some o → ∃ e ∈ o.after, Region.binds .any e = true ∧ e.on = t - 1) :
    ∀ (r t fuel : Nat) (listed : Array Bool) (a : Act) (w : World), r + t = l.length → n ≤ t → r ≤ fuel → listed.size = l.length → (∀ j, j < t → listed.getD j false = true) → (∀ j, t ≤ j → j < l.length → listed.getD j true = false) →
      wpList P ops Q (l.drop t) a w → wpAny P .any ops Q fuel listed a w := by
  have hnil : ∀ (listed : Array Bool), (∀ j, j < l.length → listed.getD j true = true) → Region.ready .any ops listed = [] := by
    intro listed h
    rw [List.eq_nil_iff_forall_not_mem]
    intro j hj
    obtain ⟨h1, o, ho, _⟩ := mem_ready.1 hj
    have h2 : j < l.length := by
      have := (Array.getElem?_eq_some_iff.1 ho).1
      rw [hl] at this
      simpa using this
    rw [h j h2] at h1
    cases h1
  have flip : ∀ (listed : Array Bool) j, j < listed.size → listed.getD j false = true → listed.getD j true = true := by
    intro listed j hj h
    simp [hj] at h ⊢
    exact h
  intro r
  induction r with
  | zero =>
    intro t fuel listed a w hr hn hf hs h1 h2 h
    have hn0 := hnil listed (fun j hj => flip _ j (by omega) (h1 j (by omega)))
    rw [List.drop_eq_nil_of_le (by omega)] at h
    cases fuel with
    | zero => exact ⟨hn0, h⟩
    | succ f => exact ⟨fun _ => h, fun j hj => by rw [hn0] at hj; cases hj⟩
  | succ r ih =>
    intro t fuel listed a w hr hn hf hs h1 h2 h
    obtain ⟨f, rfl⟩ : ∃ f, fuel = f + 1 := ⟨fuel - 1, by omega⟩
    have ht : t < l.length := by omega
    have hot : ops[t]? = some l[t] := by rw [hl]; simp [ht]
    refine ⟨fun h0 => absurd h0 ?_, fun i hi => ?_⟩
    · intro e
      have hm : t ∈ Region.ready .any ops listed := by
        rw [mem_ready]
        exact ⟨h2 t (Nat.le_refl _) ht, l[t], hot, fun e he _ => h1 _ (hac t _ hot e he)⟩
      rw [e] at hm
      cases hm
    · obtain ⟨g1, o, ho, hall⟩ := mem_ready.1 hi
      have hil : i < l.length := by
        have := (Array.getElem?_eq_some_iff.1 ho).1
        rw [hl] at this
        simpa using this
      have hit : i = t := by
        rcases Nat.lt_trichotomy i t with g | g | g
        · have := flip _ i (by omega) (h1 i g)
          rw [this] at g1; cases g1
        · exact g
        · obtain ⟨e, he, hb, hon⟩ := hch i o (by omega) ho
          have h3 := hall e he hb
          rw [hon] at h3
          have h4 := h2 (i - 1) (by omega) (by omega)
          have h5 := flip _ (i - 1) (by omega) h3
          rw [h5] at h4; cases h4
      subst hit
      have hdr : l.drop i = l[i] :: l.drop (i + 1) := List.drop_eq_getElem_cons ht
      rw [hdr] at h
      have hset1 : ∀ j, j < i + 1 → (listed.setIfInBounds i true).getD j false = true := by
        intro j hj
        by_cases hji : j = i
        · subst hji; simp [hs, ht]
        · rw [getD_set_ne false (Ne.symm hji)]; exact h1 j (by omega)
      have hset2 : ∀ j, i + 1 ≤ j → j < l.length → (listed.setIfInBounds i true).getD j true = false := by
        intro j hj hjl
        rw [getD_set_ne true (by omega)]; exact h2 j (by omega) hjl
      have hK : ∀ a w, wpList P ops Q (l.drop (i + 1)) a w → wpAny P .any ops Q f (listed.setIfInBounds i true) a w := fun a w h => ih (i + 1) f _ a w (by omega) (by omega) (by omega) (by simpa using hs) hset1 hset2 h
      unfold wpOp
      simp only [hot]
      unfold wpList at h
      split
      · rename_i hw
        rw [if_pos hw] at h
        exact h.imp (Oper.wp_mono hK) id
      · rename_i hw
        rw [if_neg hw] at h
        exact hK _ _ h
theorem relOps_at {w0 : World} {a0 : Act} {pre : List Oper} {S : List (Value → World → Prop)} : ∀ (l : List Oper) (k i : Nat) (o : Oper), relOps P ops w0 a0 pre S l k → l[i]? = some o →
    ∀ (V : Nat → Value) (w : World), w0.grownBy w none → (∀ j, (depsOf o).contains j = true → atS S j (V j) w) → wpList P ops (PRel (putAll pre V 0 a0) w o (atS S (k + i))) [o] (putAll pre V 0 a0) w
  | [], _, _, _, _, h => by simp at h
  | p :: l, k, 0, o, h, hi => by
    obtain rfl : p = o := by simpa using hi
    exact h.1
  | p :: l, k, i + 1, o, h, hi => by
    rw [show k + (i + 1) = k + 1 + i from by omega]
    exact relOps_at l (k + 1) i o h.2 (by simpa using hi)
theorem count_set : ∀ (l : List Bool) (i : Nat), l[i]? = some false → (l.set i true).count false + 1 = l.count false
  | [], _, h => by simp at h
  | b :: l, 0, h => by
    obtain rfl : b = false := by simpa using h
    simp
  | b :: l, i + 1, h => by
    have := count_set l i (by simpa using h)
    simp only [List.set_cons_succ, List.count_cons]
    omega
/-- **A region that draws its order, told by promises.** -/
theorem wp_region_rel {id : Nat} {a0 : Act} {w0 w1 : World} {l : List Oper} (n : Nat) (S : List (Value → World → Prop)) (hg : w0.grownBy w1 none) (hm : P.follows .mixedOrders = true) (hB : relB l n a0.tmps.size = true)
    (hS : ∀ i v w w', w.grownBy w' none → atS S i v w → atS S i v w') (hop : relOps P l.toArray w0 a0 (l.take n) S (l.take n) 0)
    (hend : ∀ (V : Nat → Value) (w' : World), w0.grownBy w' none → (∀ i, i < n → atS S i (V i) w') → wpList P l.toArray Q (l.drop n) (putAll (l.take n) V 0 a0) w') : (Code.region id l.toArray true).wp P Q a0 w1 := by
  unfold relB at hB
  simp only [Bool.and_eq_true, decide_eq_true_eq, List.all_eq_true, List.mem_range, Option.isNone_iff_eq_none] at hB
  obtain ⟨⟨⟨⟨⟨hn, hac⟩, hcov⟩, hch⟩, hpre⟩, hnod⟩ := hB
  have hac' : ∀ (i : Nat) (o : Oper), l.toArray[i]? = some o → ∀ e ∈ o.after, e.on < i := by
    intro i o ho e he
    have hlt : i < l.length := by
      have := (Array.getElem?_eq_some_iff.1 ho).1
      simpa using this
    have h1 := hac i hlt
    have ho' : l[i]? = some o := by simpa using ho
    rw [ho'] at h1
    simp only [Array.all_eq_true] at h1
    obtain ⟨k, hk, rfl⟩ := Array.getElem_of_mem he
    simpa using h1 k hk
  have hch' : ∀ t o, n < t → l.toArray[t]? = some o → ∃ e ∈ o.after, Region.binds .any e = true ∧ e.on = t - 1 := by
    intro t o ht ho
    have hlt : t < l.length := by
      have := (Array.getElem?_eq_some_iff.1 ho).1
      simpa using this
    have h1 := hch (t - n - 1) (by omega)
    have ho' : l[n + 1 + (t - n - 1)]? = some o := by rw [show n + 1 + (t - n - 1) = t from by omega]; simpa using ho
    rw [ho'] at h1
    simp only [Array.any_eq_true, Bool.and_eq_true, beq_iff_eq] at h1
    obtain ⟨k, hk, h2, h3⟩ := h1
    exact ⟨o.after[k], Array.getElem_mem hk, h2, by omega⟩
  have hcov' : ∀ j, j < n → ∃ k o, j < k ∧ k ≤ n ∧ l.toArray[k]? = some o ∧ ∃ e ∈ o.after, Region.binds .any e = true ∧ e.on = j := by
    intro j hj
    have h1 := hcov j hj
    simp only [List.any_eq_true, List.mem_range, Bool.and_eq_true, decide_eq_true_eq] at h1
    obtain ⟨k, hk, hjk, h2⟩ := h1
    cases hlk : l[k]? with
    | none => rw [hlk] at h2; cases h2
    | some o =>
      rw [hlk] at h2
      simp only [Array.any_eq_true, Bool.and_eq_true, beq_iff_eq] at h2
      obtain ⟨q, hq, h3, h4⟩ := h2
      exact ⟨k, o, hjk, by omega, by simpa using hlk, o.after[q], Array.getElem_mem hq, h3, h4⟩
  have hdst : ∀ o ∈ l.take n, o.guard = none ∧ ∃ d, o.dst = some d ∧ d < a0.tmps.size := by
    intro o ho
    obtain ⟨h1, h2⟩ := hpre o ho
    refine ⟨h1, ?_⟩
    cases hd : o.dst with
    | none => rw [hd] at h2; cases h2
    | some d => rw [hd] at h2; exact ⟨d, rfl, by simpa using h2⟩
  refine wp_region_any hm ?_
  have main : ∀ (fuel : Nat) (listed : Array Bool) (V : Nat → Value) (w : World), listed.size = l.length → listed.toList.count false ≤ fuel → (∀ i o, l.toArray[i]? = some o → listed.getD i false = true → ∀ e ∈ o.after, Region.binds .any e = true → listed.getD e.on false = true) →
      (∀ j, n ≤ j → j < l.length → listed.getD j true = false) → w0.grownBy w none → (∀ i, i < n → listed.getD i false = true → atS S i (V i) w) → wpAny P .any l.toArray Q fuel listed (putAll (l.take n) V 0 a0) w := by
    intro fuel
    induction fuel with
    | zero =>
      intro listed V w hs hf _ ht _ _
      have h1 := ht n (Nat.le_refl _) hn
      have h2 : n < listed.toList.length := by simpa [hs] using hn
      have h3 : listed.toList[n]? = some false := by
        simp [hs, hn] at h1 ⊢
        exact h1
      have := List.count_pos_iff.2 (List.mem_of_getElem? h3)
      omega
    | succ fuel ih =>
      intro listed V w hs hf hdc ht hgw hV
      have flip : ∀ j, j < l.length → listed.getD j false = true → listed.getD j true = true := by
        intro j hj h
        simp [hs, hj] at h ⊢
        exact h
      refine ⟨fun h0 => absurd h0 (ready_some hac' n (by simpa using hn) (ht n (Nat.le_refl _) hn) (by simpa using hs)), fun i hi => ?_⟩
      obtain ⟨g1, o, ho, hall⟩ := mem_ready.1 hi
      have hil : i < l.length := by
        have := (Array.getElem?_eq_some_iff.1 ho).1
        simpa using this
      have hge : ∀ j, j < i → n ≤ i → i ≤ n → listed.getD j false = true := by
        intro j hj h1 h2
        have hin : i = n := by omega
        subst hin
        -- downwards from i
        have key : ∀ r j, r + j + 1 = i → listed.getD j false = true := by
          intro r
          induction r using Nat.strongRecOn with
          | _ r ihr =>
            intro j hrj
            obtain ⟨k, ok, hjk, hkn, hok, e, he, hb, hon⟩ := hcov' j (by omega)
            rcases Nat.lt_or_ge k i with g | g
            · have h3 := ihr (i - k - 1) (by omega) k (by omega)
              have h4 := hdc k ok hok h3 e he hb
              rw [hon] at h4; exact h4
            · have : k = i := by omega
              subst this
              rw [ho] at hok
              obtain rfl := Option.some.inj hok
              have h4 := hall e he hb
              rw [hon] at h4; exact h4
        exact key (i - j - 1) j (by omega)
      have hcnt : (listed.setIfInBounds i true).toList.count false ≤ fuel := by
        have h3 : listed.toList[i]? = some false := by
          simp [hs, hil] at g1 ⊢
          exact g1
        have := count_set _ _ h3
        rw [Array.toList_setIfInBounds]
        omega
      rcases Nat.lt_or_ge i n with hin | hin
      · -- one of the first
        have hoi : (l.take n)[i]? = some o := by rw [List.getElem?_take, if_pos hin]; simpa using ho
        have hmem : o ∈ l.take n := List.mem_of_getElem? hoi
        obtain ⟨hgd, d, hd, hdlt⟩ := hdst o hmem
        have hdeps : ∀ j, (depsOf o).contains j = true → atS S j (V j) w := by
          intro j hj
          replace hj : j ∈ depsOf o := by simpa using hj
          unfold depsOf at hj
          obtain ⟨e, he, rfl⟩ := List.mem_map.1 hj
          obtain ⟨he1, he2⟩ := List.mem_filter.1 he
          have he3 := Array.mem_toList_iff.1 he1
          exact hV _ (by have := hac' i o ho e he3; omega) (hall e he3 he2)
        have hw := relOps_at (l.take n) 0 i o hop hoi V w hgw hdeps
        rw [Nat.zero_add] at hw
        have hwan : Region.wanted o (yielded l.toArray (putAll (l.take n) V 0 a0).tmps) = true := by simp [Region.wanted, hgd]
        unfold wpList at hw
        rw [if_pos hwan] at hw
        unfold wpOp
        simp only [ho]
        rw [if_pos hwan]
        rcases hw with hw | ⟨_, _, _, h1, _⟩
        · refine Or.inl (wp_of_prel hd (by rw [putAll_size]; exact hdlt) (S := atS S i) ?_ ?_)
          · refine Oper.wp_mono (fun a' w' h' => ?_) hw
            unfold wpList at h'
            exact h'
          · intro v w' hgv hSv
            rw [← putAll_set (V := V) (l.take n) 0 i a0 o hoi hnod (fun q hq => by obtain ⟨_, d, h1, _⟩ := hdst q hq; rw [h1]; rfl), Nat.zero_add]
            refine ih _ _ w' (by simpa using hs) hcnt ?_ ?_ (G.trans hgw hgv) ?_
            · intro k ok hok hk e he hb
              by_cases hki : i = k
              · subst hki
                rw [ho] at hok
                obtain rfl := Option.some.inj hok
                exact getD_set_true (hall e he hb)
              · rw [getD_set_ne false hki] at hk
                exact getD_set_true (hdc k ok hok hk e he hb)
            · intro j hj hjl
              rw [getD_set_ne true (by omega)]
              exact ht j hj hjl
            · intro k hk hkl
              by_cases hki : k = i
              · subst hki
                rw [show upd V k v k = v from by simp [upd]]
                exact hSv
              · rw [getD_set_ne false (Ne.symm hki)] at hkl
                rw [show upd V i v k = V k from by simp [upd, hki]]
                exact hS _ _ _ _ hgv (hV k hk hkl)
        · cases h1
      · -- the first of the last
        have hin' : i = n := by
          rcases Nat.lt_or_ge n i with g | g
          · obtain ⟨e, he, hb, hon⟩ := hch' i o g ho
            have h3 := hall e he hb
            rw [hon] at h3
            have h4 := ht (i - 1) (by omega) (by omega)
            rw [flip _ (by omega) h3] at h4; cases h4
          · omega
        have hall2 : ∀ j, j < n → listed.getD j false = true := fun j hj => hge j (by omega) hin (by omega)
        have h5 := wpAny_tail (P := P) (Q := Q) (ops := l.toArray) rfl hac' hch' (l.length - n) n (fuel + 1) listed (putAll (l.take n) V 0 a0) w (by omega) (Nat.le_refl _)
          (by
            have hcz : ∀ (r : Nat), r ≤ l.length - n → r ≤ listed.toList.count false := by
              intro r hr
              have h6 : (listed.toList.drop n).count false = l.length - n := by
                have h7 : ∀ b ∈ listed.toList.drop n, false = b := by
                  intro b hb
                  obtain ⟨q, hq, rfl⟩ := List.getElem_of_mem hb
                  rw [List.getElem_drop]
                  have hq' : n + q < l.length := by simp [hs] at hq; omega
                  have := ht (n + q) (by omega) hq'
                  simp [hs, hq'] at this
                  simpa using this.symm
                rw [List.count_eq_length.2 h7]
                simp [hs]
              have h8 : (listed.toList.drop n).count false ≤ listed.toList.count false := (List.drop_sublist n _).count_le _
              omega
            have := hcz (l.length - n) (Nat.le_refl _)
            omega) hs hall2 ht (hend V w hgw (fun k hk => hV k hk (hall2 k hk)))
        exact h5.2 i hi
  obtain ⟨V, hV⟩ := putAll_same (l.take n) 0 a0 (fun o ho => (hdst o ho).2) hnod
  have h9 := main l.toArray.size (Array.replicate l.toArray.size false) V w1.drew (by simp) (by simp) (fun i o _ h => by
    exfalso
    have : (Array.replicate l.toArray.size false).getD i false = false := by
      rcases Nat.lt_or_ge i l.length with g | g
      · simp [g]
      · simp [Array.getElem?_eq_none (xs := Array.replicate l.length false) (i := i) (by simpa using g)]
    rw [this] at h; cases h) (fun j _ hj => by simp [hj]) (G.drew hg) (fun i _ h => by
    exfalso
    have : (Array.replicate l.toArray.size false).getD i false = false := by
      rcases Nat.lt_or_ge i l.length with g | g
      · simp [g]
      · simp [Array.getElem?_eq_none (xs := Array.replicate l.length false) (i := i) (by simpa using g)]
    rw [this] at h; cases h)
  rw [hV] at h9
  exact h9
end
end Go.Proofs.YtjfonckmfafdgaaDoor
namespace Go.Proofs.YtjfonckmfafdgaaDoor
open Go.RowKit
/-- the promise of an operation that lays a new block -/
def SF (S : List (Value → World → Prop)) (fr : Nat → Bool) (k : Nat) (w : World) : Value → World → Prop := fun v w' => atS S k v w' ∧ (fr k = true → ∃ b, v = .pointer (some ⟨b, 0, none⟩) ∧ w.heap.size ≤ b ∧ b < w'.heap.size)
def relOpsF (P : Program) (ops : Array Oper) (w0 : World) (a0 : Act) (pre : List Oper) (S : List (Value → World → Prop)) (fr : Nat → Bool) : List Oper → Nat → Prop
  | [], _ => True
  | o :: r, k => (∀ (V : Nat → Value) (w : World), w0.grownBy w none → (∀ j, (depsOf o).contains j = true → atS S j (V j) w) → wpList P ops (PRel (putAll pre V 0 a0) w o (SF S fr k w)) [o] (putAll pre V 0 a0) w) ∧ relOpsF P ops w0 a0 pre S fr r (k + 1)
section
variable {P : Program} {ops : Array Oper} {Q : Exit → Act → World → Prop}
theorem relOpsF_at {w0 : World} {a0 : Act} {pre : List Oper} {S : List (Value → World → Prop)} {fr : Nat → Bool} : ∀ (l : List Oper) (k i : Nat) (o : Oper), relOpsF P ops w0 a0 pre S fr l k → l[i]? = some o →
    ∀ (V : Nat → Value) (w : World), w0.grownBy w none → (∀ j, (depsOf o).contains j = true → atS S j (V j) w) → wpList P ops (PRel (putAll pre V 0 a0) w o (SF S fr (k + i) w)) [o] (putAll pre V 0 a0) w
  | [], _, _, _, _, h => by simp at h
  | p :: l, k, 0, o, h, hi => by
    obtain rfl : p = o := by simpa using hi
    exact h.1
  | p :: l, k, i + 1, o, h, hi => by
    rw [show k + (i + 1) = k + 1 + i from by omega]
    exact relOpsF_at l (k + 1) i o h.2 (by simpa using hi)
/-- **The same, the new blocks told apart.** -/
theorem wp_region_relF {id : Nat} {a0 : Act} {w0 w1 : World} {l : List Oper} (n : Nat) (S : List (Value → World → Prop)) (fr : Nat → Bool) (hg : w0.grownBy w1 none) (hm : P.follows .mixedOrders = true) (hB : relB l n a0.tmps.size = true)
    (hS : ∀ i v w w', w.grownBy w' none → atS S i v w → atS S i v w') (hop : relOpsF P l.toArray w0 a0 (l.take n) S fr (l.take n) 0)
    (hend : ∀ (V : Nat → Value) (w' : World), w0.grownBy w' none → (∀ i, i < n → atS S i (V i) w') → (∀ i j, i < n → j < n → i ≠ j → fr i = true → fr j = true → V i ≠ V j) → wpList P l.toArray Q (l.drop n) (putAll (l.take n) V 0 a0) w') : (Code.region id l.toArray true).wp P Q a0 w1 := by
  unfold relB at hB
  simp only [Bool.and_eq_true, decide_eq_true_eq, List.all_eq_true, List.mem_range, Option.isNone_iff_eq_none] at hB
  obtain ⟨⟨⟨⟨⟨hn, hac⟩, hcov⟩, hch⟩, hpre⟩, hnod⟩ := hB
  have hac' : ∀ (i : Nat) (o : Oper), l.toArray[i]? = some o → ∀ e ∈ o.after, e.on < i := by
    intro i o ho e he
    have hlt : i < l.length := by
      have := (Array.getElem?_eq_some_iff.1 ho).1
      simpa using this
    have h1 := hac i hlt
    have ho' : l[i]? = some o := by simpa using ho
    rw [ho'] at h1
    simp only [Array.all_eq_true] at h1
    obtain ⟨k, hk, rfl⟩ := Array.getElem_of_mem he
    simpa using h1 k hk
  have hch' : ∀ t o, n < t → l.toArray[t]? = some o → ∃ e ∈ o.after, Region.binds .any e = true ∧ e.on = t - 1 := by
    intro t o ht ho
    have hlt : t < l.length := by
      have := (Array.getElem?_eq_some_iff.1 ho).1
      simpa using this
    have h1 := hch (t - n - 1) (by omega)
    have ho' : l[n + 1 + (t - n - 1)]? = some o := by rw [show n + 1 + (t - n - 1) = t from by omega]; simpa using ho
    rw [ho'] at h1
    simp only [Array.any_eq_true, Bool.and_eq_true, beq_iff_eq] at h1
    obtain ⟨k, hk, h2, h3⟩ := h1
    exact ⟨o.after[k], Array.getElem_mem hk, h2, by omega⟩
  have hcov' : ∀ j, j < n → ∃ k o, j < k ∧ k ≤ n ∧ l.toArray[k]? = some o ∧ ∃ e ∈ o.after, Region.binds .any e = true ∧ e.on = j := by
    intro j hj
    have h1 := hcov j hj
    simp only [List.any_eq_true, List.mem_range, Bool.and_eq_true, decide_eq_true_eq] at h1
    obtain ⟨k, hk, hjk, h2⟩ := h1
    cases hlk : l[k]? with
    | none => rw [hlk] at h2; cases h2
    | some o =>
      rw [hlk] at h2
      simp only [Array.any_eq_true, Bool.and_eq_true, beq_iff_eq] at h2
      obtain ⟨q, hq, h3, h4⟩ := h2
      exact ⟨k, o, hjk, by omega, by simpa using hlk, o.after[q], Array.getElem_mem hq, h3, h4⟩
  have hdst : ∀ o ∈ l.take n, o.guard = none ∧ ∃ d, o.dst = some d ∧ d < a0.tmps.size := by
    intro o ho
    obtain ⟨h1, h2⟩ := hpre o ho
    refine ⟨h1, ?_⟩
    cases hd : o.dst with
    | none => rw [hd] at h2; cases h2
    | some d => rw [hd] at h2; exact ⟨d, rfl, by simpa using h2⟩
  refine wp_region_any hm ?_
  have main : ∀ (fuel : Nat) (listed : Array Bool) (V : Nat → Value) (w : World), listed.size = l.length → listed.toList.count false ≤ fuel → (∀ i o, l.toArray[i]? = some o → listed.getD i false = true → ∀ e ∈ o.after, Region.binds .any e = true → listed.getD e.on false = true) →
      (∀ j, n ≤ j → j < l.length → listed.getD j true = false) → w0.grownBy w none → (∀ i, i < n → listed.getD i false = true → atS S i (V i) w) → (∀ i, i < n → listed.getD i false = true → fr i = true → ∃ b, V i = .pointer (some ⟨b, 0, none⟩) ∧ b < w.heap.size) → (∀ i j, i < n → j < n → i ≠ j → fr i = true → fr j = true → listed.getD i false = true → listed.getD j false = true → V i ≠ V j) → wpAny P .any l.toArray Q fuel listed (putAll (l.take n) V 0 a0) w := by
    intro fuel
    induction fuel with
    | zero =>
      intro listed V w hs hf _ ht _ _ _ _
      have h1 := ht n (Nat.le_refl _) hn
      have h2 : n < listed.toList.length := by simpa [hs] using hn
      have h3 : listed.toList[n]? = some false := by
        simp [hs, hn] at h1 ⊢
        exact h1
      have := List.count_pos_iff.2 (List.mem_of_getElem? h3)
      omega
    | succ fuel ih =>
      intro listed V w hs hf hdc ht hgw hV hL hD
      have flip : ∀ j, j < l.length → listed.getD j false = true → listed.getD j true = true := by
        intro j hj h
        simp [hs, hj] at h ⊢
        exact h
      refine ⟨fun h0 => absurd h0 (ready_some hac' n (by simpa using hn) (ht n (Nat.le_refl _) hn) (by simpa using hs)), fun i hi => ?_⟩
      obtain ⟨g1, o, ho, hall⟩ := mem_ready.1 hi
      have hil : i < l.length := by
        have := (Array.getElem?_eq_some_iff.1 ho).1
        simpa using this
      have hge : ∀ j, j < i → n ≤ i → i ≤ n → listed.getD j false = true := by
        intro j hj h1 h2
        have hin : i = n := by omega
        subst hin
        -- downwards from i
        have key : ∀ r j, r + j + 1 = i → listed.getD j false = true := by
          intro r
          induction r using Nat.strongRecOn with
          | _ r ihr =>
            intro j hrj
            obtain ⟨k, ok, hjk, hkn, hok, e, he, hb, hon⟩ := hcov' j (by omega)
            rcases Nat.lt_or_ge k i with g | g
            · have h3 := ihr (i - k - 1) (by omega) k (by omega)
              have h4 := hdc k ok hok h3 e he hb
              rw [hon] at h4; exact h4
            · have : k = i := by omega
              subst this
              rw [ho] at hok
              obtain rfl := Option.some.inj hok
              have h4 := hall e he hb
              rw [hon] at h4; exact h4
        exact key (i - j - 1) j (by omega)
      have hcnt : (listed.setIfInBounds i true).toList.count false ≤ fuel := by
        have h3 : listed.toList[i]? = some false := by
          simp [hs, hil] at g1 ⊢
          exact g1
        have := count_set _ _ h3
        rw [Array.toList_setIfInBounds]
        omega
      rcases Nat.lt_or_ge i n with hin | hin
      · -- one of the first
        have hoi : (l.take n)[i]? = some o := by rw [List.getElem?_take, if_pos hin]; simpa using ho
        have hmem : o ∈ l.take n := List.mem_of_getElem? hoi
        obtain ⟨hgd, d, hd, hdlt⟩ := hdst o hmem
        have hdeps : ∀ j, (depsOf o).contains j = true → atS S j (V j) w := by
          intro j hj
          replace hj : j ∈ depsOf o := by simpa using hj
          unfold depsOf at hj
          obtain ⟨e, he, rfl⟩ := List.mem_map.1 hj
          obtain ⟨he1, he2⟩ := List.mem_filter.1 he
          have he3 := Array.mem_toList_iff.1 he1
          exact hV _ (by have := hac' i o ho e he3; omega) (hall e he3 he2)
        have hw := relOpsF_at (l.take n) 0 i o hop hoi V w hgw hdeps
        rw [Nat.zero_add] at hw
        have hwan : Region.wanted o (yielded l.toArray (putAll (l.take n) V 0 a0).tmps) = true := by simp [Region.wanted, hgd]
        unfold wpList at hw
        rw [if_pos hwan] at hw
        unfold wpOp
        simp only [ho]
        rw [if_pos hwan]
        rcases hw with hw | ⟨_, _, _, h1, _⟩
        · refine Or.inl (wp_of_prel hd (by rw [putAll_size]; exact hdlt) (S := SF S fr i w) ?_ ?_)
          · refine Oper.wp_mono (fun a' w' h' => ?_) hw
            unfold wpList at h'
            exact h'
          · intro v w' hgv hSv2
            obtain ⟨hSv, hfr⟩ := hSv2
            rw [← putAll_set (V := V) (l.take n) 0 i a0 o hoi hnod (fun q hq => by obtain ⟨_, d, h1, _⟩ := hdst q hq; rw [h1]; rfl), Nat.zero_add]
            refine ih _ _ w' (by simpa using hs) hcnt ?_ ?_ (G.trans hgw hgv) ?_ ?_ ?_
            · intro k ok hok hk e he hb
              by_cases hki : i = k
              · subst hki
                rw [ho] at hok
                obtain rfl := Option.some.inj hok
                exact getD_set_true (hall e he hb)
              · rw [getD_set_ne false hki] at hk
                exact getD_set_true (hdc k ok hok hk e he hb)
            · intro j hj hjl
              rw [getD_set_ne true (by omega)]
              exact ht j hj hjl
            · intro k hk hkl
              by_cases hki : k = i
              · subst hki
                rw [show upd V k v k = v from by simp [upd]]
                exact hSv
              · rw [getD_set_ne false (Ne.symm hki)] at hkl
                rw [show upd V i v k = V k from by simp [upd, hki]]
                exact hS _ _ _ _ hgv (hV k hk hkl)
            · intro k hk hkl hfk
              by_cases hki : k = i
              · subst hki
                obtain ⟨b, e1, _, e3⟩ := hfr hfk
                exact ⟨b, by rw [show upd V k v k = v from by simp [upd]]; exact e1, e3⟩
              · rw [getD_set_ne false (Ne.symm hki)] at hkl
                obtain ⟨b, e1, e2⟩ := hL k hk hkl hfk
                exact ⟨b, by rw [show upd V i v k = V k from by simp [upd, hki]]; exact e1, Nat.lt_of_lt_of_le e2 hgv.size⟩
            · intro k m hk hm hkm hfk hfm hkl hml
              by_cases hki : k = i
              · subst hki
                have hmk : m ≠ k := Ne.symm hkm
                rw [getD_set_ne false (Ne.symm hmk)] at hml
                obtain ⟨b, e1, e2, _⟩ := hfr hfk
                obtain ⟨d2, f1, f2⟩ := hL m hm hml hfm
                rw [show upd V k v k = v from by simp [upd], show upd V k v m = V m from by simp [upd, hmk], e1, f1]
                intro e
                first | (simp at e; done) | (simp at e; omega)
              · rw [getD_set_ne false (Ne.symm hki)] at hkl
                by_cases hmi : m = i
                · subst hmi
                  obtain ⟨b, e1, e2, _⟩ := hfr hfm
                  obtain ⟨d2, f1, f2⟩ := hL k hk hkl hfk
                  rw [show upd V m v m = v from by simp [upd], show upd V m v k = V k from by simp [upd, hki], e1, f1]
                  intro e
                  first | (simp at e; done) | (simp at e; omega)
                · rw [getD_set_ne false (Ne.symm hmi)] at hml
                  rw [show upd V i v k = V k from by simp [upd, hki], show upd V i v m = V m from by simp [upd, hmi]]
                  exact hD k m hk hm hkm hfk hfm hkl hml
        · cases h1
      · -- the first of the last
        have hin' : i = n := by
          rcases Nat.lt_or_ge n i with g | g
          · obtain ⟨e, he, hb, hon⟩ := hch' i o g ho
            have h3 := hall e he hb
            rw [hon] at h3
            have h4 := ht (i - 1) (by omega) (by omega)
            rw [flip _ (by omega) h3] at h4; cases h4
          · omega
        have hall2 : ∀ j, j < n → listed.getD j false = true := fun j hj => hge j (by omega) hin (by omega)
        have h5 := wpAny_tail (P := P) (Q := Q) (ops := l.toArray) rfl hac' hch' (l.length - n) n (fuel + 1) listed (putAll (l.take n) V 0 a0) w (by omega) (Nat.le_refl _)
          (by
            have hcz : ∀ (r : Nat), r ≤ l.length - n → r ≤ listed.toList.count false := by
              intro r hr
              have h6 : (listed.toList.drop n).count false = l.length - n := by
                have h7 : ∀ b ∈ listed.toList.drop n, false = b := by
                  intro b hb
                  obtain ⟨q, hq, rfl⟩ := List.getElem_of_mem hb
                  rw [List.getElem_drop]
                  have hq' : n + q < l.length := by simp [hs] at hq; omega
                  have := ht (n + q) (by omega) hq'
                  simp [hs, hq'] at this
                  simpa using this.symm
                rw [List.count_eq_length.2 h7]
                simp [hs]
              have h8 : (listed.toList.drop n).count false ≤ listed.toList.count false := (List.drop_sublist n _).count_le _
              omega
            have := hcz (l.length - n) (Nat.le_refl _)
            omega) hs hall2 ht (hend V w hgw (fun k hk => hV k hk (hall2 k hk)) (fun k m hk hm hkm hfk hfm => hD k m hk hm hkm hfk hfm (hall2 k hk) (hall2 m hm)))
        exact h5.2 i hi
  obtain ⟨V, hV⟩ := putAll_same (l.take n) 0 a0 (fun o ho => (hdst o ho).2) hnod
  have h9 := main l.toArray.size (Array.replicate l.toArray.size false) V w1.drew (by simp) (by simp) (fun i o _ h => by
    exfalso
    have : (Array.replicate l.toArray.size false).getD i false = false := by
      rcases Nat.lt_or_ge i l.length with g | g
      · simp [g]
      · simp [Array.getElem?_eq_none (xs := Array.replicate l.length false) (i := i) (by simpa using g)]
    rw [this] at h; cases h) (fun j _ hj => by simp [hj]) (G.drew hg) (fun i _ h => by
    exfalso
    have : (Array.replicate l.toArray.size false).getD i false = false := by
      rcases Nat.lt_or_ge i l.length with g | g
      · simp [g]
      · simp [Array.getElem?_eq_none (xs := Array.replicate l.length false) (i := i) (by simpa using g)]
    rw [this] at h; cases h) (fun i _ h _ => by
    exfalso
    have : (Array.replicate l.toArray.size false).getD i false = false := by
      rcases Nat.lt_or_ge i l.length with g | g
      · simp [g]
      · simp [Array.getElem?_eq_none (xs := Array.replicate l.length false) (i := i) (by simpa using g)]
    rw [this] at h; cases h) (fun i _ _ _ _ _ _ h _ => by
    exfalso
    have : (Array.replicate l.toArray.size false).getD i false = false := by
      rcases Nat.lt_or_ge i l.length with g | g
      · simp [g]
      · simp [Array.getElem?_eq_none (xs := Array.replicate l.length false) (i := i) (by simpa using g)]
    rw [this] at h; cases h)
  rw [hV] at h9
  exact h9
end
end Go.Proofs.YtjfonckmfafdgaaDoor
