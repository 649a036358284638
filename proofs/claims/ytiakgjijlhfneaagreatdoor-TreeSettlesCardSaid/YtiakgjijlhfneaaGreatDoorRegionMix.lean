/-
  A region that draws its order, in which some operations only read, and the others come one behind the other: the readers' values told by promises that hold throughout, the others walked in their order. No program is named here.
-/
import Derived.Test.YtiakgjijlhfneaaGreatDoorGrowBase
namespace Go.Proofs.YtiakgjijlhfneaaGreatDoor
open Go.RowKit
/-- an operation that ends so and so -/
def PMix (a : Act) (o : Oper) (S : Value → World → Prop) : Exit → Act → World → Prop := fun x a' w' => x = .normal ∧ a'.defers = a.defers ∧ S (slotOf o a') w'
/-- what each operation does: those of the chain turn the world, the others read -/
def mixOps (P : Program) (ops : Array Oper) (a0 : Act) (pre : List Oper) (S : List (Value → Prop)) (ch : List Nat) (F : Nat → (Nat → Value) → World → Prop) : List Oper → Nat → Prop
  | [], _ => True
  | o :: r, k => (if ch.contains k = true then (∀ (V : Nat → Value) (w : World), F (ch.idxOf k) V w → (∀ j, (depsOf o).contains j = true → ch.contains j = false → S.getD j (fun _ => True) (V j)) → wpList P ops (PMix (putAll pre V 0 a0) o (fun v w' => F (ch.idxOf k + 1) (upd V k v) w')) [o] (putAll pre V 0 a0) w)
      else (∀ (V : Nat → Value) (w : World) (t : Nat), F t V w → (∀ j, (depsOf o).contains j = true → ch.contains j = false → S.getD j (fun _ => True) (V j)) → wpList P ops (PMix (putAll pre V 0 a0) o (fun v w' => w' = w ∧ S.getD k (fun _ => True) v)) [o] (putAll pre V 0 a0) w)) ∧ mixOps P ops a0 pre S ch F r (k + 1)
def mixB (l : List Oper) (n : Nat) (ch : List Nat) : Bool := decide ch.Nodup && (ch.all fun k => decide (k < n)) && ((List.range (ch.length - 1)).all fun t => match l[ch.getD (t + 1) 0]? with | none => false | some o => o.after.any fun e => Region.binds .any e && e.on == ch.getD t 0)
section
variable {P : Program} {Q : Exit → Act → World → Prop}
/-- an operation that ends so leaves its value in its slot -/
theorem wp_of_pmix {o : Oper} {a : Act} {w : World} {S : Value → World → Prop} {K : Act → World → Prop} {d : Tmp} (hd : o.dst = some d) (hlt : d < a.tmps.size)
    (h : o.wp P a w (PMix a o S .normal) (PMix a o S)) (hK : ∀ v w', S v w' → K (a.put o.dst v) w') : o.wp P a w K Q := by
  have hp : ∀ v w', PMix a o S .normal (a.put o.dst v) w' → K (a.put o.dst v) w' := fun v w' ⟨_, _, h2⟩ => hK v w' (by rwa [slot_put hd hlt] at h2)
  unfold Oper.wp at *
  generalize (execOp a.eval o).run P w = r at *
  cases r with
  | ok n w' =>
    cases n <;> simp only [Oper.upon] at h ⊢
    case value v => exact hp _ _ h
    case skip => exact hp _ _ h
    case defer df =>
      obtain ⟨_, h1, _⟩ := h
      rw [hd] at h1
      exact absurd h1 (by simp [Act.put])
    case enter f args =>
      refine Calls.mono h (fun e w'' he => ?_)
      cases e with
      | returned v => exact hp _ _ he
      | panicked c => exact absurd he.1 (by simp)
      | outgrown => obtain ⟨_, _, h1, _⟩ := he; cases h1
    case row r args => exact Rows.mono h (fun _ _ he => hp _ _ he)
  | halt x w' =>
    cases x <;> simp only [Oper.upon] at h ⊢
    case panic v => exact absurd h.1 (by simp)
theorem mixOps_at {ops : Array Oper} {a0 : Act} {pre : List Oper} {S : List (Value → Prop)} {ch : List Nat} {F : Nat → (Nat → Value) → World → Prop} : ∀ (l : List Oper) (k i : Nat) (o : Oper), mixOps P ops a0 pre S ch F l k → l[i]? = some o →
    (if ch.contains (k + i) = true then (∀ (V : Nat → Value) (w : World), F (ch.idxOf (k + i)) V w → (∀ j, (depsOf o).contains j = true → ch.contains j = false → S.getD j (fun _ => True) (V j)) → wpList P ops (PMix (putAll pre V 0 a0) o (fun v w' => F (ch.idxOf (k + i) + 1) (upd V (k + i) v) w')) [o] (putAll pre V 0 a0) w)
      else (∀ (V : Nat → Value) (w : World) (t : Nat), F t V w → (∀ j, (depsOf o).contains j = true → ch.contains j = false → S.getD j (fun _ => True) (V j)) → wpList P ops (PMix (putAll pre V 0 a0) o (fun v w' => w' = w ∧ S.getD (k + i) (fun _ => True) v)) [o] (putAll pre V 0 a0) w))
  | [], _, _, _, _, h => by simp at h
  | p :: l, k, 0, o, h, hi => by
    obtain rfl : p = o := by simpa using hi
    exact h.1
  | p :: l, k, i + 1, o, h, hi => by
    rw [show k + (i + 1) = k + 1 + i from by omega]
    exact mixOps_at l (k + 1) i o h.2 (by simpa using hi)
/-- **A region that draws its order, of readers and a chain.** -/
theorem wp_region_mix {id : Nat} {a0 : Act} {w1 : World} {l : List Oper} (n : Nat) (S : List (Value → Prop)) (ch : List Nat) (F : Nat → (Nat → Value) → World → Prop) (hm : P.follows .mixedOrders = true) (hB : relB l n a0.tmps.size = true) (hC : mixB l n ch = true)
    (hF : ∀ t V V' w, (∀ j, ch.contains j = true → V j = V' j) → F t V w → F t V' w) (h0 : ∀ V, F 0 V w1.drew) (hop : mixOps P l.toArray a0 (l.take n) S ch F (l.take n) 0)
    (hend : ∀ (V : Nat → Value) (w' : World), F ch.length V w' → (∀ i, i < n → ch.contains i = false → S.getD i (fun _ => True) (V i)) → wpList P l.toArray Q (l.drop n) (putAll (l.take n) V 0 a0) w') : (Code.region id l.toArray true).wp P Q a0 w1 := by
  unfold mixB at hC
  simp only [Bool.and_eq_true, decide_eq_true_eq, List.all_eq_true, List.mem_range] at hC
  obtain ⟨⟨hnd, hchn⟩, hchl⟩ := hC
  unfold relB at hB
  simp only [Bool.and_eq_true, decide_eq_true_eq, List.all_eq_true, List.mem_range, Option.isNone_iff_eq_none] at hB
  obtain ⟨⟨⟨⟨⟨hn, hac⟩, hcov⟩, hch⟩, hpre⟩, hnod⟩ := hB
  have hac' : ∀ (i : Nat) (o : Oper), l.toArray[i]? = some o → ∀ e ∈ o.after, e.on < i := by
    intro i o ho e he
    have hlt : i < l.length := by
      have := (Array.getElem?_eq_some_iff.1 ho).1
      simpa using this
    have h1 := hac i hlt
    have ho' : l[i]? = some o := by simpa using ho
    rw [ho'] at h1
    simp only [Array.all_eq_true] at h1
    obtain ⟨k, hk, rfl⟩ := Array.getElem_of_mem he
    simpa using h1 k hk
  have hch' : ∀ t o, n < t → l.toArray[t]? = some o → ∃ e ∈ o.after, Region.binds .any e = true ∧ e.on = t - 1 := by
    intro t o ht ho
    have hlt : t < l.length := by
      have := (Array.getElem?_eq_some_iff.1 ho).1
      simpa using this
    have h1 := hch (t - n - 1) (by omega)
    have ho' : l[n + 1 + (t - n - 1)]? = some o := by rw [show n + 1 + (t - n - 1) = t from by omega]; simpa using ho
    rw [ho'] at h1
    simp only [Array.any_eq_true, Bool.and_eq_true, beq_iff_eq] at h1
    obtain ⟨k, hk, h2, h3⟩ := h1
    exact ⟨o.after[k], Array.getElem_mem hk, h2, by omega⟩
  have hcov' : ∀ j, j < n → ∃ k o, j < k ∧ k ≤ n ∧ l.toArray[k]? = some o ∧ ∃ e ∈ o.after, Region.binds .any e = true ∧ e.on = j := by
    intro j hj
    have h1 := hcov j hj
    simp only [List.any_eq_true, List.mem_range, Bool.and_eq_true, decide_eq_true_eq] at h1
    obtain ⟨k, hk, hjk, h2⟩ := h1
    cases hlk : l[k]? with
    | none => rw [hlk] at h2; cases h2
    | some o =>
      rw [hlk] at h2
      simp only [Array.any_eq_true, Bool.and_eq_true, beq_iff_eq] at h2
      obtain ⟨q, hq, h3, h4⟩ := h2
      exact ⟨k, o, hjk, by omega, by simpa using hlk, o.after[q], Array.getElem_mem hq, h3, h4⟩
  have hdst : ∀ o ∈ l.take n, o.guard = none ∧ ∃ d, o.dst = some d ∧ d < a0.tmps.size := by
    intro o ho
    obtain ⟨h1, h2⟩ := hpre o ho
    refine ⟨h1, ?_⟩
    cases hd : o.dst with
    | none => rw [hd] at h2; cases h2
    | some d => rw [hd] at h2; exact ⟨d, rfl, by simpa using h2⟩
  refine wp_region_any hm ?_
  have main : ∀ (fuel : Nat) (listed : Array Bool) (V : Nat → Value) (w : World), listed.size = l.length → listed.toList.count false ≤ fuel → (∀ i o, l.toArray[i]? = some o → listed.getD i false = true → ∀ e ∈ o.after, Region.binds .any e = true → listed.getD e.on false = true) →
      (∀ j, n ≤ j → j < l.length → listed.getD j true = false) → (∃ t, t ≤ ch.length ∧ F t V w ∧ ∀ k, k < ch.length → (listed.getD (ch.getD k 0) false = true ↔ k < t)) → (∀ i, i < n → ch.contains i = false → listed.getD i false = true → S.getD i (fun _ => True) (V i)) → wpAny P .any l.toArray Q fuel listed (putAll (l.take n) V 0 a0) w := by
    intro fuel
    induction fuel with
    | zero =>
      intro listed V w hs hf _ ht _ _
      have h1 := ht n (Nat.le_refl _) hn
      have h2 : n < listed.toList.length := by simpa [hs] using hn
      have h3 : listed.toList[n]? = some false := by
        simp [hs, hn] at h1 ⊢
        exact h1
      have := List.count_pos_iff.2 (List.mem_of_getElem? h3)
      omega
    | succ fuel ih =>
      intro listed V w hs hf hdc ht hFt hV
      have flip : ∀ j, j < l.length → listed.getD j false = true → listed.getD j true = true := by
        intro j hj h
        simp [hs, hj] at h ⊢
        exact h
      refine ⟨fun h0 => absurd h0 (ready_some hac' n (by simpa using hn) (ht n (Nat.le_refl _) hn) (by simpa using hs)), fun i hi => ?_⟩
      obtain ⟨g1, o, ho, hall⟩ := mem_ready.1 hi
      have hil : i < l.length := by
        have := (Array.getElem?_eq_some_iff.1 ho).1
        simpa using this
      have hge : ∀ j, j < i → n ≤ i → i ≤ n → listed.getD j false = true := by
        intro j hj h1 h2
        have hin : i = n := by omega
        subst hin
        -- downwards from i
        have key : ∀ r j, r + j + 1 = i → listed.getD j false = true := by
          intro r
          induction r using Nat.strongRecOn with
          | _ r ihr =>
            intro j hrj
            obtain ⟨k, ok, hjk, hkn, hok, e, he, hb, hon⟩ := hcov' j (by omega)
            rcases Nat.lt_or_ge k i with g | g
            · have h3 := ihr (i - k - 1) (by omega) k (by omega)
              have h4 := hdc k ok hok h3 e he hb
              rw [hon] at h4; exact h4
            · have : k = i := by omega
              subst this
              rw [ho] at hok
              obtain rfl := Option.some.inj hok
              have h4 := hall e he hb
              rw [hon] at h4; exact h4
        exact key (i - j - 1) j (by omega)
      have hcnt : (listed.setIfInBounds i true).toList.count false ≤ fuel := by
        have h3 : listed.toList[i]? = some false := by
          simp [hs, hil] at g1 ⊢
          exact g1
        have := count_set _ _ h3
        rw [Array.toList_setIfInBounds]
        omega
      rcases Nat.lt_or_ge i n with hin | hin
      · -- one of the first
        have hoi : (l.take n)[i]? = some o := by rw [List.getElem?_take, if_pos hin]; simpa using ho
        have hmem : o ∈ l.take n := List.mem_of_getElem? hoi
        obtain ⟨hgd, d, hd, hdlt⟩ := hdst o hmem
        have hdeps : ∀ j, (depsOf o).contains j = true → ch.contains j = false → S.getD j (fun _ => True) (V j) := by
          intro j hj hcj
          replace hj : j ∈ depsOf o := by simpa using hj
          unfold depsOf at hj
          obtain ⟨e, he, rfl⟩ := List.mem_map.1 hj
          obtain ⟨he1, he2⟩ := List.mem_filter.1 he
          have he3 := Array.mem_toList_iff.1 he1
          exact hV _ (by have := hac' i o ho e he3; omega) hcj (hall e he3 he2)
        have hw := mixOps_at (l.take n) 0 i o hop hoi
        rw [Nat.zero_add] at hw
        obtain ⟨t, htl, hFt, hiff⟩ := hFt
        have hwan : Region.wanted o (yielded l.toArray (putAll (l.take n) V 0 a0).tmps) = true := by simp [Region.wanted, hgd]
        have hnl : listed.getD i false = false := by
          cases hx : listed.getD i false with
          | false => rfl
          | true => rw [flip i hil hx] at g1; cases g1
        have hdc2 : ∀ k ok, l.toArray[k]? = some ok → (listed.setIfInBounds i true).getD k false = true → ∀ e ∈ ok.after, Region.binds .any e = true → (listed.setIfInBounds i true).getD e.on false = true := by
          intro k ok hok hk e he hb
          by_cases hki : i = k
          · subst hki
            rw [ho] at hok
            obtain rfl := Option.some.inj hok
            exact getD_set_true (hall e he hb)
          · rw [getD_set_ne false hki] at hk
            exact getD_set_true (hdc k ok hok hk e he hb)
        have ht2 : ∀ j, n ≤ j → j < l.length → (listed.setIfInBounds i true).getD j true = false := by
          intro j hj hjl
          rw [getD_set_ne true (by omega)]
          exact ht j hj hjl
        have hset : (listed.setIfInBounds i true).getD i false = true := by simp [hs, hil]
        unfold wpOp
        simp only [ho]
        rw [if_pos hwan]
        by_cases hci : ch.contains i = true
        · rw [if_pos hci] at hw
          have hmi : i ∈ ch := by simpa using hci
          have hpl : ch.idxOf i < ch.length := List.idxOf_lt_length_of_mem hmi
          have hpi : ch.getD (ch.idxOf i) 0 = i := by rw [List.getD_eq_getElem?_getD, List.getElem?_eq_getElem hpl, List.getElem_idxOf hpl]; rfl
          have hpt : ch.idxOf i = t := by
            have h1 : ¬ ch.idxOf i < t := fun h => by
              have := (hiff _ hpl).2 h
              rw [hpi, hnl] at this; cases this
            rcases Nat.lt_or_ge t (ch.idxOf i) with h2 | h2
            · exfalso
              have h3 := hchl (ch.idxOf i - 1) (by omega)
              rw [show ch.idxOf i - 1 + 1 = ch.idxOf i by omega, hpi] at h3
              have ho2 : l[i]? = some o := by simpa using ho
              rw [ho2] at h3
              simp only [Array.any_eq_true, Bool.and_eq_true, beq_iff_eq] at h3
              obtain ⟨q, hq, h4, h5⟩ := h3
              have h6 := hall _ (Array.getElem_mem hq) h4
              rw [h5] at h6
              have := (hiff (ch.idxOf i - 1) (by omega)).1 h6
              omega
            · omega
          have hw := hw V w (by rw [hpt]; exact hFt) hdeps
          unfold wpList at hw
          rw [if_pos hwan] at hw
          rcases hw with hw | ⟨_, _, _, h1, _⟩
          · refine Or.inl (wp_of_pmix hd (by rw [putAll_size]; exact hdlt) (S := fun v w' => F (ch.idxOf i + 1) (upd V i v) w') ?_ ?_)
            · refine Oper.wp_mono (fun a' w' h' => ?_) hw
              unfold wpList at h'
              exact h'
            · intro v w' hSv
              rw [← putAll_set (V := V) (l.take n) 0 i a0 o hoi hnod (fun q hq => by obtain ⟨_, d, h1, _⟩ := hdst q hq; rw [h1]; rfl), Nat.zero_add]
              refine ih _ _ w' (by simpa using hs) hcnt hdc2 ht2 ⟨t + 1, by omega, by rw [← hpt]; exact hSv, fun k hk => ?_⟩ ?_
              · by_cases hki : ch.getD k 0 = i
                · rw [hki, hset]
                  have : k = ch.idxOf i := by
                    rw [List.getD_eq_getElem?_getD, List.getElem?_eq_getElem hk] at hki
                    have hki : ch[k] = i := hki
                    have := hnd.idxOf_getElem k hk
                    rw [hki] at this
                    exact this.symm
                  exact ⟨fun _ => by omega, fun _ => rfl⟩
                · rw [getD_set_ne false (Ne.symm hki), hiff k hk]
                  have : k ≠ ch.idxOf i := fun e => hki (by rw [e, hpi])
                  omega
              · intro k hk hck hkl
                by_cases hki : k = i
                · subst hki; rw [hci] at hck; cases hck
                · rw [getD_set_ne false (Ne.symm hki)] at hkl
                  rw [show upd V i v k = V k from by simp [upd, hki]]
                  exact hV k hk hck hkl
          · cases h1
        · rw [if_neg hci] at hw
          have hci2 : ch.contains i = false := by simpa using hci
          have hw := hw V w t hFt hdeps
          unfold wpList at hw
          rw [if_pos hwan] at hw
          rcases hw with hw | ⟨_, _, _, h1, _⟩
          · refine Or.inl (wp_of_pmix hd (by rw [putAll_size]; exact hdlt) (S := fun v w' => w' = w ∧ S.getD i (fun _ => True) v) ?_ ?_)
            · refine Oper.wp_mono (fun a' w' h' => ?_) hw
              unfold wpList at h'
              exact h'
            · rintro v w' ⟨rfl, hSv⟩
              rw [← putAll_set (V := V) (l.take n) 0 i a0 o hoi hnod (fun q hq => by obtain ⟨_, d, h1, _⟩ := hdst q hq; rw [h1]; rfl), Nat.zero_add]
              refine ih _ _ w' (by simpa using hs) hcnt hdc2 ht2 ⟨t, htl, hF t V _ w' (fun j hj => ?_) hFt, fun k hk => ?_⟩ ?_
              · have : j ≠ i := fun e => by rw [e, hci2] at hj; cases hj
                simp [upd, this]
              · have : ch.getD k 0 ≠ i := fun e => by
                  have hmem2 : ch.getD k 0 ∈ ch := by rw [List.getD_eq_getElem?_getD, List.getElem?_eq_getElem hk]; exact List.getElem_mem hk
                  rw [e] at hmem2
                  exact hci (by simpa using hmem2)
                rw [getD_set_ne false (Ne.symm this)]
                exact hiff k hk
              · intro k hk hck hkl
                by_cases hki : k = i
                · subst hki
                  rw [show upd V k v k = v from by simp [upd]]
                  exact hSv
                · rw [getD_set_ne false (Ne.symm hki)] at hkl
                  rw [show upd V i v k = V k from by simp [upd, hki]]
                  exact hV k hk hck hkl
          · cases h1
      · -- the first of the last
        have hin' : i = n := by
          rcases Nat.lt_or_ge n i with g | g
          · obtain ⟨e, he, hb, hon⟩ := hch' i o g ho
            have h3 := hall e he hb
            rw [hon] at h3
            have h4 := ht (i - 1) (by omega) (by omega)
            rw [flip _ (by omega) h3] at h4; cases h4
          · omega
        have hall2 : ∀ j, j < n → listed.getD j false = true := fun j hj => hge j (by omega) hin (by omega)
        have h5 := wpAny_tail (P := P) (Q := Q) (ops := l.toArray) rfl hac' hch' (l.length - n) n (fuel + 1) listed (putAll (l.take n) V 0 a0) w (by omega) (Nat.le_refl _)
          (by
            have hcz : ∀ (r : Nat), r ≤ l.length - n → r ≤ listed.toList.count false := by
              intro r hr
              have h6 : (listed.toList.drop n).count false = l.length - n := by
                have h7 : ∀ b ∈ listed.toList.drop n, false = b := by
                  intro b hb
                  obtain ⟨q, hq, rfl⟩ := List.getElem_of_mem hb
                  rw [List.getElem_drop]
                  have hq' : n + q < l.length := by simp [hs] at hq; omega
                  have := ht (n + q) (by omega) hq'
                  simp [hs, hq'] at this
                  simpa using this.symm
                rw [List.count_eq_length.2 h7]
                simp [hs]
              have h8 : (listed.toList.drop n).count false ≤ listed.toList.count false := (List.drop_sublist n _).count_le _
              omega
            have := hcz (l.length - n) (Nat.le_refl _)
            omega) hs hall2 ht (by
            obtain ⟨t, htl, hFt, hiff⟩ := hFt
            have hte : t = ch.length := by
              rcases Nat.lt_or_ge t ch.length with g | g
              · have h1 := hchn (ch.getD t 0) (by rw [List.getD_eq_getElem?_getD, List.getElem?_eq_getElem g]; exact List.getElem_mem g)
                have h2 := (hiff t g).1 (hall2 _ (by simpa using h1))
                omega
              · omega
            rw [hte] at hFt
            exact hend V w hFt (fun k hk hck => hV k hk hck (hall2 k hk)))
        exact h5.2 i hi
  obtain ⟨V, hV⟩ := putAll_same (l.take n) 0 a0 (fun o ho => (hdst o ho).2) hnod
  have h9 := main l.toArray.size (Array.replicate l.toArray.size false) V w1.drew (by simp) (by simp) (fun i o _ h => by
    exfalso
    have : (Array.replicate l.toArray.size false).getD i false = false := by
      rcases Nat.lt_or_ge i l.length with g | g
      · simp [g]
      · simp [Array.getElem?_eq_none (xs := Array.replicate l.length false) (i := i) (by simpa using g)]
    rw [this] at h; cases h) (fun j _ hj => by simp [hj]) ⟨0, Nat.zero_le _, h0 V, fun k hk => by
    have hmem2 : ch.getD k 0 ∈ ch := by rw [List.getD_eq_getElem?_getD, List.getElem?_eq_getElem hk]; exact List.getElem_mem hk
    have h1 : ch.getD k 0 < l.length := by have := hchn _ hmem2; omega
    have h2 : (Array.replicate l.toArray.size false).getD (ch.getD k 0) false = false := by
      generalize ch.getD k 0 = q at *
      simp [h1]
    rw [h2]; constructor
    · intro h; cases h
    · intro h; omega⟩ (fun i _ _ h => by
    exfalso
    have : (Array.replicate l.toArray.size false).getD i false = false := by
      rcases Nat.lt_or_ge i l.length with g | g
      · simp [g]
      · simp [Array.getElem?_eq_none (xs := Array.replicate l.length false) (i := i) (by simpa using g)]
    rw [this] at h; cases h)
  rw [hV] at h9
  exact h9
end
end Go.Proofs.YtiakgjijlhfneaaGreatDoor
