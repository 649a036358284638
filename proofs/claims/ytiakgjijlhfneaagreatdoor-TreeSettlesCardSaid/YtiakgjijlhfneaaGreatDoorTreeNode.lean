/-
  A node in memory.
  The walks of both packages' Depth.
  The walks of both packages' Same.
  How much is left behind a node: in plain words, and the law's walk.
-/
import Derived.Test.YtiakgjijlhfneaaGreatDoorTreePlain
import Derived.Test.YtiakgjijlhfneaaGreatDoorElRow
import Derived.Test.YtiakgjijlhfneaaGreatDoorGrowBase
namespace Go.Proofs.YtiakgjijlhfneaaGreatDoor
open Go.RowKit
def nodeC (k : Int) (t : ByteArray) (n : Int) (A : Option Addr) (len c : Nat) : List Value := [.int .i64 k, .string t, .int .i64 n, .slice A len c]
def Nd.kind : Nd → Int | .mk k _ _ _ => k
def Nd.text : Nd → ByteArray | .mk _ t _ _ => t
def Nd.num : Nd → Int | .mk _ _ n _ => n
def Nd.kids : Nd → List Nd | .mk _ _ _ ks => ks
/-- cells that are a node, all of whose rows lie in blocks that ok names -/
inductive NdV (w : World) (ok : Nat → Prop) : Nd → List Value → Prop
  | mk (k : Int) (t : ByteArray) (n : Int) (ks : List Nd) (A : Option Addr) (c b o : Nat) (V : Nat → List Value) (hk : -9223372036854775808 ≤ n ∧ n ≤ 9223372036854775807) (ht : t.size ≤ 140737488351232) (hc : ks.length ≤ c) (hm : c ≤ maxLen)
      (hA : 0 < ks.length → A = some ⟨b, o, none⟩ ∧ b < w.heap.size ∧ ok b) (hcell : ∀ i, i < ks.length → ∀ j u, (V i)[j]? = some u → w.cell? ⟨b, o + i * 4 + j, none⟩ = some u) (hV : ∀ i (hi : i < ks.length), NdV w ok ks[i] (V i)) :
      NdV w ok (.mk k t n ks) (nodeC k t n A ks.length c)
section
variable {w w' : World} {ok ok' : Nat → Prop} {a : Nd} {cs : List Value}
theorem NdV.kept (h : NdV w ok a cs) (hg : w.grownBy w' none) : NdV w' ok a cs := by
  induction h with
  | mk k t n ks A c b o V hk ht hc hm hA hcell hV ih =>
    exact .mk k t n ks A c b o V hk ht hc hm (fun h => ⟨(hA h).1, Nat.lt_of_lt_of_le (hA h).2.1 hg.size, (hA h).2.2⟩) (fun i hi j u hu => (G.cell hg (a := ⟨b, o + i * 4 + j, none⟩) (hA (by omega)).2.1 (by simp)).trans (hcell i hi j u hu)) ih
theorem NdV.row {row : Option Nat} (h : NdV w ok a cs) (hg : w.grownBy w' row) (hr : ∀ b, ok b → some b ≠ row) : NdV w' ok a cs := by
  induction h with
  | mk k t n ks A c b o V hk ht hc hm hA hcell hV ih =>
    exact .mk k t n ks A c b o V hk ht hc hm (fun h => ⟨(hA h).1, Nat.lt_of_lt_of_le (hA h).2.1 hg.size, (hA h).2.2⟩) (fun i hi j u hu => (G.cell hg (a := ⟨b, o + i * 4 + j, none⟩) (hA (by omega)).2.1 (hr b (hA (by omega)).2.2)).trans (hcell i hi j u hu)) ih
theorem NdV.mono (h : NdV w ok a cs) (hi : ∀ b, b < w.heap.size → ok b → ok' b) : NdV w ok' a cs := by
  induction h with
  | mk k t n ks A c b o V hk ht hc hm hA hcell hV ih =>
    exact .mk k t n ks A c b o V hk ht hc hm (fun h => ⟨(hA h).1, (hA h).2.1, hi b (hA h).2.1 (hA h).2.2⟩) hcell ih
/-- its cells -/
theorem NdV.form (h : NdV w ok a cs) : ∃ A c, cs = nodeC a.kind a.text a.num A a.kids.length c ∧ a.kids.length ≤ c ∧ c ≤ maxLen := by
  cases h with
  | mk k t n ks A c b o V hk ht hc hm hA hcell hV => exact ⟨A, c, rfl, hc, hm⟩
/-- one of its kids -/
theorem NdV.kid {A : Option Addr} {n c : Nat} (h : NdV w ok a (nodeC a.kind a.text a.num A n c)) (i : Nat) (hi : i < a.kids.length) : ∃ b o A2 c2, A = some ⟨b, o, none⟩ ∧ b < w.heap.size ∧ ok b ∧ NdV w ok a.kids[i] (nodeC a.kids[i].kind a.kids[i].text a.kids[i].num A2 a.kids[i].kids.length c2) ∧
    w.cell? ⟨b, o + i * 4, none⟩ = some (.int .i64 a.kids[i].kind) ∧ w.cell? ⟨b, o + i * 4 + 1, none⟩ = some (.string a.kids[i].text) ∧ w.cell? ⟨b, o + i * 4 + 2, none⟩ = some (.int .i64 a.kids[i].num) ∧ w.cell? ⟨b, o + i * 4 + 3, none⟩ = some (.slice A2 a.kids[i].kids.length c2) := by
  generalize hcs : nodeC a.kind a.text a.num A n c = cs at h
  cases h with
  | mk k t n' ks A' c' b o V hk ht hc hm hA hcell hV =>
    have hAA : A = A' := by
      have h3 := congrArg (fun l : List Value => l[3]?) hcs
      simp only [nodeC, List.getElem?_cons_succ, List.getElem?_cons_zero, Option.some.injEq, Value.slice.injEq] at h3
      exact h3.1
    obtain ⟨e1, e2, e3⟩ := hA (by have : i < ks.length := hi; omega)
    have hi' : i < ks.length := hi
    have hk2 := hV i hi'
    obtain ⟨A2, c2, e, _, _⟩ := hk2.form
    rw [e] at hk2
    have cell := hcell i hi'
    rw [e] at cell
    exact ⟨b, o, A2, c2, by rw [hAA, e1], e2, e3, hk2, cell 0 _ rfl, cell 1 _ rfl, cell 2 _ rfl, cell 3 _ rfl⟩
theorem NdV.num (h : NdV w ok a cs) : -9223372036854775808 ≤ a.num ∧ a.num ≤ 9223372036854775807 := by
  cases h with
  | mk k t n ks A c b o V hk ht hc hm hA hcell hV => exact hk
theorem NdV.text (h : NdV w ok a cs) : a.text.size ≤ 140737488351232 := by
  cases h with
  | mk k t n ks A c b o V hk ht hc hm hA hcell hV => exact ht
end
mutual
theorem depth_mass : ∀ a : Nd, depthN a ≤ massN a
  | .mk k t n ks => by
    rw [depthN, massN]
    have := depthL_mass ks
    split <;> omega
theorem depthL_mass : ∀ l : List Nd, depthL l ≤ massL l
  | [] => by rw [depthL, massL]; exact Nat.le_refl _
  | a :: l => by
    rw [depthL, massL]
    have h1 := depth_mass a
    have h2 := depthL_mass l
    omega
end
theorem depthL_take : ∀ (l : List Nd) (i : Nat) (h : i < l.length), depthL (l.take (i + 1)) = max (depthL (l.take i)) (depthN l[i]) := by
  intro l
  induction l with
  | nil => intro i h; simp at h
  | cons a l ih =>
    intro i h
    cases i with
    | zero => simp [depthL]
    | succ i =>
      have := ih i (by simpa using h)
      rw [List.take_succ_cons, List.take_succ_cons, depthL, depthL, this]
      simp only [List.getElem_cons_succ]
      omega
theorem mass_kid : ∀ (l : List Nd) (i : Nat) (h : i < l.length), massN l[i] ≤ massL l := by
  intro l
  induction l with
  | nil => intro i h; simp at h
  | cons a l ih =>
    intro i h
    rw [massL]
    cases i with
    | zero => simp only [List.getElem_cons_zero]; omega
    | succ i => have := ih i (by simpa using h); simp only [List.getElem_cons_succ]; omega
theorem mass_kids (a : Nd) : massN a = massL a.kids + (5 + a.text.size) := by cases a with | mk k t n ks => rw [massN]; rfl
theorem depth_kids (a : Nd) : depthN a = if a.kind = 1 then depthL a.kids + 1 else 1 := by cases a with | mk k t n ks => rw [depthN]; rfl
theorem len_mass : ∀ l : List Nd, l.length ≤ massL l := by
  intro l
  induction l with
  | nil => rw [massL]; exact Nat.le_refl _
  | cons a l ih => rw [massL, mass_kids, List.length_cons]; omega
end Go.Proofs.YtiakgjijlhfneaaGreatDoor
namespace Go.Proofs.YtiakgjijlhfneaaGreatDoor
open Go.RowKit
set_option maxHeartbeats 8000000 in
set_option maxRecDepth 100000 in
theorem depth_any (m : Nat) : ∀ (a : Nd) (A : Option Addr) (c : Nat) (w0 w : World) (ok : Nat → Prop), massN a ≤ m → m ≤ 100000 → NdV w0 ok a (nodeC a.kind a.text a.num A a.kids.length c) → w0.grownBy w none →
    Calls Tryz.prog 16 #[.agg #[.int .i64 a.kind, .string a.text, .int .i64 a.num, .slice A a.kids.length c]] w fun e w' => e = .returned (.int .i64 (depthN a : Nat)) ∧ w.grownBy w' none := by
  induction m using Nat.strongRecOn with
  | _ m IH =>
    intro a A c w0 w ok hm hm2 hN h0
    have HG := G.refl w none
    have HN := Lib.hid hN
    have hmk := mass_kids a
    have hdm := depthL_mass a.kids
    have hlm := len_mass a.kids
    have hdep := Lib.hid (depth_kids a)
    have HI := Lib.hid (fun (i : Nat) (hi : i < a.kids.length) A2 c2 w0 w ok => IH (massN a.kids[i]) (by have := mass_kid a.kids i hi; omega) a.kids[i] A2 c2 w0 w ok (Nat.le_refl _) (by have := mass_kid a.kids i hi; omega))
    have HK := Lib.hid (fun i hi => hN.kid i hi)
    have HT := Lib.hid (fun i hi => depthL_take a.kids i hi)
    have HL := Lib.hid (fun i => show depthL (a.kids.take i) ≤ depthL a.kids from by
      have e : a.kids = a.kids.take i ++ a.kids.drop i := (List.take_append_drop i _).symm
      have key : ∀ (x y : List Nd), depthL x ≤ depthL (x ++ y) := by
        intro x y
        induction x with
        | nil => rw [depthL]; omega
        | cons b x ih => rw [List.cons_append, depthL, depthL]; omega
      exact Nat.le_trans (key _ (a.kids.drop i)) (by rw [← e]; exact Nat.le_refl _))
    clear IH hN
    by_cases hk : a.kind = 1
    rotate_left
    · rw [hdep.out, if_neg hk]
      go_enter Tryz.func16, Tryz.ntmps16
      go_wp2_with fail
      go_ret
      exact ⟨rfl, (by exact G.go HG)⟩
    rw [hdep.out, if_pos hk]
    have hkb : (a.kind != 1) = false := by simpa using hk
    clear hk
    go_enter Tryz.func16, Tryz.ntmps16
    go_wp2_with fail
    go_loopw [3, 5, 12] (fun mv _ iv wr => ∃ (i : Nat), iv = .int .i64 i ∧ mv = .int .i64 (depthL (a.kids.take i) : Nat) ∧ i ≤ a.kids.length ∧ w.grownBy wr none) (fun _ _ iv _ => a.kids.length - (intOf iv).toNat)
    case atStart => exact ⟨0, rfl, by simp [depthL], by omega, (by exact G.go HG)⟩
    case round =>
      clear HG
      obtain ⟨i, rfl, rfl, hi, HG⟩ := hrel
      by_cases hlt : i < a.kids.length
      · obtain ⟨b, o, A2, c2, rfl, hb, -, hkn, y0, y1, y2, y3⟩ := HK.out i hlt
        have hgw := G.trans h0 HG
        have x0 := (G.cell hgw (a := ⟨b, o + i * 4, none⟩) hb (by simp)).trans y0
        have x1 := (G.cell hgw (a := ⟨b, o + i * 4 + 1, none⟩) hb (by simp)).trans y1
        have x2 := (G.cell hgw (a := ⟨b, o + i * 4 + 2, none⟩) hb (by simp)).trans y2
        have x3 := (G.cell hgw (a := ⟨b, o + i * 4 + 3, none⟩) hb (by simp)).trans y3
        have hcall := Lib.hid (fun W (hg : w.grownBy W none) => HI.out i hlt A2 c2 w0 W ok hkn (G.trans h0 hg))
        have ht := Lib.hid (HT.out i hlt)
        have h1 := HL.out i
        have h2 := HL.out (i + 1)
        rw [ht.out] at h2
        clear y0 y1 y2 y3 hkn hgw HN
        generalize a.kids[i] = k at *
        generalize depthN k = dk at *
        generalize depthL (a.kids.take i) = dt at *
        go_wp2_with (go_at_call 16; (with_reducible refine (hcall.out _ (by exact G.go HG)).mono ?_); rintro e wn ⟨rfl, hgn⟩; replace HG := G.trans (w := w) (by exact G.go HG) hgn; clear hgn)
        refine ⟨?_, by first | (simp [intOf]; done) | (simp [intOf]; omega)⟩
        exact ⟨i + 1, by go_num, by rw [ht.out]; go_num, by omega, HG⟩
      · obtain rfl : i = a.kids.length := by omega
        rw [List.take_length]
        go_wp2_with fail
        go_ret
        exact ⟨ret_int (by go_num), HG⟩
set_option maxHeartbeats 8000000 in
set_option maxRecDepth 100000 in
theorem refDepth_any (m : Nat) : ∀ (a : Nd) (A : Option Addr) (c : Nat) (w0 w : World) (ok : Nat → Prop), massN a ≤ m → m ≤ 100000 → NdV w0 ok a (nodeC a.kind a.text a.num A a.kids.length c) → w0.grownBy w none →
    Calls Tryz.prog 17 #[.agg #[.int .i64 a.kind, .string a.text, .int .i64 a.num, .slice A a.kids.length c]] w fun e w' => e = .returned (.int .i64 (depthN a : Nat)) ∧ w.grownBy w' none := by
  induction m using Nat.strongRecOn with
  | _ m IH =>
    intro a A c w0 w ok hm hm2 hN h0
    have HG := G.refl w none
    have HN := Lib.hid hN
    have hmk := mass_kids a
    have hdm := depthL_mass a.kids
    have hlm := len_mass a.kids
    have hdep := Lib.hid (depth_kids a)
    have HI := Lib.hid (fun (i : Nat) (hi : i < a.kids.length) A2 c2 w0 w ok => IH (massN a.kids[i]) (by have := mass_kid a.kids i hi; omega) a.kids[i] A2 c2 w0 w ok (Nat.le_refl _) (by have := mass_kid a.kids i hi; omega))
    have HK := Lib.hid (fun i hi => hN.kid i hi)
    have HT := Lib.hid (fun i hi => depthL_take a.kids i hi)
    have HL := Lib.hid (fun i => show depthL (a.kids.take i) ≤ depthL a.kids from by
      have e : a.kids = a.kids.take i ++ a.kids.drop i := (List.take_append_drop i _).symm
      have key : ∀ (x y : List Nd), depthL x ≤ depthL (x ++ y) := by
        intro x y
        induction x with
        | nil => rw [depthL]; omega
        | cons b x ih => rw [List.cons_append, depthL, depthL]; omega
      exact Nat.le_trans (key _ (a.kids.drop i)) (by rw [← e]; exact Nat.le_refl _))
    clear IH hN
    by_cases hk : a.kind = 1
    rotate_left
    · rw [hdep.out, if_neg hk]
      have hkb : (a.kind == 1) = false := by simpa using hk
      clear hk
      go_enter Tryz.func17, Tryz.ntmps17
      go_wp2_with fail
      refine wp_loop_rounds 1 ?_
      rw [rounds_succ]
      rcases Nat.eq_zero_or_pos a.kids.length with hz | hz
      · go_wp2_with fail
        go_ret
        exact ⟨rfl, (by exact G.go HG)⟩
      · go_wp2_with fail
        go_ret
        exact ⟨rfl, (by exact G.go HG)⟩
    rw [hdep.out, if_pos hk]
    have hkb : (a.kind == 1) = true := by simpa using hk
    clear hk
    go_enter Tryz.func17, Tryz.ntmps17
    go_wp2_with fail
    go_loopw [3, 4] (fun mv iv wr => ∃ (i : Nat), iv = .int .i64 i ∧ mv = .int .i64 (depthL (a.kids.take i) : Nat) ∧ i ≤ a.kids.length ∧ w.grownBy wr none ∧ Hx wr w.heap.size [.int .i64 a.kind, .string a.text, .int .i64 a.num, .slice A a.kids.length c] 24) (fun _ iv _ => a.kids.length - (intOf iv).toNat)
    case atStart => exact ⟨0, rfl, by simp [depthL], by omega, (by exact G.go HG), Hx.new _ _ _⟩
    case round =>
      clear HG
      obtain ⟨i, rfl, rfl, hi, HG, hs⟩ := hrel
      have hs_0 := hs.cell 0; have hs_3 := hs.cell 3
      by_cases hlt : i < a.kids.length
      · obtain ⟨b, o, A2, c2, rfl, hb, -, hkn, y0, y1, y2, y3⟩ := HK.out i hlt
        have hgw := G.trans h0 HG
        have x0 := (G.cell hgw (a := ⟨b, o + i * 4, none⟩) hb (by simp)).trans y0
        have x1 := (G.cell hgw (a := ⟨b, o + i * 4 + 1, none⟩) hb (by simp)).trans y1
        have x2 := (G.cell hgw (a := ⟨b, o + i * 4 + 2, none⟩) hb (by simp)).trans y2
        have x3 := (G.cell hgw (a := ⟨b, o + i * 4 + 3, none⟩) hb (by simp)).trans y3
        have hcall := Lib.hid (fun W (hg : w.grownBy W none) => HI.out i hlt A2 c2 w0 W ok hkn (G.trans h0 hg))
        have ht := Lib.hid (HT.out i hlt)
        have h1 := HL.out i
        have h2 := HL.out (i + 1)
        rw [ht.out] at h2
        clear y0 y1 y2 y3 hkn hgw HN
        generalize a.kids[i] = k at *
        generalize depthN k = dk at *
        generalize depthL (a.kids.take i) = dt at *
        go_wp2_with (go_at_call 17; (with_reducible refine (hcall.out _ (by exact G.go HG)).mono ?_); rintro e wn ⟨rfl, hgn⟩; replace HG := G.trans (w := w) (by exact G.go HG) hgn; replace hs := hs.kept hgn (by simp); clear hgn)
        refine ⟨?_, by first | (simp [intOf]; done) | (simp [intOf]; omega)⟩
        exact ⟨i + 1, by go_num, by rw [ht.out]; go_num, by omega, HG, hs⟩
      · obtain rfl : i = a.kids.length := by omega
        rw [List.take_length]
        go_wp2_with fail
        go_ret
        exact ⟨ret_int (by go_num), HG⟩
end Go.Proofs.YtiakgjijlhfneaaGreatDoor
namespace Go.Proofs.YtiakgjijlhfneaaGreatDoor
open Go.RowKit
theorem sameL_len : ∀ (l m : List Nd), l.length ≠ m.length → sameL l m = false := by
  intro l
  induction l with
  | nil => intro m h; cases m with | nil => simp at h | cons b m => rw [sameL]
  | cons a l ih =>
    intro m h
    cases m with
    | nil => rw [sameL]
    | cons b m => rw [sameL, ih m (by simpa using h), Bool.and_false]
theorem sameL_bad : ∀ (l m : List Nd) (i : Nat) (h1 : i < l.length) (h2 : i < m.length), sameN l[i] m[i] = false → sameL l m = false := by
  intro l
  induction l with
  | nil => intro m i h1; simp at h1
  | cons a l ih =>
    intro m i h1 h2 h
    cases m with
    | nil => simp at h2
    | cons b m =>
      rw [sameL]
      cases i with
      | zero => simp only [List.getElem_cons_zero] at h; rw [h, Bool.false_and]
      | succ i => rw [ih m i (by simpa using h1) (by simpa using h2) (by simpa using h), Bool.and_false]
theorem sameL_good : ∀ (l m : List Nd), l.length = m.length → (∀ i (h1 : i < l.length) (h2 : i < m.length), sameN l[i] m[i] = true) → sameL l m = true := by
  intro l
  induction l with
  | nil => intro m h _; cases m with | nil => rw [sameL] | cons b m => simp at h
  | cons a l ih =>
    intro m h hs
    cases m with
    | nil => simp at h
    | cons b m =>
      rw [sameL]
      have h0 := hs 0 (by simp) (by simp)
      simp only [List.getElem_cons_zero] at h0
      rw [h0, Bool.true_and]
      exact ih m (by simpa using h) (fun i h1 h2 => by have := hs (i + 1) (by simpa using h1) (by simpa using h2); simpa using this)
theorem same_parts (a b : Nd) : sameN a b = ((a.kind == b.kind) && (decide (a.text = b.text) && ((a.num == b.num) && sameL a.kids b.kids))) := by
  cases a with | mk k t n ks => cases b with | mk k' t' n' ks' => rw [sameN]; rfl
theorem text_beq (s t : ByteArray) : (s.toList == t.toList) = decide (s = t) := by
  rw [Lib.toList_data, Lib.toList_data, Bool.eq_iff_iff]
  simp only [beq_iff_eq, decide_eq_true_eq]
  constructor
  · intro h; exact ByteArray.ext (Array.toList_inj.1 h)
  · intro h; rw [h]
set_option maxHeartbeats 8000000 in
set_option maxRecDepth 100000 in
theorem same_any (m : Nat) : ∀ (a b : Nd) (A1 A2 : Option Addr) (c1 c2 : Nat) (w1 w2 w : World) (ok1 ok2 : Nat → Prop), massN a ≤ m → m ≤ 100000 → NdV w1 ok1 a (nodeC a.kind a.text a.num A1 a.kids.length c1) → NdV w2 ok2 b (nodeC b.kind b.text b.num A2 b.kids.length c2) → w1.grownBy w none → w2.grownBy w none →
    Calls Tryz.prog 18 #[.agg #[.int .i64 a.kind, .string a.text, .int .i64 a.num, .slice A1 a.kids.length c1], .agg #[.int .i64 b.kind, .string b.text, .int .i64 b.num, .slice A2 b.kids.length c2]] w fun e w' => e = .returned (.bool (sameN a b)) ∧ w.grownBy w' none := by
  induction m using Nat.strongRecOn with
  | _ m IH =>
    intro a b A1 A2 c1 c2 w1 w2 w ok1 ok2 hm hm2 hN1 hN2 h1 h2
    have HG := G.refl w none
    have hmk := mass_kids a
    have hlm := len_mass a.kids
    have hparts := Lib.hid (same_parts a b)
    have hB2 := Lib.hid hN2
    have HI := Lib.hid (fun (i : Nat) (hi : i < a.kids.length) (b : Nd) A1 A2 c1 c2 w1 w2 w ok1 ok2 => IH (massN a.kids[i]) (by have := mass_kid a.kids i hi; omega) a.kids[i] b A1 A2 c1 c2 w1 w2 w ok1 ok2 (Nat.le_refl _) (by have := mass_kid a.kids i hi; omega))
    have HK1 := Lib.hid (fun i hi => hN1.kid i hi)
    have HK2 := Lib.hid (fun i hi => hN2.kid i hi)
    have HS1 := Lib.hid (sameL_len a.kids b.kids)
    have HS2 := Lib.hid (sameL_bad a.kids b.kids)
    have HS3 := Lib.hid (sameL_good a.kids b.kids)
    have tb := text_beq a.text b.text
    clear IH hN1 hN2
    rw [hparts.out]
    clear hparts
    generalize hQ : sameL a.kids b.kids = Q at *
    have hQ' := Lib.hid hQ; clear hQ
    by_cases e1 : a.kind = b.kind
    rotate_left
    · have f1 : (a.kind == b.kind) = false := by simpa using e1
      have f2 : (a.kind != b.kind) = true := by simpa using e1
      clear e1
      rw [f1]
      go_enter Tryz.func18, Tryz.ntmps18
      go_wp2_with fail
      go_ret
      exact ⟨ret_bool (by simp), (by exact G.go HG)⟩
    have f1 : (a.kind == b.kind) = true := by simpa using e1
    have f2 : (a.kind != b.kind) = false := by simpa using e1
    clear e1
    rw [f1]
    by_cases e2 : a.text = b.text
    rotate_left
    · rw [decide_eq_false e2] at tb
      have tb2 : (a.text.toList != b.text.toList) = true := by unfold bne; rw [tb]; rfl
      rw [decide_eq_false e2]
      clear e2
      go_enter Tryz.func18, Tryz.ntmps18
      go_wp2_with fail
      go_ret
      exact ⟨ret_bool (by simp), (by exact G.go HG)⟩
    rw [decide_eq_true e2] at tb
    have tb2 : (a.text.toList != b.text.toList) = false := by unfold bne; rw [tb]; rfl
    rw [decide_eq_true e2]
    clear e2
    by_cases e3 : a.num = b.num
    rotate_left
    · have f3 : (a.num == b.num) = false := by simpa using e3
      have f4 : (a.num != b.num) = true := by simpa using e3
      clear e3
      rw [f3]
      go_enter Tryz.func18, Tryz.ntmps18
      go_wp2_with fail
      go_ret
      exact ⟨ret_bool (by simp), (by exact G.go HG)⟩
    have f3 : (a.num == b.num) = true := by simpa using e3
    have f4 : (a.num != b.num) = false := by simpa using e3
    clear e3
    rw [f3, Bool.true_and, Bool.true_and, Bool.true_and]
    by_cases e4 : a.kids.length = b.kids.length
    rotate_left
    · have f5 : ((a.kids.length : Int) != (b.kids.length : Int)) = true := by simp; omega
      have hz : Q = false := HS1.out e4
      subst hz
      clear e4
      go_enter Tryz.func18, Tryz.ntmps18
      go_wp2_with fail
      go_ret
      exact ⟨ret_bool (by simp), (by exact G.go HG)⟩
    have f5 : ((a.kids.length : Int) != (b.kids.length : Int)) = false := by simp; omega
    have e4' := Lib.hid e4
    clear e4
    go_enter Tryz.func18, Tryz.ntmps18
    go_wp2_with fail
    go_loopw [5, 37] (fun _ iv wr => ∃ (i : Nat), iv = .int .i64 i ∧ i ≤ a.kids.length ∧ Hid (∀ j (g1 : j < a.kids.length) (g2 : j < b.kids.length), j < i → sameN a.kids[j] b.kids[j] = true) ∧ w.grownBy wr none ∧ Hx wr (w.heap.size) [.int .i64 a.kind, .string a.text, .int .i64 a.num, .slice A1 a.kids.length c1] 24 ∧ Hx wr (w.heap.size + 1) [.int .i64 b.kind, .string b.text, .int .i64 b.num, .slice A2 b.kids.length c2] 24) (fun _ iv _ => a.kids.length - (intOf iv).toNat)
    case atStart => exact ⟨0, rfl, by omega, Lib.hid (fun j _ _ h => by omega), (by exact G.go HG), (Hx.new _ _ _).alloc _, (by exact Hx.go2)⟩
    case round =>
      clear HG
      obtain ⟨i, rfl, hi, HP, HG, hn1, hn2⟩ := hrel
      have hn1_3 := hn1.cell 3; have hn2_3 := hn2.cell 3
      by_cases hlt : i < a.kids.length
      · have hlt2 : i < b.kids.length := by have := e4'.out; omega
        obtain ⟨b1, o1, A3, c3, rfl, hb1, -, hkn1, y0, y1, y2, y3⟩ := HK1.out i hlt
        obtain ⟨b2, o2, A4, c4, rfl, hb2, -, hkn2, z0, z1, z2, z3⟩ := HK2.out i hlt2
        have hg1 := G.trans h1 HG
        have hg2 := G.trans h2 HG
        have q00 := fun x : GrowW wr => (GrowW.cell x (a := ⟨b1, o1 + i * 4, none⟩) (Nat.lt_of_lt_of_le hb1 hg1.size)).trans ((G.cell hg1 (a := ⟨b1, o1 + i * 4, none⟩) hb1 (by simp)).trans y0)
        have q01 := fun x : GrowW wr => (GrowW.cell x (a := ⟨b1, o1 + i * 4 + 1, none⟩) (Nat.lt_of_lt_of_le hb1 hg1.size)).trans ((G.cell hg1 (a := ⟨b1, o1 + i * 4 + 1, none⟩) hb1 (by simp)).trans y1)
        have q02 := fun x : GrowW wr => (GrowW.cell x (a := ⟨b1, o1 + i * 4 + 2, none⟩) (Nat.lt_of_lt_of_le hb1 hg1.size)).trans ((G.cell hg1 (a := ⟨b1, o1 + i * 4 + 2, none⟩) hb1 (by simp)).trans y2)
        have q03 := fun x : GrowW wr => (GrowW.cell x (a := ⟨b1, o1 + i * 4 + 3, none⟩) (Nat.lt_of_lt_of_le hb1 hg1.size)).trans ((G.cell hg1 (a := ⟨b1, o1 + i * 4 + 3, none⟩) hb1 (by simp)).trans y3)
        have q10 := fun x : GrowW wr => (GrowW.cell x (a := ⟨b2, o2 + i * 4, none⟩) (Nat.lt_of_lt_of_le hb2 hg2.size)).trans ((G.cell hg2 (a := ⟨b2, o2 + i * 4, none⟩) hb2 (by simp)).trans z0)
        have q11 := fun x : GrowW wr => (GrowW.cell x (a := ⟨b2, o2 + i * 4 + 1, none⟩) (Nat.lt_of_lt_of_le hb2 hg2.size)).trans ((G.cell hg2 (a := ⟨b2, o2 + i * 4 + 1, none⟩) hb2 (by simp)).trans z1)
        have q12 := fun x : GrowW wr => (GrowW.cell x (a := ⟨b2, o2 + i * 4 + 2, none⟩) (Nat.lt_of_lt_of_le hb2 hg2.size)).trans ((G.cell hg2 (a := ⟨b2, o2 + i * 4 + 2, none⟩) hb2 (by simp)).trans z2)
        have q13 := fun x : GrowW wr => (GrowW.cell x (a := ⟨b2, o2 + i * 4 + 3, none⟩) (Nat.lt_of_lt_of_le hb2 hg2.size)).trans ((G.cell hg2 (a := ⟨b2, o2 + i * 4 + 3, none⟩) hb2 (by simp)).trans z3)
        have hcall := Lib.hid (fun W (hg : w.grownBy W none) => HI.out i hlt b.kids[i] A3 A4 c3 c4 w1 w2 W ok1 ok2 hkn1 hkn2 (G.trans h1 hg) (G.trans h2 hg))
        have hnx : Hid (sameN a.kids[i] b.kids[i] = true → ∀ j (g1 : j < a.kids.length) (g2 : j < b.kids.length), j < i + 1 → sameN a.kids[j] b.kids[j] = true) := Lib.hid (fun g j g1 g2 hj => by
          rcases Nat.lt_or_ge j i with q | q
          · exact HP.out j g1 g2 q
          · obtain rfl : j = i := by omega
            exact g)
        have hbad : Hid (sameN a.kids[i] b.kids[i] = false → Q = false) := Lib.hid (fun g => HS2.out i hlt hlt2 g)
        clear y0 y1 y2 y3 z0 z1 z2 z3 hkn1 hkn2 hg1 hg2 HP
        generalize sameN a.kids[i] b.kids[i] = r at *
        generalize a.kids[i] = k1 at *
        generalize b.kids[i] = k2 at *
        have HGr := HG
        go_wp2_with fail
        (have hn1_q0 := fun x => (Hx.inG hn1 x).cell 0; have hn1_q1 := fun x => (Hx.inG hn1 x).cell 1; have hn1_q2 := fun x => (Hx.inG hn1 x).cell 2; have hn1_q3 := fun x => (Hx.inG hn1 x).cell 3; have hn2_q0 := fun x => (Hx.inG hn2 x).cell 0; have hn2_q1 := fun x => (Hx.inG hn2 x).cell 1; have hn2_q2 := fun x => (Hx.inG hn2 x).cell 2; have hn2_q3 := fun x => (Hx.inG hn2 x).cell 3; refine wp_region_grow (w0 := wr) (G.refl wr none) (by kernel_rfl) (by kernel_rfl) ?_; (repeat (refine wpQuiet_step (fun K hK => ?_); go_simp; first | (refine hK _ ?_; clear hK K) | (apply Exists.intro; refine ⟨fun xq => ?_, hK _ ?_⟩; (focus ((go_at_call 18; have h0 := hcall.out xq.1 (G.trans HGr xq.2); (with_reducible exact grow_of h0)))); clear hK K))); refine wpQuiet_nil ?_; intro wn hgn; replace HG := G.trans (w := w) HG hgn; clear hn1_q0 hn1_q1 hn1_q2 hn1_q3; replace hn1 := Hx.kept hn1 hgn (by simp); clear hn2_q0 hn2_q1 hn2_q2 hn2_q3; replace hn2 := Hx.kept hn2 hgn (by simp); clear hgn)
        clear q00 q01 q02 q03 q10 q11 q12 q13
        cases r
        · have hz := hbad.out rfl
          clear hbad hnx
          subst hz
          go_wp2_with fail
          go_ret
          exact ⟨rfl, HG⟩
        · have hm3 := Lib.hid (hnx.out rfl)
          clear hbad hnx
          go_wp2_with fail
          refine ⟨?_, by first | (simp [intOf]; done) | (simp [intOf]; omega)⟩
          exact ⟨i + 1, by go_num, by omega, hm3, HG, hn1, hn2⟩
      · obtain rfl : i = a.kids.length := by omega
        have hz : Q = true := HS3.out e4'.out (fun j g1 g2 => HP.out j g1 g2 g1)
        subst hz
        go_wp2_with fail
        go_ret
        exact ⟨rfl, HG⟩
set_option maxHeartbeats 8000000 in
set_option maxRecDepth 100000 in
theorem refSame_any (m : Nat) : ∀ (a b : Nd) (A1 A2 : Option Addr) (c1 c2 : Nat) (w1 w2 w : World) (ok1 ok2 : Nat → Prop), massN a ≤ m → m ≤ 100000 → NdV w1 ok1 a (nodeC a.kind a.text a.num A1 a.kids.length c1) → NdV w2 ok2 b (nodeC b.kind b.text b.num A2 b.kids.length c2) → w1.grownBy w none → w2.grownBy w none →
    Calls Tryz.prog 9 #[.agg #[.int .i64 a.kind, .string a.text, .int .i64 a.num, .slice A1 a.kids.length c1], .agg #[.int .i64 b.kind, .string b.text, .int .i64 b.num, .slice A2 b.kids.length c2]] w fun e w' => e = .returned (.bool (sameN a b)) ∧ w.grownBy w' none := by
  induction m using Nat.strongRecOn with
  | _ m IH =>
    intro a b A1 A2 c1 c2 w1 w2 w ok1 ok2 hm hm2 hN1 hN2 h1 h2
    have HG := G.refl w none
    have hmk := mass_kids a
    have hlm := len_mass a.kids
    have hparts := Lib.hid (same_parts a b)
    have hB2 := Lib.hid hN2
    have HI := Lib.hid (fun (i : Nat) (hi : i < a.kids.length) (b : Nd) A1 A2 c1 c2 w1 w2 w ok1 ok2 => IH (massN a.kids[i]) (by have := mass_kid a.kids i hi; omega) a.kids[i] b A1 A2 c1 c2 w1 w2 w ok1 ok2 (Nat.le_refl _) (by have := mass_kid a.kids i hi; omega))
    have HK1 := Lib.hid (fun i hi => hN1.kid i hi)
    have HK2 := Lib.hid (fun i hi => hN2.kid i hi)
    have HS1 := Lib.hid (sameL_len a.kids b.kids)
    have HS2 := Lib.hid (sameL_bad a.kids b.kids)
    have HS3 := Lib.hid (sameL_good a.kids b.kids)
    have tb := text_beq a.text b.text
    clear IH hN1 hN2
    rw [hparts.out]
    clear hparts
    generalize hQ : sameL a.kids b.kids = Q at *
    have hQ' := Lib.hid hQ; clear hQ
    by_cases e1 : a.kind = b.kind
    rotate_left
    · have f1 : (a.kind == b.kind) = false := by simpa using e1
      have f2 : (a.kind != b.kind) = true := by simpa using e1
      clear e1
      rw [f1]
      go_enter Tryz.func9, Tryz.ntmps9
      go_wp2_with fail
      go_ret
      exact ⟨ret_bool (by simp), (by exact G.go HG)⟩
    have f1 : (a.kind == b.kind) = true := by simpa using e1
    have f2 : (a.kind != b.kind) = false := by simpa using e1
    clear e1
    rw [f1]
    by_cases e2 : a.text = b.text
    rotate_left
    · rw [decide_eq_false e2] at tb
      have tb2 : (a.text.toList != b.text.toList) = true := by unfold bne; rw [tb]; rfl
      rw [decide_eq_false e2]
      clear e2
      go_enter Tryz.func9, Tryz.ntmps9
      go_wp2_with fail
      go_ret
      exact ⟨ret_bool (by simp), (by exact G.go HG)⟩
    rw [decide_eq_true e2] at tb
    have tb2 : (a.text.toList != b.text.toList) = false := by unfold bne; rw [tb]; rfl
    rw [decide_eq_true e2]
    clear e2
    by_cases e3 : a.num = b.num
    rotate_left
    · have f3 : (a.num == b.num) = false := by simpa using e3
      have f4 : (a.num != b.num) = true := by simpa using e3
      clear e3
      rw [f3]
      go_enter Tryz.func9, Tryz.ntmps9
      go_wp2_with fail
      go_ret
      exact ⟨ret_bool (by simp), (by exact G.go HG)⟩
    have f3 : (a.num == b.num) = true := by simpa using e3
    have f4 : (a.num != b.num) = false := by simpa using e3
    clear e3
    rw [f3, Bool.true_and, Bool.true_and, Bool.true_and]
    by_cases e4 : a.kids.length = b.kids.length
    rotate_left
    · have f5 : ((a.kids.length : Int) != (b.kids.length : Int)) = true := by simp; omega
      have hz : Q = false := HS1.out e4
      subst hz
      clear e4
      go_enter Tryz.func9, Tryz.ntmps9
      go_wp2_with fail
      go_ret
      exact ⟨ret_bool (by simp), (by exact G.go HG)⟩
    have f5 : ((a.kids.length : Int) != (b.kids.length : Int)) = false := by simp; omega
    have e4' := Lib.hid e4
    clear e4
    go_enter Tryz.func9, Tryz.ntmps9
    go_wp2_with fail
    go_loopw [5] (fun iv wr => ∃ (i : Nat), iv = .int .i64 i ∧ i ≤ a.kids.length ∧ Hid (∀ j (g1 : j < a.kids.length) (g2 : j < b.kids.length), j < i → sameN a.kids[j] b.kids[j] = true) ∧ w.grownBy wr none ∧ Hx wr (w.heap.size) [.int .i64 a.kind, .string a.text, .int .i64 a.num, .slice A1 a.kids.length c1] 24 ∧ Hx wr (w.heap.size + 1) [.int .i64 b.kind, .string b.text, .int .i64 b.num, .slice A2 b.kids.length c2] 24) (fun iv _ => a.kids.length - (intOf iv).toNat)
    case atStart => exact ⟨0, rfl, by omega, Lib.hid (fun j _ _ h => by omega), (by exact G.go HG), (Hx.new _ _ _).alloc _, (by exact Hx.go2)⟩
    case round =>
      clear HG
      obtain ⟨i, rfl, hi, HP, HG, hn1, hn2⟩ := hrel
      have hn1_3 := hn1.cell 3; have hn2_3 := hn2.cell 3
      by_cases hlt : i < a.kids.length
      · have hlt2 : i < b.kids.length := by have := e4'.out; omega
        obtain ⟨b1, o1, A3, c3, rfl, hb1, -, hkn1, y0, y1, y2, y3⟩ := HK1.out i hlt
        obtain ⟨b2, o2, A4, c4, rfl, hb2, -, hkn2, z0, z1, z2, z3⟩ := HK2.out i hlt2
        have hg1 := G.trans h1 HG
        have hg2 := G.trans h2 HG
        have q00 := fun x : GrowW wr => (GrowW.cell x (a := ⟨b1, o1 + i * 4, none⟩) (Nat.lt_of_lt_of_le hb1 hg1.size)).trans ((G.cell hg1 (a := ⟨b1, o1 + i * 4, none⟩) hb1 (by simp)).trans y0)
        have q01 := fun x : GrowW wr => (GrowW.cell x (a := ⟨b1, o1 + i * 4 + 1, none⟩) (Nat.lt_of_lt_of_le hb1 hg1.size)).trans ((G.cell hg1 (a := ⟨b1, o1 + i * 4 + 1, none⟩) hb1 (by simp)).trans y1)
        have q02 := fun x : GrowW wr => (GrowW.cell x (a := ⟨b1, o1 + i * 4 + 2, none⟩) (Nat.lt_of_lt_of_le hb1 hg1.size)).trans ((G.cell hg1 (a := ⟨b1, o1 + i * 4 + 2, none⟩) hb1 (by simp)).trans y2)
        have q03 := fun x : GrowW wr => (GrowW.cell x (a := ⟨b1, o1 + i * 4 + 3, none⟩) (Nat.lt_of_lt_of_le hb1 hg1.size)).trans ((G.cell hg1 (a := ⟨b1, o1 + i * 4 + 3, none⟩) hb1 (by simp)).trans y3)
        have q10 := fun x : GrowW wr => (GrowW.cell x (a := ⟨b2, o2 + i * 4, none⟩) (Nat.lt_of_lt_of_le hb2 hg2.size)).trans ((G.cell hg2 (a := ⟨b2, o2 + i * 4, none⟩) hb2 (by simp)).trans z0)
        have q11 := fun x : GrowW wr => (GrowW.cell x (a := ⟨b2, o2 + i * 4 + 1, none⟩) (Nat.lt_of_lt_of_le hb2 hg2.size)).trans ((G.cell hg2 (a := ⟨b2, o2 + i * 4 + 1, none⟩) hb2 (by simp)).trans z1)
        have q12 := fun x : GrowW wr => (GrowW.cell x (a := ⟨b2, o2 + i * 4 + 2, none⟩) (Nat.lt_of_lt_of_le hb2 hg2.size)).trans ((G.cell hg2 (a := ⟨b2, o2 + i * 4 + 2, none⟩) hb2 (by simp)).trans z2)
        have q13 := fun x : GrowW wr => (GrowW.cell x (a := ⟨b2, o2 + i * 4 + 3, none⟩) (Nat.lt_of_lt_of_le hb2 hg2.size)).trans ((G.cell hg2 (a := ⟨b2, o2 + i * 4 + 3, none⟩) hb2 (by simp)).trans z3)
        have hcall := Lib.hid (fun W (hg : w.grownBy W none) => HI.out i hlt b.kids[i] A3 A4 c3 c4 w1 w2 W ok1 ok2 hkn1 hkn2 (G.trans h1 hg) (G.trans h2 hg))
        have hnx : Hid (sameN a.kids[i] b.kids[i] = true → ∀ j (g1 : j < a.kids.length) (g2 : j < b.kids.length), j < i + 1 → sameN a.kids[j] b.kids[j] = true) := Lib.hid (fun g j g1 g2 hj => by
          rcases Nat.lt_or_ge j i with q | q
          · exact HP.out j g1 g2 q
          · obtain rfl : j = i := by omega
            exact g)
        have hbad : Hid (sameN a.kids[i] b.kids[i] = false → Q = false) := Lib.hid (fun g => HS2.out i hlt hlt2 g)
        clear y0 y1 y2 y3 z0 z1 z2 z3 hkn1 hkn2 hg1 hg2 HP
        generalize sameN a.kids[i] b.kids[i] = r at *
        generalize a.kids[i] = k1 at *
        generalize b.kids[i] = k2 at *
        have HGr := HG
        go_wp2_with fail
        (have hn1_q0 := fun x => (Hx.inG hn1 x).cell 0; have hn1_q1 := fun x => (Hx.inG hn1 x).cell 1; have hn1_q2 := fun x => (Hx.inG hn1 x).cell 2; have hn1_q3 := fun x => (Hx.inG hn1 x).cell 3; have hn2_q0 := fun x => (Hx.inG hn2 x).cell 0; have hn2_q1 := fun x => (Hx.inG hn2 x).cell 1; have hn2_q2 := fun x => (Hx.inG hn2 x).cell 2; have hn2_q3 := fun x => (Hx.inG hn2 x).cell 3; refine wp_region_grow (w0 := wr) (G.refl wr none) (by kernel_rfl) (by kernel_rfl) ?_; (repeat (refine wpQuiet_step (fun K hK => ?_); go_simp; first | (refine hK _ ?_; clear hK K) | (apply Exists.intro; refine ⟨fun xq => ?_, hK _ ?_⟩; (focus ((go_at_call 9; have h0 := hcall.out xq.1 (G.trans HGr xq.2); (with_reducible exact grow_of h0)))); clear hK K))); refine wpQuiet_nil ?_; intro wn hgn; replace HG := G.trans (w := w) HG hgn; clear hn1_q0 hn1_q1 hn1_q2 hn1_q3; replace hn1 := Hx.kept hn1 hgn (by simp); clear hn2_q0 hn2_q1 hn2_q2 hn2_q3; replace hn2 := Hx.kept hn2 hgn (by simp); clear hgn)
        clear q00 q01 q02 q03 q10 q11 q12 q13
        cases r
        · have hz := hbad.out rfl
          clear hbad hnx
          subst hz
          go_wp2_with fail
          go_ret
          exact ⟨rfl, HG⟩
        · have hm3 := Lib.hid (hnx.out rfl)
          clear hbad hnx
          go_wp2_with fail
          refine ⟨?_, by first | (simp [intOf]; done) | (simp [intOf]; omega)⟩
          exact ⟨i + 1, by go_num, by omega, hm3, HG, hn1, hn2⟩
      · obtain rfl : i = a.kids.length := by omega
        have hz : Q = true := HS3.out e4'.out (fun j g1 g2 => HP.out j g1 g2 g1)
        subst hz
        go_wp2_with fail
        go_ret
        exact ⟨rfl, HG⟩
end Go.Proofs.YtiakgjijlhfneaaGreatDoor
namespace Go.Proofs.YtiakgjijlhfneaaGreatDoor
open Go.RowKit
mutual
def hvN : Nd → Int → Int
  | .mk _ t _ ks, l => hvL ks (l - 5 - t.size)
def hvL : List Nd → Int → Int
  | [], l => l
  | a :: ks, l => if 0 ≤ l then hvL ks (hvN a l) else l
end
theorem hvL_neg {ks : List Nd} {l : Int} (h : l < 0) : hvL ks l = l := by
  cases ks with
  | nil => rw [hvL]
  | cons a ks => rw [hvL, if_neg (by omega)]
theorem hvL_pos {ks : List Nd} {l : Int} (h : 0 ≤ hvL ks l) : 0 ≤ l := by
  rcases Int.lt_or_le l 0 with g | g
  · rw [hvL_neg g] at h; exact h
  · exact g
mutual
theorem hvN_mass : ∀ (a : Nd) (l : Int), 0 ≤ hvN a l → hvN a l = l - massN a
  | .mk _ t _ ks, l, h => by
    rw [hvN] at h ⊢
    rw [massN, hvL_mass ks _ h]
    omega
theorem hvL_mass : ∀ (ks : List Nd) (l : Int), 0 ≤ hvL ks l → hvL ks l = l - massL ks
  | [], l, _ => by rw [hvL, massL]; omega
  | a :: ks, l, h => by
    rw [hvL] at h ⊢
    by_cases h0 : 0 ≤ l
    · rw [if_pos h0] at h ⊢
      have h1 := hvL_pos h
      rw [hvL_mass ks _ h, massL, hvN_mass a l h1]
      omega
    · rw [if_neg h0] at h; exact absurd h h0
end
theorem hv_parts (a : Nd) (l : Int) : hvN a l = hvL a.kids (l - 5 - a.text.size) := by cases a with | mk k t n ks => rw [hvN]; rfl
theorem hvL_drop {ks : List Nd} {i : Nat} (h : i < ks.length) {l : Int} (hl : 0 ≤ l) : hvL (ks.drop i) l = hvL (ks.drop (i + 1)) (hvN ks[i] l) := by
  rw [List.drop_eq_getElem_cons h, hvL, if_pos hl]
set_option maxHeartbeats 8000000 in
set_option maxRecDepth 100000 in
theorem heavy_any (m : Nat) : ∀ (a : Nd) (l : Int) (A : Option Addr) (c : Nat) (w0 w : World) (ok : Nat → Prop), l + 1 ≤ m → 0 ≤ l → l ≤ 300 → NdV w0 ok a (nodeC a.kind a.text a.num A a.kids.length c) → w0.grownBy w none →
    Calls Tryz.prog 11 #[.agg #[.int .i64 a.kind, .string a.text, .int .i64 a.num, .slice A a.kids.length c], .int .i64 l] w fun e w' => (e = .returned (.int .i64 (hvN a l)) ∧ hvN a l + 5 ≤ l ∧ -140737488351300 ≤ hvN a l) ∧ w.grownBy w' none := by
  induction m with
  | zero => intro a l A c w0 w ok h1 h2; omega
  | succ m IH =>
    intro a l A c w0 w ok hm hl0 hl hN h0
    have HG := G.refl w none
    have HK := Lib.hid (fun i hi => hN.kid i hi)
    have hkl : a.kids.length ≤ maxLen := by obtain ⟨_, _, e, h1, h2⟩ := hN.form; omega
    have htx := hN.text
    have HD := Lib.hid (fun (i : Nat) (hi : i < a.kids.length) (l : Int) (hl : 0 ≤ l) => hvL_drop hi hl)
    have hp := Lib.hid (hv_parts a l)
    clear hN
    unfold maxLen at hkl
    rw [hp.out]
    clear hp
    obtain ⟨R, hR⟩ : ∃ R, Hid (hvL a.kids (l - 5 - a.text.size) = R) := ⟨_, Lib.hid rfl⟩
    rw [hR.out]
    have hb1 : (l - 5 - a.text.size : Int) ≤ 295 := by omega
    have hb2 : -140737488351300 ≤ (l - 5 - a.text.size : Int) := by omega
    have hw1 : IntKind.i64.wrap (l - 5) = l - 5 := by rw [IntKind.wrap_i64]; omega
    have hw2 : IntKind.i64.wrap (l - 5 - a.text.size) = l - 5 - a.text.size := by rw [IntKind.wrap_i64]; omega
    have HM := Lib.hid hm
    generalize hL : (l - 5 - a.text.size : Int) = lv at *
    have hL5 : lv + 5 ≤ l := by omega
    have HL := Lib.hid hL
    clear hm
    go_enter Tryz.func11, Tryz.ntmps11
    go_upto_region 2 with (fail)
    go_cut [1, 2, 5] (fun p1 p2 p5 wc => p1 = .int .i64 lv ∧ p2 = .pointer (some ⟨w.heap.size, 0, none⟩) ∧ p5 = .int .i64 0 ∧ w.grownBy wc none ∧ Hx wc w.heap.size [.int .i64 a.kind, .string a.text, .int .i64 a.num, .slice A a.kids.length c] 24)
    case first =>
      have hw3 : IntKind.i64.wrap (l - 5 - a.text.size) = l - 5 - a.text.size := by rw [IntKind.wrap_i64]; omega
      go_wp2_with fail
      go_meet
      exact ⟨by first | rfl | rw [hL], rfl, rfl, (by exact G.go HG), Hx.go2⟩
    obtain ⟨rfl, rfl, rfl, HG, hn⟩ := hcut
    clear hw1 hw2 hL
    go_wp2_with fail
    go_loopw [1, 5] (fun mv iv wr => ∃ (i : Nat) (x : Int), iv = .int .i64 i ∧ mv = .int .i64 x ∧ i ≤ a.kids.length ∧ x ≤ 295 ∧ x + 5 ≤ l ∧ -140737488351300 ≤ x ∧ w.grownBy wr none ∧ Hx wr w.heap.size [.int .i64 a.kind, .string a.text, .int .i64 a.num, .slice A a.kids.length c] 24 ∧ Hid (hvL (a.kids.drop i) x = R)) (fun _ iv _ => a.kids.length - (intOf iv).toNat)
    case atStart => exact ⟨0, lv, rfl, rfl, by omega, hb1, hL5, hb2, HG, hn, Lib.hid (by rw [List.drop_zero]; exact hR.out)⟩
    case round =>
      clear HG hn
      obtain ⟨i, x, rfl, rfl, hi, x1, x2, x3, HG, hn, hq⟩ := hrel
      have hn_3 := hn.cell 3; have hn_l := hn.lt
      by_cases hx0 : x < 0
      · have hx1 : ¬ (0 : Int) ≤ x := by omega
        obtain rfl : R = x := by rw [← hq.out, hvL_neg hx0]
        by_cases hlt : i < a.kids.length
        · go_wp2_with fail
          go_ret
          first | exact ⟨rfl, HG⟩ | exact ⟨⟨rfl, x2, x3⟩, HG⟩ | exact ⟨rfl, x2, x3, HG⟩ | exact ⟨rfl, ⟨x2, x3⟩, HG⟩
        · go_wp2_with fail
          go_ret
          first | exact ⟨rfl, HG⟩ | exact ⟨⟨rfl, x2, x3⟩, HG⟩ | exact ⟨rfl, x2, x3, HG⟩ | exact ⟨rfl, ⟨x2, x3⟩, HG⟩
      have hx1 : (0 : Int) ≤ x := by omega
      by_cases hlt : i < a.kids.length
      · obtain ⟨b, o, A2, c2, rfl, hb, -, hkn, y0, y1, y2, y3⟩ := HK.out i hlt
        have hgw := G.trans h0 HG
        have z0 := (G.cell hgw (a := ⟨b, o + i * 4, none⟩) hb (by simp)).trans y0
        have z1 := (G.cell hgw (a := ⟨b, o + i * 4 + 1, none⟩) hb (by simp)).trans y1
        have z2 := (G.cell hgw (a := ⟨b, o + i * 4 + 2, none⟩) hb (by simp)).trans y2
        have z3 := (G.cell hgw (a := ⟨b, o + i * 4 + 3, none⟩) hb (by simp)).trans y3
        have hcall := Lib.hid (fun W (hg : w.grownBy W none) => IH a.kids[i] x A2 c2 w0 W ok (by have := HM.out; omega) hx1 (by omega) hkn (G.trans h0 hg))
        have hst := Lib.hid (HD.out i hlt x hx1)
        clear y0 y1 y2 y3 hkn hgw
        generalize a.kids[i] = k at *
        generalize hvN k x = hv at *
        go_wp2_with (go_at_call 11; (with_reducible refine (hcall.out _ (by exact G.go HG)).mono ?_); rintro e wn ⟨⟨rfl, v1, v2⟩, hgn⟩; replace HG := G.trans (w := w) (by exact G.go HG) hgn; replace hn := Hx.kept hn hgn (by simp); clear hgn)
        refine ⟨?_, by first | (simp [intOf]; done) | (simp [intOf]; omega)⟩
        exact ⟨i + 1, hv, by go_num, rfl, by omega, by omega, by omega, v2, HG, hn, Lib.hid (by rw [← hst.out]; exact hq.out)⟩
      · obtain rfl : i = a.kids.length := by omega
        obtain rfl : R = x := by rw [← hq.out, List.drop_length, hvL]
        go_wp2_with fail
        go_ret
        first | exact ⟨rfl, HG⟩ | exact ⟨⟨rfl, x2, x3⟩, HG⟩ | exact ⟨rfl, x2, x3, HG⟩ | exact ⟨rfl, ⟨x2, x3⟩, HG⟩
end Go.Proofs.YtiakgjijlhfneaaGreatDoor
