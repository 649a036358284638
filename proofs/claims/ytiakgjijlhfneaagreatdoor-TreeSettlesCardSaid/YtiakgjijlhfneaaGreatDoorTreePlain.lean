/-
  Nodes in plain words: how deep, whether they may be, their texts; and what a row of words is as a node.
  The words of a node's text are the node's words. No program is named here.
  A node's words are read as that node; and what is read may be, and its text is not long. No program is named here.
  How much a node weighs that is read from a text, how long its words are, and how far an expression reaches. No program is named here.
  Calls within one another, in plain words. No program is named here.
-/
import Derived.Test.YtiakgjijlhfneaaGreatDoorLexIdent
import Derived.Test.YtiakgjijlhfneaaGreatDoorLexPath
import Derived.Test.YtiakgjijlhfneaaGreatDoorDecBack
import Derived.Test.YtiakgjijlhfneaaGreatDoorLexLex
namespace Go.Proofs.YtiakgjijlhfneaaGreatDoor
/-- a node -/
inductive Nd where
  | mk (kind : Int) (text : ByteArray) (n : Int) (kids : List Nd) : Nd
def Nd.none : Nd := .mk 0 ⟨#[]⟩ 0 []
mutual
/-- how deep a node is -/
def depthN : Nd → Nat
  | .mk k _ _ ks => if k = 1 then depthL ks + 1 else 1
def depthL : List Nd → Nat
  | [] => 0
  | a :: l => max (depthN a) (depthL l)
end
mutual
/-- are two nodes one? -/
def sameN : Nd → Nd → Bool
  | .mk k t n ks, .mk k' t' n' ks' => (k == k') && (decide (t = t') && ((n == n') && sameL ks ks'))
def sameL : List Nd → List Nd → Bool
  | [], [] => true
  | a :: l, b :: m => sameN a b && sameL l m
  | [], _ :: _ => false
  | _ :: _, [] => false
end
mutual
/-- how much a node weighs -/
def massN : Nd → Nat
  | .mk _ t _ ks => massL ks + (5 + t.size)
def massL : List Nd → Nat
  | [] => 0
  | a :: l => massN a + massL l
end
def identB (t : ByteArray) : Bool := identAt t 0 && decide (0 < t.size)
def trueB : ByteArray := ⟨#[116, 114, 117, 101]⟩
def falseB : ByteArray := ⟨#[102, 97, 108, 115, 101]⟩
/-- a path, and nothing else -/
def isPathB (t : ByteArray) : Bool := pathB t && ((parseO t).isNone && (!decide (t = trueB) && !decide (t = falseB)))
def hasB (c : UInt8) (t : ByteArray) : Bool := t.data.toList.contains c
/-- may a node be, apart from what hangs on it? -/
def leafN (k : Int) (t : ByteArray) (n : Int) : Bool :=
  if k = 1 then (n == 0) && identB t
  else if k = 2 then (n == 0) && isPathB t
  else if k = 3 then (t.size == 0) && isR true n
  else if k = 4 then (n == 0) && !(hasB 34 t && hasB 39 t)
  else if k = 5 then (t.size == 0) && ((n == 0) || (n == 1))
  else false
mutual
/-- may a node be that stands in so many calls? -/
def mayN : Nd → Nat → Bool
  | .mk k t n ks, d => if 64 ≤ d then false else if k = 1 then mayL ks (d + 1) && leafN k t n else ks.isEmpty && leafN k t n
def mayL : List Nd → Nat → Bool
  | [], _ => true
  | a :: l, d => mayN a d && mayL l d
end
/-- a string's sign -/
def signB (t : ByteArray) : UInt8 := if hasB 34 t then 39 else 34
mutual
/-- a node's text -/
def textN : Nd → List UInt8
  | .mk k t n ks =>
    if k = 1 then t.data.toList ++ (40 :: (textL true ks ++ [41]))
    else if k = 3 then (printV true n).data.toList
    else if k = 4 then signB t :: (t.data.toList ++ [signB t])
    else if k = 5 then (if n = 1 then trueB.data.toList else falseB.data.toList)
    else t.data.toList
def textL : Bool → List Nd → List UInt8
  | _, [] => []
  | first, a :: l => (if first then [] else [44]) ++ (textN a ++ textL false l)
end
/-- what a node prints as -/
def printN (a : Nd) : List UInt8 := if mayN a 0 then textN a else []
/-! what words are as a node -/
/-- what is read: something and the words behind it, or an error -/
inductive Rd (α : Type) where
  | ok (a : α) (rest : List Tok) : Rd α
  | err (e : Int) : Rd α
/-- a word that is no call -/
def wordS (t : ByteArray) : Option Nd := match parseO t with
  | some n => some (.mk 3 ⟨#[]⟩ n [])
  | Option.none => if t = trueB then some (.mk 5 ⟨#[]⟩ 1 []) else if t = falseB then some (.mk 5 ⟨#[]⟩ 0 []) else if pathB t then some (.mk 2 t 0 []) else Option.none
def headK (ts : List Tok) : Nat := match ts with | [] => 0 | t :: _ => t.1
/-- the kids, from one on; f bounds how many there are -/
def kidsS (expr : List Tok → Rd Nd) : Nat → List Tok → Rd (List Nd)
  | 0, _ => .err 8
  | f + 1, ts => match expr ts with
    | .err e => .err e
    | .ok a r => if headK r = 4 then .ok [a] r.tail else if headK r = 5 then (match kidsS expr f r.tail with | .err e => .err e | .ok l q => .ok (a :: l) q) else .err 8
/-- an expression; f is how many calls may yet stand within one another -/
def exprS : Nat → List Tok → Rd Nd
  | 0, _ => .err 12
  | f + 1, ts => match ts with
    | [] => .err 8
    | t :: r =>
      if t.1 = 2 then .ok (.mk 4 t.2 0 []) r
      else if t.1 = 1 then
        (if identB t.2 = true ∧ headK r = 3 then
          (if headK r.tail = 4 then .ok (.mk 1 t.2 0 []) r.tail.tail
           else match kidsS (exprS f) r.length r.tail with | .err e => .err e | .ok l q => .ok (.mk 1 t.2 0 l) q)
         else match wordS t.2 with | some a => .ok a r | Option.none => .err 8)
      else .err 8
/-- a text as a node, or an error -/
def parseN (s : ByteArray) : Rd Nd := match lexL s 0 with
  | Option.none => .err 8
  | some ts => match exprS 64 ts with
    | .err e => .err e
    | .ok a r => if r.isEmpty then .ok a [] else .err 8
end Go.Proofs.YtiakgjijlhfneaaGreatDoor
namespace Go.Proofs.YtiakgjijlhfneaaGreatDoor
/-! ### where a word ends -/
theorem wEnd_cons (c : UInt8) (r : List UInt8) (d k : Nat) : wEnd (c :: r) d k = if !isWordB c && (c != 44 || d == 0) then some (k, d) else if c == 123 then wEnd r (d + 1) (k + 1) else if c == 125 then (if d = 0 then none else wEnd r (d - 1) (k + 1)) else wEnd r d (k + 1) := by
  conv => lhs; unfold wEnd
theorem wEnd_app : ∀ (l rest : List UInt8) (d k d' : Nat), wEnd l d k = some (k + l.length, d') → wEnd (l ++ rest) d k = wEnd rest d' (k + l.length) := by
  intro l
  induction l with
  | nil =>
    intro rest d k d' h
    simp [wEnd] at h
    subst h
    rfl
  | cons c r ih =>
    intro rest d k d' h
    rw [List.length_cons] at h ⊢
    rw [List.cons_append]
    have e0 : k + (r.length + 1) = k + 1 + r.length := by omega
    rw [wEnd_cons] at h ⊢
    split at h
    · simp at h
    · rename_i hc
      rw [if_neg hc]
      split at h
      · rename_i h1
        rw [if_pos h1, ih rest (d + 1) (k + 1) d' (by rw [h, e0])]
        rw [e0]
      · rename_i h1
        rw [if_neg h1]
        split at h
        · rename_i h2
          rw [if_pos h2]
          split at h
          · cases h
          · rename_i h3
            rw [if_neg h3, ih rest (d - 1) (k + 1) d' (by rw [h, e0])]
            rw [e0]
        · rename_i h2
          rw [if_neg h2, ih rest d (k + 1) d' (by rw [h, e0])]
          rw [e0]
theorem wEnd_all : ∀ (l : List UInt8) (d k : Nat), (∀ c ∈ l, isWordB c = true ∧ c ≠ 123 ∧ c ≠ 125) → wEnd l d k = some (k + l.length, d) := by
  intro l
  induction l with
  | nil => intro d k _; rfl
  | cons c r ih =>
    intro d k h
    obtain ⟨h1, h2, h3⟩ := h c (by simp)
    rw [wEnd_go (Or.inl h1), if_neg (by simpa using h2), if_neg (by simpa using h3), ih d (k + 1) (fun x hx => h x (by simp [hx])), List.length_cons]
    congr 2; omega
theorem wEnd_shift : ∀ (l : List UInt8) (d k : Nat), wEnd l d k = (wEnd l d 0).map fun p => (p.1 + k, p.2) := by
  intro l
  induction l with
  | nil => intro d k; simp [wEnd]
  | cons c r ih =>
    intro d k
    have key : ∀ d', wEnd r d' (k + 1) = (wEnd r d' (0 + 1)).map fun p => (p.1 + k, p.2) := by
      intro d'
      rw [ih d' (k + 1), ih d' (0 + 1), Option.map_map]
      congr 1
      funext p
      simp only [Function.comp]
      congr 1; omega
    unfold wEnd
    split
    · simp
    · split
      · exact key _
      · split
        · split
          · rfl
          · exact key _
        · exact key _
/-- behind a word stands a sign, or nothing -/
def Sep (rest : List UInt8) : Prop := rest = [] ∨ ∃ c r, rest = c :: r ∧ (c = 40 ∨ c = 41 ∨ c = 44)
theorem wEnd_sep {rest : List UInt8} (h : Sep rest) (k : Nat) : wEnd rest 0 k = some (k, 0) := by
  rcases h with rfl | ⟨c, r, rfl, h⟩
  · rfl
  · rcases h with rfl | rfl | rfl
    · exact wEnd_stop (by decide) (Or.inr rfl)
    · exact wEnd_stop (by decide) (Or.inr rfl)
    · exact wEnd_stop (by decide) (Or.inr rfl)
/-- a text that is one word -/
def wordy (t : ByteArray) : Prop := wEnd t.data.toList 0 0 = some (t.size, 0) ∧ 0 < t.size
theorem size_list (t : ByteArray) : t.data.toList.length = t.size := by simp
theorem extract_eq {s t : ByteArray} {k : Nat} {rest : List UInt8} (hd : s.data.toList.drop k = t.data.toList ++ rest) : s.extract k (k + t.size) = t := by
  refine ByteArray.ext ?_
  rw [ByteArray.data_extract]
  apply Array.toList_inj.1
  rw [Array.toList_extract, List.extract_eq_take_drop, hd, show k + t.size - k = t.data.toList.length from by rw [size_list]; omega, List.take_left]
theorem drop_head {s : ByteArray} {k : Nat} {c : UInt8} {r : List UInt8} (hd : s.data.toList.drop k = c :: r) : ∃ h : k < s.size, s[k] = c ∧ s.data.toList.drop (k + 1) = r := by
  have hk : k < s.size := by
    rcases Nat.lt_or_ge k s.size with g | g
    · exact g
    · rw [drop_end s k (by omega)] at hd; cases hd
  rw [drop_cons s k hk] at hd
  exact ⟨hk, (List.cons.inj hd).1, (List.cons.inj hd).2⟩
theorem map_app {o : Option (List Tok)} (a b : List Tok) : (o.map (b ++ ·)).map (a ++ ·) = o.map ((a ++ b) ++ ·) := by
  rw [Option.map_map]; congr 1; funext x; simp
theorem lex_word {s t : ByteArray} {k : Nat} {rest : List UInt8} (hd : s.data.toList.drop k = t.data.toList ++ rest) (hw : wordy t) (hs : Sep rest) : lexL s k = (lexL s (k + t.size)).map ([(1, t)] ++ ·) := by
  obtain ⟨hw, h0⟩ := hw
  have hE : wEnd (s.data.toList.drop k) 0 k = some (k + t.size, 0) := by
    rw [hd, wEnd_app _ _ _ _ 0 (by rw [wEnd_shift, hw, size_list]; simp; omega), wEnd_sep hs, size_list]
  rcases ht : t.data.toList with _ | ⟨c, r⟩
  · have := size_list t
    rw [ht] at this; simp at this; omega
  rw [ht, List.cons_append] at hd
  have hc : isWordB c = true := by
    cases hb : isWordB c
    · rw [ht, wEnd_stop hb (Or.inr rfl)] at hw
      simp at hw; omega
    · rfl
  obtain ⟨hk, e, hr⟩ := drop_head hd
  have hx : s.extract k (k + t.size) = t := extract_eq (rest := rest) (by rw [hd, ht]; rfl)
  refine lexL_some hk ?_
  rw [e, lexStep_word (fun h => by subst h; exact absurd hc (by decide)) (fun h => by subst h; exact absurd hc (by decide)) (fun h => by subst h; exact absurd hc (by decide)) (fun h => by subst h; exact absurd hc (by decide)) (fun h => by subst h; exact absurd hc (by decide)) (fun h => by subst h; exact absurd hc (by decide)) (fun h => by subst h; exact absurd hc (by decide)), hE]
  simp only []
  rw [if_pos (by omega), hx]
theorem lex_sign {s : ByteArray} {k : Nat} {c : UInt8} {rest : List UInt8} (d : Nat) (hd : s.data.toList.drop k = c :: rest) (hc : (c = 40 ∧ d = 3) ∨ (c = 41 ∧ d = 4) ∨ (c = 44 ∧ d = 5)) : lexL s k = (lexL s (k + 1)).map ([(d, noText)] ++ ·) := by
  obtain ⟨hk, e, hr⟩ := drop_head hd
  refine lexL_some hk ?_
  rw [e]
  rcases hc with ⟨rfl, rfl⟩ | ⟨rfl, rfl⟩ | ⟨rfl, rfl⟩ <;> simp [lexStep]
theorem lex_str {s t : ByteArray} {k : Nat} {q : UInt8} {rest : List UInt8} (hd : s.data.toList.drop k = q :: (t.data.toList ++ q :: rest)) (hq : q = 34 ∨ q = 39) (hn : hasB q t = false) : lexL s k = (lexL s (k + t.size + 2)).map ([(2, t)] ++ ·) := by
  obtain ⟨hk, e, hr⟩ := drop_head hd
  have hmem : q ∉ t.data.toList := by
    unfold hasB at hn
    intro h
    rw [List.contains_iff_mem.2 h] at hn; cases hn
  have hI : Lib.indexByte (s.data.toList.drop (k + 1)) q = (t.size : Int) := by
    rw [hr, ← size_list t]
    refine indexByte_some (by simp) (by simp) (fun j hj => ?_)
    rw [List.getElem_append_left hj]
    exact fun h => hmem (h ▸ List.getElem_mem hj)
  have hx : s.extract (k + 1) (k + 1 + t.size) = t := extract_eq (rest := q :: rest) hr
  rw [show k + t.size + 2 = k + 1 + t.size + 1 from by omega]
  refine lexL_some hk ?_
  rw [e, lexStep_quote hq, hI, if_neg (by omega), Int.toNat_natCast, hx]
/-! ### a node's words -/
mutual
def tokN : Nd → List Tok
  | .mk k t n ks =>
    if k = 1 then (1, t) :: (3, noText) :: (tokL true ks ++ [(4, noText)])
    else if k = 3 then [(1, printV true n)]
    else if k = 4 then [(2, t)]
    else if k = 5 then [(1, if n = 1 then trueB else falseB)]
    else [(1, t)]
def tokL : Bool → List Nd → List Tok
  | _, [] => []
  | first, a :: l => (if first then [] else [(5, noText)]) ++ (tokN a ++ tokL false l)
end
mutual
/-- may a node be, however deep it is? -/
def wellN : Nd → Bool
  | .mk k t n ks => leafN k t n && (if k = 1 then wellL ks else ks.isEmpty)
def wellL : List Nd → Bool
  | [] => true
  | a :: l => wellN a && wellL l
end
theorem word_of_all {t : ByteArray} (h0 : 0 < t.size) (h : ∀ c ∈ t.data.toList, isWordB c = true ∧ c ≠ 123 ∧ c ≠ 125) : wordy t := by
  refine ⟨?_, h0⟩
  rw [wEnd_all _ 0 0 h, size_list]; simp
theorem ident_letters {t : ByteArray} (h : identB t = true) : isLetters t.data.toList = true := by
  unfold identB identAt at h
  rw [if_pos rfl, Bool.and_eq_true, Bool.or_eq_true, decide_eq_true_eq] at h
  rcases h.1 with g | g
  · exact g
  · rw [List.isEmpty_iff] at g
    have := size_list t
    rw [g] at this; simp at this; omega
theorem u8_range {p : UInt8 → Bool} (h : (List.range 256).all (fun n => p (UInt8.ofNat n)) = true) (c : UInt8) : p c = true := by
  have := List.all_eq_true.1 h c.toNat (by simp; exact c.toNat_lt)
  simpa using this
theorem letter_word (c : UInt8) (h : (isLetterB c || isDigitB c || c == 95) = true) : isWordB c = true ∧ c ≠ 123 ∧ c ≠ 125 := by
  have := u8_range (p := fun c => !(isLetterB c || isDigitB c || c == 95) || (isWordB c && (c != 123 && c != 125))) (by decide +kernel) c
  rw [h] at this
  simpa using this
theorem ident_wordy {t : ByteArray} (h : identB t = true) : wordy t := by
  have h0 : 0 < t.size := by
    unfold identB at h
    rw [Bool.and_eq_true, decide_eq_true_eq] at h; exact h.2
  refine word_of_all h0 ?_
  have hl := ident_letters h
  rcases ht : t.data.toList with _ | ⟨c, r⟩
  · rw [ht] at hl; cases hl
  · rw [ht] at hl
    simp only [isLetters, Bool.and_eq_true] at hl
    intro x hx
    rcases List.mem_cons.1 hx with rfl | hx
    · exact letter_word _ (by rw [hl.1]; rfl)
    · exact letter_word _ (List.all_eq_true.1 hl.2 x hx)
theorem path_wordy {t : ByteArray} (h : pathB t = true) : wordy t := by
  unfold pathB at h
  rw [Bool.and_eq_true] at h
  have h := h.1
  rcases hE : wEnd t.data.toList 0 0 with _ | ⟨k, d⟩
  · rw [hE] at h; cases h
  · rw [hE] at h
    simp only [Bool.and_eq_true, decide_eq_true_eq, beq_iff_eq] at h
    obtain ⟨⟨rfl, h0⟩, rfl⟩ := h
    exact ⟨hE, h0⟩
theorem digit_word (c : UInt8) (h : (isD c || (c == 45 || c == 46)) = true) : isWordB c = true ∧ c ≠ 123 ∧ c ≠ 125 := by
  have := u8_range (p := fun c => !(isD c || (c == 45 || c == 46)) || (isWordB c && (c != 123 && c != 125))) (by decide +kernel) c
  rw [h] at this
  simpa using this
theorem print_chars {n : Int} : ∀ c ∈ printL n, (isD c || (c == 45 || c == 46)) = true := by
  intro c hc
  unfold printL printA at hc
  rw [List.mem_append, List.mem_append] at hc
  rcases hc with hc | hc | hc
  · split at hc
    · simp at hc; subst hc; decide
    · cases hc
  · rw [List.all_eq_true.1 (decDigits_isD _) c hc]; rfl
  · split at hc
    · cases hc
    · rcases List.mem_cons.1 hc with rfl | hc
      · decide
      · rw [List.all_eq_true.1 (fracD_isD (by omega)) c hc]; rfl
theorem print_list {n : Int} (h : isR true n = true) : (printV true n).data.toList = printL n := by
  rw [printV_some (by rw [h]; rfl)]
theorem num_wordy {n : Int} (h : isR true n = true) : wordy (printV true n) := by
  refine word_of_all ?_ ?_
  · rw [← size_list, print_list h]
    unfold printL printA
    have := decDigits_pos (n.natAbs / 1000000)
    simp only [List.length_append]; omega
  · rw [print_list h]
    exact fun c hc => digit_word c (print_chars c hc)
theorem bool_wordy (n : Int) : wordy (if n = 1 then trueB else falseB) := by
  split
  · exact ⟨by decide +kernel, by decide⟩
  · exact ⟨by decide +kernel, by decide⟩
theorem sign_not {t : ByteArray} (h : (hasB 34 t && hasB 39 t) = false) : (signB t = 34 ∨ signB t = 39) ∧ hasB (signB t) t = false := by
  unfold signB
  cases h1 : hasB 34 t
  · exact ⟨Or.inl rfl, h1⟩
  · rw [h1, Bool.true_and] at h
    exact ⟨Or.inr rfl, h⟩
theorem sep_list (l : List Nd) {rest : List UInt8} (hs : Sep rest) : Sep (textL false l ++ rest) := by
  cases l with
  | nil => rw [textL]; exact hs
  | cons a l => rw [textL]; exact Or.inr ⟨44, _, rfl, Or.inr (Or.inr rfl)⟩
mutual
theorem lexN : ∀ (a : Nd) (_ : wellN a = true) (s : ByteArray) (k : Nat) (rest : List UInt8) (_ : s.data.toList.drop k = textN a ++ rest) (_ : Sep rest), lexL s k = (lexL s (k + (textN a).length)).map (tokN a ++ ·)
  | .mk kd t n ks, h, s, k, rest, hd, hs => by
    rw [wellN, Bool.and_eq_true] at h
    obtain ⟨h1, h2⟩ := h
    rw [textN] at hd ⊢
    rw [tokN]
    unfold leafN at h1
    by_cases k1 : kd = 1
    · rw [if_pos k1] at h1 h2 hd ⊢
      rw [if_pos k1]
      rw [Bool.and_eq_true] at h1
      have hw := ident_wordy h1.2
      have hd' : s.data.toList.drop k = t.data.toList ++ (40 :: (textL true ks ++ (41 :: rest))) := by rw [hd]; simp
      rw [lex_word hd' hw (Or.inr ⟨40, _, rfl, Or.inl rfl⟩)]
      have hd2 : s.data.toList.drop (k + t.size) = 40 :: (textL true ks ++ (41 :: rest)) := by
        rw [← List.drop_drop, hd', ← size_list t, List.drop_left]
      rw [lex_sign 3 hd2 (Or.inl ⟨rfl, rfl⟩)]
      have hd3 := (drop_head hd2).2.2
      rw [lexNL ks h2 true s (k + t.size + 1) (41 :: rest) hd3 (Or.inr ⟨41, _, rfl, Or.inr (Or.inl rfl)⟩)]
      have hd4 : s.data.toList.drop (k + t.size + 1 + (textL true ks).length) = 41 :: rest := by
        rw [← List.drop_drop, hd3, List.drop_left]
      rw [lex_sign 4 hd4 (Or.inr (Or.inl ⟨rfl, rfl⟩)), map_app, map_app, map_app]
      have e : k + t.size + 1 + (textL true ks).length + 1 = k + (t.data.toList ++ (40 :: (textL true ks ++ [41]))).length := by
        simp only [List.length_append, List.length_cons, List.length_nil, size_list]; omega
      rw [e]
      congr 1
      try (funext x; simp)
    · rw [if_neg k1] at h1 h2 hd ⊢
      rw [if_neg k1]
      by_cases k3 : kd = 3
      · subst k3
        rw [if_neg (by omega), if_pos rfl, Bool.and_eq_true] at h1
        rw [if_pos rfl] at hd ⊢
        rw [if_pos rfl, lex_word hd (num_wordy h1.2) hs, size_list]
      · rw [if_neg k3] at hd ⊢
        rw [if_neg k3]
        by_cases k4 : kd = 4
        · subst k4
          rw [if_neg (by omega), if_neg (by omega), if_pos rfl, Bool.and_eq_true, Bool.not_eq_true'] at h1
          rw [if_pos rfl] at hd ⊢
          rw [if_pos rfl]
          obtain ⟨q1, q2⟩ := sign_not h1.2
          have hd' : s.data.toList.drop k = signB t :: (t.data.toList ++ signB t :: rest) := by rw [hd]; simp
          rw [lex_str hd' q1 q2]
          congr 2
          simp only [List.length_append, List.length_cons, List.length_nil, size_list]; omega
        · rw [if_neg k4] at hd ⊢
          rw [if_neg k4]
          by_cases k5 : kd = 5
          · rw [if_pos k5] at hd ⊢
            rw [if_pos k5]
            have hw := bool_wordy n
            have e : (if n = 1 then trueB.data.toList else falseB.data.toList) = (if n = 1 then trueB else falseB).data.toList := by split <;> rfl
            rw [e] at hd ⊢
            rw [lex_word hd hw hs, size_list]
          · rw [if_neg k5] at hd ⊢
            rw [if_neg k5]
            by_cases k2 : kd = 2
            · subst k2
              rw [if_pos rfl, Bool.and_eq_true] at h1
              have hp : pathB t = true := by
                have := h1.2
                unfold isPathB at this
                rw [Bool.and_eq_true] at this
                exact this.1
              rw [lex_word hd (path_wordy hp) hs, size_list]
            · rw [if_neg k2, if_neg k3, if_neg k4, if_neg k5] at h1
              cases h1
theorem lexNL : ∀ (l : List Nd) (_ : wellL l = true) (first : Bool) (s : ByteArray) (k : Nat) (rest : List UInt8) (_ : s.data.toList.drop k = textL first l ++ rest) (_ : Sep rest), lexL s k = (lexL s (k + (textL first l).length)).map (tokL first l ++ ·)
  | [], _, first, s, k, rest, _, _ => by
    rw [textL, tokL]; simp
  | a :: l, h, first, s, k, rest, hd, hs => by
    rw [wellL, Bool.and_eq_true] at h
    have hsep := sep_list l hs
    rw [textL] at hd ⊢
    rw [tokL]
    cases first
    · rw [if_neg (by simp)] at hd ⊢
      rw [if_neg (by simp)]
      have hd' : s.data.toList.drop k = 44 :: (textN a ++ (textL false l ++ rest)) := by rw [hd]; simp
      rw [lex_sign 5 hd' (Or.inr (Or.inr ⟨rfl, rfl⟩))]
      have hd2 := (drop_head hd').2.2
      rw [lexN a h.1 s (k + 1) _ hd2 hsep]
      have hd3 : s.data.toList.drop (k + 1 + (textN a).length) = textL false l ++ rest := by
        rw [← List.drop_drop, hd2, List.drop_left]
      rw [lexNL l h.2 false s _ rest hd3 hs, map_app, map_app]
      have e : k + 1 + (textN a).length + (textL false l).length = k + ([44] ++ (textN a ++ textL false l)).length := by
        simp only [List.length_append, List.length_cons, List.length_nil]; omega
      rw [e]
      congr 1
      try (funext x; simp)
    · rw [if_pos rfl] at hd ⊢
      rw [if_pos rfl]
      have hd' : s.data.toList.drop k = textN a ++ (textL false l ++ rest) := by rw [hd]; simp
      rw [lexN a h.1 s k _ hd' hsep]
      have hd3 : s.data.toList.drop (k + (textN a).length) = textL false l ++ rest := by
        rw [← List.drop_drop, hd', List.drop_left]
      rw [lexNL l h.2 false s _ rest hd3 hs, map_app]
      have e : k + (textN a).length + (textL false l).length = k + ([] ++ (textN a ++ textL false l)).length := by
        simp only [List.length_append, List.length_nil]; omega
      rw [e]
      congr 1
end
/-- the words of a node's text -/
theorem lex_text {a : Nd} (h : wellN a = true) : lexL ⟨(textN a).toArray⟩ 0 = some (tokN a) := by
  rw [lexN a h ⟨(textN a).toArray⟩ 0 [] (by simp) (Or.inl rfl), lexL_end (by rw [Lib.size_mk]; omega)]
  simp
end Go.Proofs.YtiakgjijlhfneaaGreatDoor
namespace Go.Proofs.YtiakgjijlhfneaaGreatDoor
theorem size0 {t : ByteArray} (h : t.size = 0) : t = ⟨#[]⟩ := by
  have h2 : t.data = #[] := Array.eq_empty_of_size_eq_zero h
  cases t; simp at h2; rw [h2]
theorem parse_range {t : ByteArray} {n : Int} (h : parseO t = some n) : isR true n = true := by
  have key : ∀ m, readS (bareS t) = some m → m ≤ topN := by
    intro m hm
    unfold readS readR at hm
    split at hm
    · split at hm
      · cases hm; assumption
      · cases hm
    · cases hm
  unfold parseO at h
  rcases hm : readS (bareS t) with _ | m
  · rw [hm] at h; cases h
  · rw [hm] at h
    have := key m hm
    unfold topN at this
    have h := Option.some.inj h
    simp only [isR, if_true, Bool.and_eq_true, decide_eq_true_eq]
    have h : (if minusS t = true then -(m : Int) else (m : Int)) = n := h
    by_cases hm : minusS t
    · rw [if_pos hm] at h; omega
    · rw [if_neg hm] at h; omega
theorem parse_true : parseO trueB = none := by decide +kernel
theorem parse_false : parseO falseB = none := by decide +kernel
theorem word_num {n : Int} (h : isR true n = true) : wordS (printV true n) = some (.mk 3 ⟨#[]⟩ n []) := by
  unfold wordS; rw [parse_print h]
theorem word_bool {n : Int} (h : n = 0 ∨ n = 1) : wordS (if n = 1 then trueB else falseB) = some (.mk 5 ⟨#[]⟩ n []) := by
  rcases h with rfl | rfl
  · rw [if_neg (by omega)]
    unfold wordS; rw [parse_false]
    rw [if_neg (by decide), if_pos rfl]
  · rw [if_pos rfl]
    unfold wordS; rw [parse_true]
    rw [if_pos rfl]
theorem word_path {t : ByteArray} (h : isPathB t = true) : wordS t = some (.mk 2 t 0 []) := by
  unfold isPathB at h
  simp only [Bool.and_eq_true, Option.isNone_iff_eq_none, Bool.not_eq_true', decide_eq_false_iff_not] at h
  obtain ⟨h1, h2, h3, h4⟩ := h
  unfold wordS
  rw [h2]
  simp only []
  rw [if_neg h3, if_neg h4, if_pos h1]
theorem exprS_cons (f : Nat) (t : Tok) (r : List Tok) : exprS (f + 1) (t :: r) = if t.1 = 2 then .ok (.mk 4 t.2 0 []) r
      else if t.1 = 1 then
        (if identB t.2 = true ∧ headK r = 3 then
          (if headK r.tail = 4 then .ok (.mk 1 t.2 0 []) r.tail.tail
           else match kidsS (exprS f) r.length r.tail with | .err e => .err e | .ok l q => .ok (.mk 1 t.2 0 l) q)
         else match wordS t.2 with | some a => .ok a r | Option.none => .err 8)
      else .err 8 := rfl
theorem exprS_call {f : Nat} {t u : Tok} {q : List Tok} (h1 : t.1 = 1) (hid : identB t.2 = true) (h3 : u.1 = 3) : exprS (f + 1) (t :: u :: q) = if headK q = 4 then .ok (.mk 1 t.2 0 []) q.tail
           else match kidsS (exprS f) (q.length + 1) q with | .err e => .err e | .ok l q => .ok (.mk 1 t.2 0 l) q := by
  rw [exprS_cons, if_neg (by omega), if_pos h1, if_pos ⟨hid, h3⟩]; rfl
theorem exprS_word {f : Nat} {t : Tok} {q : List Tok} (h1 : t.1 = 1) (hid : ¬ (identB t.2 = true ∧ headK q = 3)) : exprS (f + 1) (t :: q) = match wordS t.2 with | some a => .ok a q | Option.none => .err 8 := by
  rw [exprS_cons, if_neg (by omega), if_pos h1, if_neg hid]
theorem kidsS_ok {expr : List Tok → Rd Nd} {g : Nat} {ts : List Tok} {a : Nd} {t : Tok} {q : List Tok} (he : expr ts = .ok a (t :: q)) : kidsS expr (g + 1) ts = if t.1 = 4 then .ok [a] q else if t.1 = 5 then (match kidsS expr g q with | .err e => .err e | .ok l q => .ok (a :: l) q) else .err 8 := by
  simp only [kidsS]; rw [he]; rfl
theorem kidsS_end {expr : List Tok → Rd Nd} {g : Nat} {ts : List Tok} {a : Nd} (he : expr ts = .ok a []) : kidsS expr (g + 1) ts = .err 8 := by
  simp only [kidsS]; rw [he]; rfl
theorem kidsS_err {expr : List Tok → Rd Nd} {g : Nat} {ts : List Tok} {e : Int} (he : expr ts = .err e) : kidsS expr (g + 1) ts = .err e := by
  simp only [kidsS]; rw [he]
theorem headK_cons (t : Tok) (r : List Tok) : headK (t :: r) = t.1 := rfl
theorem tokN_ne (a : Nd) : 1 ≤ (tokN a).length := by
  cases a with
  | mk k t n ks => rw [tokN]; split <;> (try split) <;> (try split) <;> (try split) <;> simp
theorem tokL_len : ∀ (l : List Nd) (first : Bool), l.length ≤ (tokL first l).length := by
  intro l
  induction l with
  | nil => intro first; simp
  | cons a l ih =>
    intro first
    have h1 := tokN_ne a
    have h2 := ih false
    rw [tokL]
    simp only [List.length_append, List.length_cons]; omega
theorem expr_leaf {f : Nat} {t : ByteArray} {a : Nd} {rest : List Tok} (hw : wordS t = some a) (hr : headK rest ≠ 3) : exprS (f + 1) ((1, t) :: rest) = .ok a rest := by
  rw [exprS_word rfl (fun h => hr h.2)]
  simp only [hw]
theorem head_list (l : List Nd) (rest : List Tok) : headK (tokL false l ++ (4, noText) :: rest) ≠ 3 := by
  cases l with
  | nil => rw [tokL]; simp [headK]
  | cons a l => rw [tokL]; simp [headK]
mutual
theorem parN : ∀ (a : Nd) (d f : Nat) (rest : List Tok) (_ : mayN a d = true) (_ : d + f = 64) (_ : headK rest ≠ 3), exprS f (tokN a ++ rest) = .ok a rest
  | .mk k t n ks, d, f, rest, h, hf, hr => by
    rw [mayN] at h
    by_cases hd : 64 ≤ d
    · rw [if_pos hd] at h; cases h
    rw [if_neg hd] at h
    obtain ⟨g, rfl⟩ : ∃ g, f = g + 1 := ⟨f - 1, by omega⟩
    rw [tokN]
    by_cases k1 : k = 1
    · rw [if_pos k1, Bool.and_eq_true] at h
      rw [if_pos k1]
      subst k1
      have hl := h.2
      unfold leafN at hl
      rw [if_pos rfl, Bool.and_eq_true, beq_iff_eq] at hl
      obtain ⟨rfl, hid⟩ := hl
      cases ks with
      | nil =>
        rw [tokL]
        show exprS (g + 1) ((1, t) :: (3, noText) :: ((4, noText) :: rest)) = _
        rw [exprS_call rfl hid rfl, if_pos (show headK ((4, noText) :: rest) = 4 from rfl)]
        rfl
      | cons a l =>
        have e : (1, t) :: (3, noText) :: (tokL true (a :: l) ++ [(4, noText)]) ++ rest = (1, t) :: (3, noText) :: (tokL true (a :: l) ++ (4, noText) :: rest) := by simp
        have hne : ¬ headK (tokL true (a :: l) ++ (4, noText) :: rest) = 4 := by
          rw [tokL]
          cases a with
          | mk k' t' n' ks' => rw [tokN]; simp only [if_true, List.nil_append]; split <;> (try split) <;> (try split) <;> (try split) <;> simp [headK]
        rw [e, exprS_call rfl hid rfl, if_neg hne, parL (a :: l) (d + 1) g rest _ h.1 (by omega) (by simp) (by have := tokL_len (a :: l) true; simp only [List.length_append, List.length_cons] at this ⊢; omega)]
    · rw [if_neg k1, Bool.and_eq_true, List.isEmpty_iff] at h
      rw [if_neg k1]
      obtain ⟨rfl, hl⟩ := h
      unfold leafN at hl
      rw [if_neg k1] at hl
      by_cases k2 : k = 2
      · subst k2
        rw [if_pos rfl, Bool.and_eq_true, beq_iff_eq] at hl
        obtain ⟨rfl, hp⟩ := hl
        rw [if_neg (by omega), if_neg (by omega), if_neg (by omega)]
        exact expr_leaf (word_path hp) hr
      rw [if_neg k2] at hl
      by_cases k3 : k = 3
      · subst k3
        rw [if_pos rfl, Bool.and_eq_true, beq_iff_eq] at hl
        obtain ⟨hz, hp⟩ := hl
        rw [if_pos rfl, size0 hz]
        exact expr_leaf (word_num hp) hr
      rw [if_neg k3] at hl ⊢
      by_cases k4 : k = 4
      · subst k4
        rw [if_pos rfl, Bool.and_eq_true, beq_iff_eq] at hl
        obtain ⟨rfl, hp⟩ := hl
        rw [if_pos rfl]
        show exprS (g + 1) ((2, t) :: rest) = _
        rw [exprS_cons, if_pos rfl]
      rw [if_neg k4] at hl ⊢
      by_cases k5 : k = 5
      · subst k5
        rw [if_pos rfl, Bool.and_eq_true, beq_iff_eq, Bool.or_eq_true, beq_iff_eq, beq_iff_eq] at hl
        obtain ⟨hz, hp⟩ := hl
        rw [if_pos rfl, size0 hz]
        exact expr_leaf (word_bool hp) hr
      · rw [if_neg k5] at hl; cases hl
theorem parL : ∀ (l : List Nd) (d f : Nat) (rest : List Tok) (g : Nat) (_ : mayL l d = true) (_ : d + f = 64) (_ : l ≠ []) (_ : l.length ≤ g), kidsS (exprS f) g (tokL true l ++ (4, noText) :: rest) = .ok l rest
  | [], _, _, _, _, _, _, h, _ => absurd rfl h
  | a :: l, d, f, rest, g, h, hf, _, hg => by
    rw [mayL, Bool.and_eq_true] at h
    obtain ⟨g, rfl⟩ : ∃ g', g = g' + 1 := ⟨g - 1, by simp only [List.length_cons] at hg; omega⟩
    have e : tokL true (a :: l) ++ (4, noText) :: rest = tokN a ++ (tokL false l ++ (4, noText) :: rest) := by rw [tokL]; simp
    rw [e]
    have hp := parN a d f _ h.1 hf (head_list l rest)
    cases hl : l with
    | nil =>
      rw [hl, tokL] at hp
      rw [tokL]
      rw [kidsS_ok (t := (4, noText)) (q := rest) hp, if_pos rfl]
    | cons b m =>
      have e2 : tokL false (b :: m) ++ (4, noText) :: rest = (5, noText) :: (tokL true (b :: m) ++ (4, noText) :: rest) := by rw [tokL, tokL]; simp
      rw [hl, e2] at hp
      rw [e2, kidsS_ok hp, if_neg (by decide), if_pos rfl, ← hl, parL l d f rest g h.2 hf (by rw [hl]; simp) (by simp only [List.length_cons] at hg; omega)]
end
mutual
theorem well_of_may : ∀ (a : Nd) (d : Nat), mayN a d = true → wellN a = true
  | .mk k t n ks, d, h => by
    rw [mayN] at h
    split at h
    · cases h
    rw [wellN]
    split at h
    · rename_i k1
      rw [Bool.and_eq_true] at h
      rw [if_pos k1, h.2, well_list ks (d + 1) h.1]; rfl
    · rename_i k1
      rw [Bool.and_eq_true] at h
      rw [if_neg k1, h.2, h.1]; rfl
theorem well_list : ∀ (l : List Nd) (d : Nat), mayL l d = true → wellL l = true
  | [], _, _ => by rw [wellL]
  | a :: l, d, h => by
    rw [mayL, Bool.and_eq_true] at h
    rw [wellL, well_of_may a d h.1, well_list l d h.2]; rfl
end
/-- there and back -/
theorem parse_text {a : Nd} (h : mayN a 0 = true) : parseN ⟨(textN a).toArray⟩ = .ok a [] := by
  unfold parseN
  rw [lex_text (well_of_may a 0 h)]
  have := parN a 0 64 [] h rfl (by simp [headK])
  rw [List.append_nil] at this
  simp only []
  rw [this]
  rfl
/-! ### what is read may be -/
def TokGood (t : Tok) : Prop := t.1 = 2 → (hasB 34 t.2 && hasB 39 t.2) = false
def tsz (c : List Tok) : Nat := (c.map fun t => t.2.size).sum
theorem tsz_app (a b : List Tok) : tsz (a ++ b) = tsz a + tsz b := by unfold tsz; simp
theorem tsz_cons (t : Tok) (b : List Tok) : tsz (t :: b) = t.2.size + tsz b := by unfold tsz; simp
theorem not_before (c : UInt8) : ∀ l : List UInt8, c ∉ l.take (Lib.indexByte l c).toNat := by
  intro l
  induction l with
  | nil => simp
  | cons b l ih =>
    rw [Lib.indexByte]
    by_cases hb : (b == c) = true
    · rw [if_pos hb]; simp
    · rw [if_neg hb]
      by_cases h1 : (Lib.indexByte l c == -1) = true
      · rw [if_pos h1]; simp
      · rw [if_neg h1]
        have h0 : 0 ≤ Lib.indexByte l c := by
          have := Lib.indexByte_ge l c
          simp at h1; omega
        rw [show (Lib.indexByte l c + 1).toNat = (Lib.indexByte l c).toNat + 1 from by omega, List.take_succ_cons, List.mem_cons, not_or]
        exact ⟨fun e => hb (by rw [e]; simp), ih⟩
theorem step_good {s : ByteArray} {k k' : Nat} {c : UInt8} {us : List Tok} (h : lexStep s k c = some (k', us)) (hk : k < s.size) : (∀ t ∈ us, TokGood t) ∧ tsz us ≤ k' - k := by
  have hl : (s.data.toList.drop (k + 1)).length = s.size - (k + 1) := by simp
  unfold lexStep at h
  repeat' split at h
  all_goals simp only [Option.some.injEq, Prod.mk.injEq, reduceCtorEq] at h
  iterate 4
    rotate_left 0
    obtain ⟨rfl, rfl⟩ := h
    refine ⟨fun t ht => ?_, ?_⟩
    · first | (cases ht; done) | (rw [List.mem_singleton] at ht; subst ht; intro e; cases e)
    · have hz : noText.size = 0 := rfl
      simp [tsz, hz]
    rotate_left 0
  · rename_i hq hneg
    obtain ⟨rfl, rfl⟩ := h
    have hlt := indexByte_lt c (s.data.toList.drop (k + 1))
    rw [hl] at hlt
    have hx : (s.extract (k + 1) (k + 1 + (Lib.indexByte (s.data.toList.drop (k + 1)) c).toNat)).data.toList = (s.data.toList.drop (k + 1)).take (Lib.indexByte (s.data.toList.drop (k + 1)) c).toNat := by
      rw [ByteArray.data_extract, Array.toList_extract, List.extract_eq_take_drop, Nat.add_sub_cancel_left]
    refine ⟨fun t ht => ?_, ?_⟩
    · simp at ht
      subst ht
      intro _
      have hn : hasB c (s.extract (k + 1) (k + 1 + (Lib.indexByte (s.data.toList.drop (k + 1)) c).toNat)) = false := by
        unfold hasB
        rw [hx]
        cases hb : ((s.data.toList.drop (k + 1)).take (Lib.indexByte (s.data.toList.drop (k + 1)) c).toNat).contains c
        · rfl
        · exact absurd (List.contains_iff_mem.1 hb) (not_before c _)
      rcases hq with rfl | rfl
      · rw [hn, Bool.false_and]
      · rw [hn, Bool.and_false]
    · rw [tsz_cons]
      have : (s.extract (k + 1) (k + 1 + (Lib.indexByte (s.data.toList.drop (k + 1)) c).toNat)).size ≤ (Lib.indexByte (s.data.toList.drop (k + 1)) c).toNat := by
        rw [ByteArray.size_extract]; omega
      simp only [tsz, List.map_nil, List.sum_nil]
      omega
  · rename_i e he hlt
    obtain ⟨rfl, rfl⟩ := h
    refine ⟨fun t ht => by simp at ht; subst ht; intro e; simp at e, ?_⟩
    rw [tsz_cons]
    have : (s.extract k e).size ≤ e - k := by rw [ByteArray.size_extract]; omega
    simp only [tsz, List.map_nil, List.sum_nil]
    omega
theorem all_good : ∀ (f : Nat) (s : ByteArray) (k : Nat) (ts : List Tok), lexAll f s k = some ts → (∀ t ∈ ts, TokGood t) ∧ tsz ts ≤ s.size - k := by
  intro f
  induction f with
  | zero =>
    intro s k ts h
    simp [lexAll] at h
    subst h
    exact ⟨fun t ht => (by cases ht), by simp [tsz]⟩
  | succ f ih =>
    intro s k ts h
    simp only [lexAll] at h
    split at h
    · rename_i hk
      rcases hst : lexStep s k s[k] with _ | ⟨k', us⟩
      · rw [hst] at h; cases h
      · rw [hst] at h
        simp only [] at h
        rcases hr : lexAll f s k' with _ | rs
        · rw [hr] at h; cases h
        · rw [hr] at h
          obtain rfl := Option.some.inj h
          have h1 := step_good hst hk
          have h2 := ih s k' rs hr
          have h3 := lexStep_gt hst hk
          refine ⟨fun t ht => ?_, by rw [tsz_app]; omega⟩
          rcases List.mem_append.1 ht with ht | ht
          · exact h1.1 t ht
          · exact h2.1 t ht
    · obtain rfl := Option.some.inj h
      exact ⟨fun t ht => (by cases ht), by simp [tsz]⟩
theorem lex_good {s : ByteArray} {ts : List Tok} (h : lexL s 0 = some ts) : (∀ t ∈ ts, TokGood t) ∧ tsz ts ≤ s.size := by
  have := all_good _ _ _ _ h
  exact ⟨this.1, by have := this.2; omega⟩
theorem tok_le {ts : List Tok} {t : Tok} (h : t ∈ ts) : t.2.size ≤ tsz ts := by
  induction ts with
  | nil => cases h
  | cons u ts ih =>
    rw [tsz_cons]
    rcases List.mem_cons.1 h with rfl | h
    · omega
    · have := ih h; omega
theorem print_len {n : Int} (h : isR true n = true) : (printV true n).data.toList.length ≤ 21 := by
  rw [print_list h]
  have hb : -4611686018427387904 ≤ n ∧ n ≤ 4611686018427387904 := by simpa [isR] using h
  have h1 := decDigits_len (u := n.natAbs / 1000000) (k := 12) (by omega)
  have h2 := fracD_len (f := n.natAbs % 1000000) (by omega)
  unfold printL printA
  simp only [List.length_append]
  split <;> split <;> simp only [List.length_cons, List.length_nil] <;> omega
/-- what is read from words: it may be, it is the words' head, its text is not long -/
def Fine (d : Nat) (ts : List Tok) (a : Nd) (r : List Tok) : Prop := mayN a d = true ∧ ∃ c, ts = c ++ r ∧ (textN a).length + 1 ≤ 11 * (c.length + 1) + tsz c
def FineL (d : Nat) (ts : List Tok) (l : List Nd) (r : List Tok) : Prop := mayL l d = true ∧ l ≠ [] ∧ ∃ c, ts = c ++ r ∧ (textL true l).length + 1 ≤ 11 * c.length + tsz c
theorem textL_false {l : List Nd} (h : l ≠ []) : (textL false l).length = (textL true l).length + 1 := by
  cases l with
  | nil => exact absurd rfl h
  | cons a l => rw [textL, textL]; simp
theorem kids_fine {expr : List Tok → Rd Nd} {d : Nat} (hE : ∀ ts a r, (∀ t ∈ ts, TokGood t) → expr ts = .ok a r → Fine d ts a r) :
    ∀ (g : Nat) (ts : List Tok) (l : List Nd) (r : List Tok), (∀ t ∈ ts, TokGood t) → kidsS expr g ts = .ok l r → FineL d ts l r := by
  intro g
  induction g with
  | zero => intro ts l r _ h; cases h
  | succ g ih =>
    intro ts l r hg h
    rcases he : expr ts with ⟨a, q⟩ | e
    · obtain ⟨h1, c, rfl, hc⟩ := hE ts a q hg he
      cases q with
      | nil => rw [kidsS_end he] at h; cases h
      | cons t q =>
        rw [kidsS_ok he] at h
        by_cases h4 : t.1 = 4
        · rw [if_pos h4] at h
          cases h
          refine ⟨by rw [mayL, mayL, h1]; rfl, by simp, c ++ [t], (by simp), ?_⟩
          rw [textL, textL]
          simp only [if_true, List.nil_append, List.append_nil, List.length_append, List.length_cons, List.length_nil, tsz_app, tsz_cons]
          omega
        · rw [if_neg h4] at h
          by_cases h5 : t.1 = 5
          · rw [if_pos h5] at h
            rcases hk : kidsS expr g q with ⟨l', q'⟩ | e
            · rw [hk] at h
              cases h
              obtain ⟨m1, m2, c', rfl, hc'⟩ := ih q l' _ (fun x hx => hg x (by simp [hx])) hk
              refine ⟨by rw [mayL, h1, m1]; rfl, by simp, c ++ t :: c', by simp, ?_⟩
              rw [textL]
              have := textL_false m2
              simp only [if_true, List.nil_append, List.length_append, List.length_cons, tsz_app, tsz_cons]
              omega
            · rw [hk] at h; cases h
          · rw [if_neg h5] at h; cases h
    · rw [kidsS_err he] at h; cases h
theorem word_fine {t : ByteArray} {a : Nd} {d : Nat} (hd : d < 64) (h : wordS t = some a) : mayN a d = true ∧ (textN a).length + 1 ≤ 22 + t.size := by
  unfold wordS at h
  rcases hp : parseO t with _ | n
  · rw [hp] at h
    simp only [] at h
    split at h
    · obtain rfl := Option.some.inj h
      exact ⟨by rw [mayN, if_neg (by omega), if_neg (by omega)]; rfl, by rw [textN]; simp [trueB]; omega⟩
    · rename_i n1
      split at h
      · obtain rfl := Option.some.inj h
        exact ⟨by rw [mayN, if_neg (by omega), if_neg (by omega)]; rfl, by rw [textN]; simp [falseB]; omega⟩
      · rename_i n2
        split at h
        · rename_i n3
          obtain rfl := Option.some.inj h
          refine ⟨?_, by rw [textN]; simp; omega⟩
          rw [mayN, if_neg (by omega), if_neg (by omega)]
          unfold leafN isPathB
          rw [if_neg (by omega), if_pos rfl, n3, hp]
          rw [decide_eq_false n1, decide_eq_false n2]; rfl
        · cases h
  · rw [hp] at h
    obtain rfl := Option.some.inj h
    have hr := parse_range hp
    refine ⟨?_, ?_⟩
    · rw [mayN, if_neg (by omega), if_neg (by omega)]
      unfold leafN
      rw [if_neg (by omega), if_neg (by omega), if_pos rfl, hr]; rfl
    · have := print_len hr
      rw [textN, if_neg (by omega), if_pos rfl]
      omega
theorem expr_fine : ∀ (f : Nat) (ts : List Tok) (a : Nd) (r : List Tok), f ≤ 64 → (∀ t ∈ ts, TokGood t) → exprS f ts = .ok a r → Fine (64 - f) ts a r := by
  intro f
  induction f with
  | zero => intro ts a r _ _ h; cases h
  | succ f ih =>
    intro ts a r hf hg h
    cases ts with
    | nil => cases h
    | cons t q =>
      by_cases h2 : t.1 = 2
      · rw [exprS_cons, if_pos h2] at h
        cases h
        have hgood := hg t (by simp) h2
        refine ⟨?_, [t], rfl, ?_⟩
        · rw [mayN, if_neg (by omega), if_neg (by omega)]
          unfold leafN
          rw [if_neg (by omega), if_neg (by omega), if_neg (by omega), if_pos rfl, hgood]; rfl
        · rw [textN, if_neg (by omega), if_neg (by omega), if_pos rfl, tsz_cons]
          simp only [List.length_append, List.length_cons, List.length_nil, size_list]
          omega
      · by_cases h1 : t.1 = 1
        · by_cases hid : identB t.2 = true ∧ headK q = 3
          · obtain ⟨u, q, rfl⟩ : ∃ u q', q = u :: q' := by
              cases q with
              | nil => have := hid.2; simp [headK] at this
              | cons u q' => exact ⟨u, q', rfl⟩
            rw [exprS_call h1 hid.1 hid.2] at h
            by_cases h4 : headK q = 4
            · rw [if_pos h4] at h
              obtain ⟨v, q, rfl⟩ : ∃ v q', q = v :: q' := by
                cases q with
                | nil => simp [headK] at h4
                | cons u q' => exact ⟨u, q', rfl⟩
              cases h
              refine ⟨?_, [t, u, v], rfl, ?_⟩
              · rw [mayN, if_neg (by omega), if_pos rfl, mayL]
                unfold leafN
                rw [if_pos rfl, hid.1]; rfl
              · rw [textN, if_pos rfl, textL]
                simp only [List.length_append, List.length_cons, List.length_nil, size_list, tsz_cons]
                omega
            · rw [if_neg h4] at h
              rcases hk : kidsS (exprS f) (q.length + 1) q with ⟨l, q'⟩ | e
              · rw [hk] at h
                cases h
                obtain ⟨m1, m2, c, rfl, hc⟩ := kids_fine (d := 64 - f) (fun ts a r hg he => ih ts a r (by omega) hg he) _ q l _ (fun x hx => hg x (by simp [hx])) hk
                refine ⟨?_, t :: u :: c, rfl, ?_⟩
                · rw [mayN, if_neg (by omega), if_pos rfl, show 64 - (f + 1) + 1 = 64 - f from by omega, m1]
                  unfold leafN
                  rw [if_pos rfl, hid.1]; rfl
                · rw [textN, if_pos rfl]
                  simp only [List.length_append, List.length_cons, List.length_nil, size_list, tsz_cons]
                  omega
              · rw [hk] at h; cases h
          · rw [exprS_word h1 hid] at h
            rcases hw : wordS t.2 with _ | b
            · rw [hw] at h; cases h
            · rw [hw] at h
              cases h
              obtain ⟨m1, m2⟩ := word_fine (d := 64 - (f + 1)) (by omega) hw
              exact ⟨m1, [t], rfl, by rw [tsz_cons]; simp only [List.length_cons, List.length_nil, tsz, List.map_nil, List.sum_nil]; omega⟩
        · rw [exprS_cons, if_neg h2, if_neg h1] at h; cases h
/-- what a text is read as: it may be, and its text is not long -/
theorem parse_fine {s : ByteArray} {a : Nd} {r : List Tok} (hs : s.size ≤ 300) (h : parseN s = .ok a r) : mayN a 0 = true ∧ (textN a).length ≤ 3700 := by
  unfold parseN at h
  rcases hl : lexL s 0 with _ | ts
  · rw [hl] at h; cases h
  · rw [hl] at h
    simp only [] at h
    obtain ⟨hg, hz⟩ := lex_good hl
    have hn := lexL_len hl
    rcases he : exprS 64 ts with ⟨b, q⟩ | e
    · rw [he] at h
      simp only [] at h
      split at h
      · cases h
        obtain ⟨h1, c, rfl, hc⟩ := expr_fine 64 ts a q (Nat.le_refl _) hg he
        rw [tsz_app] at hz
        rw [List.length_append] at hn
        exact ⟨h1, by omega⟩
      · cases h
    · rw [he] at h; cases h
end Go.Proofs.YtiakgjijlhfneaaGreatDoor
namespace Go.Proofs.YtiakgjijlhfneaaGreatDoor
/-- how many signs a word has at least -/
def wid (t : Tok) : Nat := if t.1 = 1 then max 1 t.2.size else if t.1 = 2 then t.2.size + 2 else 1
def wsz (c : List Tok) : Nat := (c.map wid).sum
theorem wsz_app (a b : List Tok) : wsz (a ++ b) = wsz a + wsz b := by unfold wsz; simp
theorem wsz_cons (t : Tok) (b : List Tok) : wsz (t :: b) = wid t + wsz b := by unfold wsz; simp
theorem wid_pos (t : Tok) : 1 ≤ wid t := by unfold wid; split <;> (try split) <;> omega
theorem step_wide {s : ByteArray} {k k' : Nat} {c : UInt8} {us : List Tok} (h : lexStep s k c = some (k', us)) (hk : k < s.size) : wsz us ≤ k' - k := by
  have hl : (s.data.toList.drop (k + 1)).length = s.size - (k + 1) := by simp
  unfold lexStep at h
  repeat' split at h
  all_goals simp only [Option.some.injEq, Prod.mk.injEq, reduceCtorEq] at h
  all_goals (try (first | (obtain ⟨rfl, rfl⟩ := h; simp [wsz, wid]; done)))
  · rename_i hq hneg
    obtain ⟨rfl, rfl⟩ := h
    rw [wsz_cons]
    have : (s.extract (k + 1) (k + 1 + (Lib.indexByte (s.data.toList.drop (k + 1)) c).toNat)).size ≤ (Lib.indexByte (s.data.toList.drop (k + 1)) c).toNat := by
      rw [ByteArray.size_extract]; omega
    have e1 : wid (2, s.extract (k + 1) (k + 1 + (Lib.indexByte (s.data.toList.drop (k + 1)) c).toNat)) = (s.extract (k + 1) (k + 1 + (Lib.indexByte (s.data.toList.drop (k + 1)) c).toNat)).size + 2 := rfl
    have e2 : wsz [] = 0 := rfl
    omega
  · rename_i e he hlt
    obtain ⟨rfl, rfl⟩ := h
    rw [wsz_cons]
    have : (s.extract k e).size ≤ e - k := by rw [ByteArray.size_extract]; omega
    have e1 : wid (1, s.extract k e) = max 1 (s.extract k e).size := rfl
    have e2 : wsz [] = 0 := rfl
    omega
theorem all_wide : ∀ (f : Nat) (s : ByteArray) (k : Nat) (ts : List Tok), lexAll f s k = some ts → wsz ts ≤ s.size - k := by
  intro f
  induction f with
  | zero =>
    intro s k ts h
    simp [lexAll] at h
    subst h
    simp [wsz]
  | succ f ih =>
    intro s k ts h
    simp only [lexAll] at h
    split at h
    · rename_i hk
      rcases hst : lexStep s k s[k] with _ | ⟨k', us⟩
      · rw [hst] at h; cases h
      · rw [hst] at h
        simp only [] at h
        rcases hr : lexAll f s k' with _ | rs
        · rw [hr] at h; cases h
        · rw [hr] at h
          obtain rfl := Option.some.inj h
          have h1 := step_wide hst hk
          have h2 := ih s k' rs hr
          have h3 := lexStep_gt hst hk
          rw [wsz_app]; omega
    · obtain rfl := Option.some.inj h
      simp [wsz]
theorem lex_wide {s : ByteArray} {ts : List Tok} (h : lexL s 0 = some ts) : wsz ts ≤ s.size := by
  have := all_wide _ _ _ _ h
  omega
def Mass (ts : List Tok) (a : Nd) (r : List Tok) : Prop := ∃ c, ts = c ++ r ∧ 1 ≤ c.length ∧ massN a ≤ 3 * wsz c + 3
def MassL (ts : List Tok) (l : List Nd) (r : List Tok) : Prop := ∃ c, ts = c ++ r ∧ massL l ≤ 3 * wsz c
theorem kids_mass {expr : List Tok → Rd Nd} (hE : ∀ ts a r, expr ts = .ok a r → Mass ts a r) : ∀ (g : Nat) (ts : List Tok) (l : List Nd) (r : List Tok), kidsS expr g ts = .ok l r → MassL ts l r := by
  intro g
  induction g with
  | zero => intro ts l r h; cases h
  | succ g ih =>
    intro ts l r h
    rcases he : expr ts with ⟨a, q⟩ | e
    · obtain ⟨c, rfl, hn, hc⟩ := hE ts a q he
      cases q with
      | nil => rw [kidsS_end he] at h; cases h
      | cons t q =>
        have hw := wid_pos t
        rw [kidsS_ok he] at h
        by_cases h4 : t.1 = 4
        · rw [if_pos h4] at h
          cases h
          refine ⟨c ++ [t], by simp, ?_⟩
          rw [massL, massL, wsz_app, wsz_cons]
          omega
        · rw [if_neg h4] at h
          by_cases h5 : t.1 = 5
          · rw [if_pos h5] at h
            rcases hk : kidsS expr g q with ⟨l', q'⟩ | e
            · rw [hk] at h
              cases h
              obtain ⟨c', rfl, hc'⟩ := ih q l' _ hk
              refine ⟨c ++ t :: c', by simp, ?_⟩
              rw [massL, wsz_app, wsz_cons]
              omega
            · rw [hk] at h; cases h
          · rw [if_neg h5] at h; cases h
    · rw [kidsS_err he] at h; cases h
theorem word_mass {t : ByteArray} {a : Nd} (h : wordS t = some a) : massN a ≤ 5 + t.size := by
  unfold wordS at h
  have hz : ByteArray.size ⟨#[]⟩ = 0 := rfl
  rcases hp : parseO t with _ | n
  · rw [hp] at h
    simp only [] at h
    split at h
    · obtain rfl := Option.some.inj h
      rw [massN, massL, hz]; omega
    · split at h
      · obtain rfl := Option.some.inj h
        rw [massN, massL, hz]; omega
      · split at h
        · obtain rfl := Option.some.inj h
          rw [massN, massL]; omega
        · cases h
  · rw [hp] at h
    obtain rfl := Option.some.inj h
    rw [massN, massL, hz]; omega
theorem expr_mass : ∀ (f : Nat) (ts : List Tok) (a : Nd) (r : List Tok), exprS f ts = .ok a r → Mass ts a r := by
  intro f
  induction f with
  | zero => intro ts a r h; cases h
  | succ f ih =>
    intro ts a r h
    cases ts with
    | nil => cases h
    | cons t q =>
      by_cases h2 : t.1 = 2
      · rw [exprS_cons, if_pos h2] at h
        cases h
        refine ⟨[t], rfl, by simp, ?_⟩
        rw [massN, massL, wsz_cons]
        unfold wid
        rw [if_neg (by omega), if_pos h2]
        omega
      · by_cases h1 : t.1 = 1
        · have hw : wid t = max 1 t.2.size := by unfold wid; rw [if_pos h1]
          by_cases hid : identB t.2 = true ∧ headK q = 3
          · obtain ⟨u, q, rfl⟩ : ∃ u q', q = u :: q' := by
              cases q with
              | nil => have := hid.2; simp [headK] at this
              | cons u q' => exact ⟨u, q', rfl⟩
            have hu := wid_pos u
            rw [exprS_call h1 hid.1 hid.2] at h
            by_cases h4 : headK q = 4
            · rw [if_pos h4] at h
              obtain ⟨v, q, rfl⟩ : ∃ v q', q = v :: q' := by
                cases q with
                | nil => simp [headK] at h4
                | cons u q' => exact ⟨u, q', rfl⟩
              cases h
              refine ⟨[t, u, v], rfl, by simp, ?_⟩
              rw [massN, massL, wsz_cons, wsz_cons, hw]
              omega
            · rw [if_neg h4] at h
              rcases hk : kidsS (exprS f) (q.length + 1) q with ⟨l, q'⟩ | e
              · rw [hk] at h
                cases h
                obtain ⟨c, rfl, hc⟩ := kids_mass ih _ q l _ hk
                refine ⟨t :: u :: c, rfl, by simp, ?_⟩
                rw [massN, wsz_cons, wsz_cons, hw]
                omega
              · rw [hk] at h; cases h
          · rw [exprS_word h1 hid] at h
            rcases hwd : wordS t.2 with _ | b
            · rw [hwd] at h; cases h
            · rw [hwd] at h
              cases h
              have := word_mass hwd
              refine ⟨[t], rfl, by simp, ?_⟩
              rw [wsz_cons, hw]
              omega
        · rw [exprS_cons, if_neg h2, if_neg h1] at h; cases h
/-- what is read of a text weighs so much -/
theorem parse_mass {s : ByteArray} {a : Nd} {r : List Tok} (hs : s.size ≤ 300) (h : parseN s = .ok a r) : massN a ≤ 903 := by
  unfold parseN at h
  rcases hl : lexL s 0 with _ | ts
  · rw [hl] at h; cases h
  · rw [hl] at h
    simp only [] at h
    have hw := lex_wide hl
    rcases he : exprS 64 ts with ⟨b, q⟩ | e
    · rw [he] at h
      simp only [] at h
      split at h
      · cases h
        obtain ⟨c, rfl, hn, hc⟩ := expr_mass 64 ts a q he
        rw [wsz_app] at hw
        omega
      · cases h
    · rw [he] at h; cases h
mutual
theorem tokN_size : ∀ a : Nd, wellN a = true → ∀ t ∈ tokN a, t.2.size ≤ massN a + 21
  | .mk k t n ks, h, u, hu => by
    rw [wellN, Bool.and_eq_true] at h
    obtain ⟨h1, h2⟩ := h
    rw [tokN] at hu
    rw [massN]
    by_cases k1 : k = 1
    · rw [if_pos k1] at h2 hu
      simp only [List.mem_cons, List.mem_append, List.mem_nil_iff, or_false] at hu
      rcases hu with rfl | rfl | hu | rfl
      · simp only []; omega
      · show ByteArray.size ⟨#[]⟩ ≤ _; have hz : ByteArray.size ⟨#[]⟩ = 0 := rfl; omega
      · have := tokL_size ks h2 true u hu; omega
      · show ByteArray.size ⟨#[]⟩ ≤ _; have hz : ByteArray.size ⟨#[]⟩ = 0 := rfl; omega
    · rw [if_neg k1] at hu
      by_cases k3 : k = 3
      · subst k3
        unfold leafN at h1
        rw [if_neg (by omega), if_neg (by omega), if_pos rfl, Bool.and_eq_true] at h1
        have := print_len h1.2
        rw [if_pos rfl, List.mem_singleton] at hu
        subst hu
        simp only [size_list] at this ⊢
        omega
      · rw [if_neg k3] at hu
        by_cases k4 : k = 4
        · rw [if_pos k4, List.mem_singleton] at hu
          subst hu
          simp only []; omega
        · rw [if_neg k4] at hu
          by_cases k5 : k = 5
          · rw [if_pos k5, List.mem_singleton] at hu
            subst hu
            have e1 : trueB.size = 4 := rfl
            have e2 : falseB.size = 5 := rfl
            simp only []
            split <;> omega
          · rw [if_neg k5, List.mem_singleton] at hu
            subst hu
            simp only []; omega
theorem tokL_size : ∀ l : List Nd, wellL l = true → ∀ first : Bool, ∀ t ∈ tokL first l, t.2.size ≤ massL l + 21
  | [], _, _, u, hu => by rw [tokL] at hu; cases hu
  | a :: l, h, first, u, hu => by
    rw [wellL, Bool.and_eq_true] at h
    rw [tokL, List.mem_append, List.mem_append] at hu
    rw [massL]
    rcases hu with hu | hu | hu
    · cases first
      · simp at hu; subst hu; show ByteArray.size ⟨#[]⟩ ≤ _; have hz : ByteArray.size ⟨#[]⟩ = 0 := rfl; omega
      · cases hu
    · have := tokN_size a h.1 u hu; omega
    · have := tokL_size l h.2 false u hu; omega
end
/-- words as a node -/
def parsR (ts : List Tok) : Rd Nd := match exprS 64 ts with
  | .err e => .err e
  | .ok a r => if r.isEmpty then .ok a [] else .err 8
theorem parseN_some {s : ByteArray} {ts : List Tok} (h : lexL s 0 = some ts) : parseN s = parsR ts := by unfold parseN; rw [h]; rfl
theorem parsR_err {ts : List Tok} {x : Int} (h : exprS 64 ts = .err x) : parsR ts = .err x := by unfold parsR; rw [h]
theorem parsR_end {ts : List Tok} {a : Nd} (h : exprS 64 ts = .ok a []) : parsR ts = .ok a [] := by unfold parsR; rw [h]; rfl
theorem parsR_more {ts : List Tok} {a : Nd} {t : Tok} {r : List Tok} (h : exprS 64 ts = .ok a (t :: r)) : parsR ts = .err 8 := by unfold parsR; rw [h]; rfl
/-! how far an expression reaches -/
theorem drop_suffix {TL c r : List Tok} {i : Nat} (hi : i ≤ TL.length) (h : TL.drop i = c ++ r) : r = TL.drop (i + c.length) ∧ i + c.length ≤ TL.length := by
  have hl := congrArg List.length h
  rw [List.length_drop, List.length_append] at hl
  refine ⟨?_, by omega⟩
  rw [← List.drop_drop, h, List.drop_left]
theorem expr_reach {f : Nat} {TL : List Tok} {i : Nat} {a : Nd} {r : List Tok} (hi : i ≤ TL.length) (h : exprS f (TL.drop i) = .ok a r) : ∃ j, i < j ∧ j ≤ TL.length ∧ r = TL.drop j := by
  obtain ⟨c, hc, hn, _⟩ := expr_mass f _ a r h
  obtain ⟨h1, h2⟩ := drop_suffix hi hc
  exact ⟨i + c.length, by omega, h2, h1⟩
/-- the kids read so far, and those to come -/
def kidsApp (l : List Nd) : Rd (List Nd) → Rd (List Nd)
  | .err e => .err e
  | .ok m q => .ok (l ++ m) q
theorem kidsApp_nil (x : Rd (List Nd)) : kidsApp [] x = x := by cases x <;> rfl
theorem kidsApp_snoc (l : List Nd) (a : Nd) (x : Rd (List Nd)) : kidsApp l (match x with | .err e => .err e | .ok m q => .ok (a :: m) q) = kidsApp (l ++ [a]) x := by
  cases x with
  | err e => rfl
  | ok m q => simp [kidsApp]
theorem kids_code {expr : List Tok → Rd Nd} (hE : ∀ ts x, expr ts = .err x → x = 8 ∨ x = 12) : ∀ (g : Nat) (ts : List Tok) (x : Int), kidsS expr g ts = .err x → x = 8 ∨ x = 12 := by
  intro g
  induction g with
  | zero => intro ts x h; cases h; exact Or.inl rfl
  | succ g ih =>
    intro ts x h
    rcases he : expr ts with ⟨a, q⟩ | e
    · cases q with
      | nil => rw [kidsS_end he] at h; cases h; exact Or.inl rfl
      | cons t q =>
        rw [kidsS_ok he] at h
        by_cases h4 : t.1 = 4
        · rw [if_pos h4] at h; cases h
        · rw [if_neg h4] at h
          by_cases h5 : t.1 = 5
          · rw [if_pos h5] at h
            rcases hk : kidsS expr g q with ⟨l', q'⟩ | e
            · rw [hk] at h; cases h
            · rw [hk] at h; cases h; exact ih _ _ hk
          · rw [if_neg h5] at h; cases h; exact Or.inl rfl
    · rw [kidsS_err he] at h; cases h; exact hE _ _ he
/-- which errors there are -/
theorem expr_code : ∀ (f : Nat) (ts : List Tok) (x : Int), exprS f ts = .err x → x = 8 ∨ x = 12 := by
  intro f
  induction f with
  | zero => intro ts x h; cases h; exact Or.inr rfl
  | succ f ih =>
    intro ts x h
    cases ts with
    | nil => cases h; exact Or.inl rfl
    | cons t q =>
      by_cases h2 : t.1 = 2
      · rw [exprS_cons, if_pos h2] at h; cases h
      · by_cases h1 : t.1 = 1
        · by_cases hid : identB t.2 = true ∧ headK q = 3
          · obtain ⟨u, q, rfl⟩ : ∃ u q', q = u :: q' := by
              cases q with
              | nil => have := hid.2; simp [headK] at this
              | cons u q' => exact ⟨u, q', rfl⟩
            rw [exprS_call h1 hid.1 hid.2] at h
            by_cases h4 : headK q = 4
            · rw [if_pos h4] at h; cases h
            · rw [if_neg h4] at h
              rcases hk : kidsS (exprS f) (q.length + 1) q with ⟨l, q'⟩ | e
              · rw [hk] at h; cases h
              · rw [hk] at h; cases h; exact kids_code ih _ _ _ hk
          · rw [exprS_word h1 hid] at h
            rcases hwd : wordS t.2 with _ | b
            · rw [hwd] at h; cases h; exact Or.inl rfl
            · rw [hwd] at h; cases h
        · rw [exprS_cons, if_neg h2, if_neg h1] at h; cases h; exact Or.inl rfl
/-- a call's kids behind its sign -/
def callR (t : ByteArray) : Rd (List Nd) → Rd Nd
  | .err e => .err e
  | .ok l q => .ok (.mk 1 t 0 l) q
end Go.Proofs.YtiakgjijlhfneaaGreatDoor
namespace Go.Proofs.YtiakgjijlhfneaaGreatDoor
def nestN : Nat → Nd
  | 0 => .mk 2 ⟨#[97]⟩ 0 []
  | n + 1 => .mk 1 ⟨#[102]⟩ 0 [nestN n]
def nestB (n : Nat) : ByteArray := ⟨(textN (nestN n)).toArray⟩
theorem nest_text (n : Nat) : textN (nestN (n + 1)) = [102, 40] ++ (textN (nestN n) ++ [41]) := by
  rw [nestN, textN, if_pos rfl, textL, textL]
  simp
theorem nestB_zero : nestB 0 = ⟨#[97]⟩ := by
  unfold nestB
  rw [nestN, textN, if_neg (by omega), if_neg (by omega), if_neg (by omega), if_neg (by omega)]
theorem nestB_succ (n : Nat) : nestB (n + 1) = (⟨#[102, 40]⟩ : ByteArray) ++ nestB n ++ (⟨#[41]⟩ : ByteArray) := by
  refine ByteArray.ext ?_
  rw [ByteArray.data_append, ByteArray.data_append]
  show (textN (nestN (n + 1))).toArray = _
  rw [nest_text]
  unfold nestB
  apply Array.toList_inj.1
  simp
theorem nestB_size (n : Nat) : (nestB n).size = 3 * n + 1 := by
  induction n with
  | zero => rw [nestB_zero]; rfl
  | succ n ih =>
    have e1 : ByteArray.size ⟨#[102, 40]⟩ = 2 := rfl
    have e2 : ByteArray.size ⟨#[41]⟩ = 1 := rfl
    rw [nestB_succ, ByteArray.size_append, ByteArray.size_append, ih, e1, e2]
    omega
theorem leaf_a : leafN 2 ⟨#[97]⟩ 0 = true := by decide +kernel
theorem leaf_f : leafN 1 ⟨#[102]⟩ 0 = true := by decide +kernel
theorem nest_well (n : Nat) : wellN (nestN n) = true := by
  induction n with
  | zero => rw [nestN, wellN, leaf_a]; rfl
  | succ n ih => rw [nestN, wellN, leaf_f, if_pos rfl, wellL, wellL, ih]; rfl
theorem nest_may (n : Nat) : ∀ d : Nat, d + n < 64 → mayN (nestN n) d = true := by
  induction n with
  | zero => intro d h; rw [nestN, mayN, if_neg (by omega), if_neg (by omega), leaf_a]; rfl
  | succ n ih => intro d h; rw [nestN, mayN, if_neg (by omega), if_pos rfl, mayL, mayL, ih (d + 1) (by omega), leaf_f]; rfl
theorem nest_depth (n : Nat) : depthN (nestN n) = n + 1 := by
  induction n with
  | zero => rw [nestN, depthN, if_neg (by omega)]
  | succ n ih => rw [nestN, depthN, if_pos rfl, depthL, depthL, ih]; omega
theorem nest_mass (n : Nat) : massN (nestN n) = 6 * n + 6 := by
  have e1 : ByteArray.size ⟨#[97]⟩ = 1 := rfl
  have e2 : ByteArray.size ⟨#[102]⟩ = 1 := rfl
  induction n with
  | zero => rw [nestN, massN, massL, e1]
  | succ n ih => rw [nestN, massN, massL, massL, ih, e2]; omega
theorem nest_ok {n : Nat} (h : n < 64) : parseN (nestB n) = .ok (nestN n) [] := parse_text (nest_may n 0 (by omega))
theorem ident_f : identB ⟨#[102]⟩ = true := by decide +kernel
theorem nest_tok (n : Nat) (rest : List Tok) : ∃ t r, tokN (nestN n) ++ rest = (1, t) :: r := by
  cases n with
  | zero => exact ⟨⟨#[97]⟩, rest, by rw [nestN, tokN, if_neg (by omega), if_neg (by omega), if_neg (by omega), if_neg (by omega)]; rfl⟩
  | succ n => exact ⟨⟨#[102]⟩, _, by rw [nestN, tokN, if_pos rfl, List.cons_append]⟩
theorem nest_err : ∀ (f n : Nat) (rest : List Tok), f ≤ n → exprS f (tokN (nestN n) ++ rest) = .err 12 := by
  intro f
  induction f with
  | zero => intro n rest _; rw [exprS]
  | succ f ih =>
    intro n rest h
    obtain ⟨m, rfl⟩ : ∃ m, n = m + 1 := ⟨n - 1, by omega⟩
    rw [nestN, tokN, if_pos rfl, List.cons_append, List.cons_append, exprS_call rfl ident_f rfl]
    rw [show tokL true [nestN m] = tokN (nestN m) from by rw [tokL, tokL]; simp, List.append_assoc]
    obtain ⟨t, r, e⟩ := nest_tok m ([(4, noText)] ++ rest)
    have hd : headK (tokN (nestN m) ++ ([(4, noText)] ++ rest)) = 1 := by rw [e]; rfl
    rw [if_neg (by rw [hd]; omega), kidsS_err (ih m _ (by omega))]
theorem nest_bad {n : Nat} (h : 64 ≤ n) : parseN (nestB n) = .err 12 := by
  unfold parseN
  unfold nestB
  rw [lex_text (nest_well n)]
  have := nest_err 64 n [] h
  rw [List.append_nil] at this
  simp only []
  rw [this]
/-- the text that is known -/
def knownB : ByteArray := ⟨#[115, 99, 97, 108, 101, 40, 32, 97, 46, 42, 32, 44, 32, 49, 46, 53, 48, 41]⟩
def knownN : Nd := .mk 1 ⟨#[115, 99, 97, 108, 101]⟩ 0 [.mk 2 ⟨#[97, 46, 42]⟩ 0 [], .mk 3 ⟨#[]⟩ 1500000 []]
theorem known_parse : parseN knownB = .ok knownN [] := by kernel_rfl
theorem known_may : mayN knownN 0 = true := by kernel_rfl
theorem known_text : textN knownN = [115, 99, 97, 108, 101, 40, 97, 46, 42, 44, 49, 46, 53, 41] := by kernel_rfl
theorem known_mass : massN knownN ≤ 900 := by decide +kernel
end Go.Proofs.YtiakgjijlhfneaaGreatDoor
