/-
  The walk of dec.Parse, its four ways in joined.
-/
import Derived.Test.YtiakgjijlhfneaaGreatDoorDecParsePlain
import Derived.Test.YtiakgjijlhfneaaGreatDoorDecParseEmpty
import Derived.Test.YtiakgjijlhfneaaGreatDoorDecParseMinus
import Derived.Test.YtiakgjijlhfneaaGreatDoorDecParsePlus
import Derived.Test.YtiakgjijlhfneaaGreatDoorRefParse
namespace Go.Proofs.YtiakgjijlhfneaaGreatDoor
open Go.RowKit
theorem post_to {s : ByteArray} {w w' : World} {sg : Int} {R : Option Nat} {e : Ending} (h : parsePost w sg R e w') (hp : parseO s = R.map fun m => sg * (m : Int)) : e = .returned (parseV s) ∧ w.grownBy w' none := by
  refine ⟨?_, h.2⟩
  rw [h.1, parseV, hp]
  cases R <;> rfl
theorem parse_any (s : ByteArray) (w : World) (hs : s.size ≤ 1000) :
    Calls Tryz.prog 54 #[.string s] w fun e w' => e = .returned (parseV s) ∧ w.grownBy w' none := by
  by_cases h0 : 0 < s.size
  · have he := toList_full h0
    cases h1 : ((s[0].toNat : Int) == 45)
    · have h1' : ¬ (s[0].toNat : Int) = 45 := by simpa using h1
      cases h2 : ((s[0].toNat : Int) == 43)
      · refine (parse_plain s w hs he h0 h1' h2).mono fun e w' h => post_to h ?_
        have e1 : signedS s = false := by unfold signedS; rw [dif_pos h0, h1, h2]; rfl
        have e2 : minusS s = false := by unfold minusS; rw [dif_pos h0, h1]
        unfold parseO bareS
        rw [e1, e2]
        simp only [Bool.false_eq_true, if_false, Int.one_mul]
        unfold readS
        generalize readR _ _ _ = R
        cases R <;> rfl
      · refine (parse_plus s w hs he h0 h1' h2).mono fun e w' h => post_to h ?_
        have e1 : signedS s = true := by unfold signedS; rw [dif_pos h0, h1, h2]; rfl
        have e2 : minusS s = false := by unfold minusS; rw [dif_pos h0, h1]
        unfold parseO bareS
        rw [e1, e2]
        simp only [Bool.false_eq_true, if_false, if_true, Int.one_mul]
        unfold readS
        generalize readR _ _ _ = R
        cases R <;> rfl
    · have h1' : (s[0].toNat : Int) = 45 := by simpa using h1
      refine (parse_minus s w hs he h0 h1').mono fun e w' h => post_to h ?_
      have e1 : signedS s = true := by unfold signedS; rw [dif_pos h0, h1]; rfl
      have e2 : minusS s = true := by unfold minusS; rw [dif_pos h0, h1]
      unfold parseO bareS
      rw [e1, e2]
      simp only [if_true]
      have e3 : (fun m : Nat => -(m : Int)) = fun m : Nat => -1 * (m : Int) := by funext m; omega
      rw [e3]
      unfold readS
      generalize readR _ _ _ = R
      cases R <;> rfl
  · have he := toList_empty h0
    refine (parse_empty s w hs he).mono fun e w' h => post_to h ?_
    have e1 : signedS s = false := by unfold signedS; rw [dif_neg h0]
    have e2 : minusS s = false := by unfold minusS; rw [dif_neg h0]
    unfold parseO bareS
    rw [e1, e2]
    simp only [Bool.false_eq_true, if_false, Int.one_mul]
    unfold readS
    generalize readR _ _ _ = R
    cases R <;> rfl
end Go.Proofs.YtiakgjijlhfneaaGreatDoor
