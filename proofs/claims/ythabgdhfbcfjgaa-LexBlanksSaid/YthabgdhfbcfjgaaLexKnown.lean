/-
  The walk of the law's own example.
-/
import Derived.Test.YthabgdhfbcfjgaaLexLex
namespace Go.Proofs.Ythabgdhfbcfjgaa
open Go.RowKit
def knownS : ByteArray := ⟨#[102, 40, 97, 46, 123, 98, 44, 99, 125, 44, 32, 39, 120, 39, 41]⟩
def knownT : List Tok := [(1, ⟨#[102]⟩), (3, noText), (1, ⟨#[97, 46, 123, 98, 44, 99, 125]⟩), (5, noText), (2, ⟨#[120]⟩), (4, noText)]
theorem known_lex : lexL knownS 0 = some knownT := by decide +kernel

set_option maxHeartbeats 4000000 in
theorem known_any (w : World) : Calls Try.prog 9 #[] w fun e w' => e = .returned (.bool true) ∧ w.grownBy w' none := by
  have HC := fun w => lex_any knownS w (by decide)
  rw [known_lex] at HC
  have HC' := Lib.hid HC; clear HC
  go_enter Try.func9, Try.ntmps9
  go_wp2_with (go_at_call 6; refine (HC'.out _).mono ?_; rintro e w1 ⟨HB, v, rfl, hr⟩; rcases hr.form with ⟨_, he⟩ | ⟨g, cap, rfl, _, _, _, hc⟩; cases he; have c1 := hc 2 (by decide); have c2 := hc 4 (by decide); simp only [knownT, List.length_cons, List.length_nil, Nat.reduceAdd, Nat.reduceMul, List.getElem_cons_zero, List.getElem_cons_succ] at c1 c2; obtain ⟨c11, c12⟩ := c1; obtain ⟨c21, c22⟩ := c2)
  go_ret
  exact ⟨rfl, G.of_below HB⟩
end Go.Proofs.Ythabgdhfbcfjgaa
