/-
  The walk of the law LexLooks: whether a text is a path, and a function's name: the program and the reference agree, for every text.
-/
import Derived.Test.YthabgdhfbcfjgaaLexPath
import Derived.Test.YthabgdhfbcfjgaaLexIdent
import Derived.Test.YthabgdhfbcfjgaaLexKnown
namespace Go.Proofs.Ythabgdhfbcfjgaa
open Go.RowKit

set_option maxHeartbeats 4000000 in
theorem lexLooks_walk (s : ByteArray) (hs : s.size ≤ maxLen) (w : World) :
    Calls Try.prog 5 #[.string s] w fun e w' => e = .returned (.bool true) ∧ w.grownBy w' none := by
  unfold maxLen at hs
  by_cases hl : 300 < s.size
  · go_enter Try.func5, Try.ntmps5
    go_wp2_with fail
    go_ret
    exact ⟨rfl, G.refl _ _⟩
  · go_enter Try.func5, Try.ntmps5
    go_wp2_with (first | (go_at_call 10; refine (path_any s _ (by omega)).mono ?_; rintro e w1 ⟨rfl, HB1⟩) | (go_at_call 11; refine (refPath_any s _ (by omega)).mono ?_; rintro e w' ⟨rfl, rfl⟩) | (go_at_call 12; refine (ident_any s _ (by omega)).mono ?_; rintro e w' ⟨rfl, rfl⟩) | (go_at_call 13; refine (refIdent_any s _ (by omega)).mono ?_; rintro e w' ⟨rfl, rfl⟩) | (go_at_call 9; refine (known_any _).mono ?_; rintro e w4 ⟨rfl, hg4⟩))
    go_ret
    exact ⟨rfl, G.trans (G.of_below HB1) hg4⟩
end Go.Proofs.Ythabgdhfbcfjgaa
