/-
  The walk of the law LexReads: the program's words and the reference's are the same, for every text.
-/
import Derived.Test.YthabgdhfbcfjgaaLexTokens
import Derived.Test.YthabgdhfbcfjgaaLexKnown
namespace Go.Proofs.Ythabgdhfbcfjgaa
open Go.RowKit

set_option maxHeartbeats 4000000 in
theorem lexReads_walk (s : ByteArray) (hs : s.size ≤ maxLen) (w : World) :
    Calls Try.prog 3 #[.string s] w fun e w' => e = .returned (.bool true) ∧ w.grownBy w' none := by
  unfold maxLen at hs
  by_cases hl : 300 < s.size
  · go_enter Try.func3, Try.ntmps3
    go_wp2_with fail
    go_ret
    exact ⟨rfl, G.refl _ _⟩
  · have HC := fun w => lex_any s w (by omega)
    have HD := fun w => refLex_any s w (by omega)
    have hlen : ∀ ts, lexL s 0 = some ts → ts.length ≤ 1000 := fun ts h => by have := lexL_len h; omega
    obtain ⟨R, HR⟩ : ∃ R, Hid (lexL s 0 = R) := ⟨_, Lib.hid rfl⟩
    rw [HR.out] at HC HD hlen
    have HC' := Lib.hid HC; clear HC
    have HD' := Lib.hid HD; clear HD
    rcases R with _ | ts
    · go_enter Try.func3, Try.ntmps3
      go_wp2_with (first | (go_at_call 6; refine (HC'.out _).mono ?_; rintro e w1 ⟨HB1, rfl⟩) | (go_at_call 7; refine (HD'.out _).mono ?_; rintro e w2 ⟨HB2, rfl⟩) | (go_at_call 8; refine (tokens_any _ _ 0 0 [] [] _ (TokRow.nil _ _ _) (TokRow.nil _ _ _) (by decide) (by decide)).mono ?_; rintro e w3 ⟨rfl, hg3⟩) | (go_at_call 9; refine (known_any _).mono ?_; rintro e w4 ⟨rfl, hg4⟩))
      go_ret
      exact ⟨rfl, G.trans (G.trans (G.trans (G.of_below HB1) (G.of_below HB2)) hg3) hg4⟩
    · go_enter Try.func3, Try.ntmps3
      go_wp2_with (first | (go_at_call 6; refine (HC'.out _).mono ?_; rintro e w1 ⟨HB1, v1, rfl, hr1⟩) | (go_at_call 7; refine (HD'.out _).mono ?_; rintro e w2 ⟨HB2, v2, rfl, hr2⟩) | (go_at_call 8; refine (tokens_any _ _ _ _ ts ts _ (TokRow.kept0 hr1 (G.of_below HB2)) hr2 (by have := hlen _ rfl; omega) (by have := hlen _ rfl; omega)).mono ?_; rintro e w3 ⟨rfl, hg3⟩) | (go_at_call 9; refine (known_any _).mono ?_; rintro e w4 ⟨rfl, hg4⟩))
      go_ret
      exact ⟨rfl, G.trans (G.trans (G.trans (G.of_below HB1) (G.of_below HB2)) hg3) hg4⟩
end Go.Proofs.Ythabgdhfbcfjgaa
