/-
  The walk of the law's tokens: two rows of words, one by one.
-/
import Derived.Test.YthabgdhfbcfjgaaLexRefLex
namespace Go.Proofs.Ythabgdhfbcfjgaa
open Go.RowKit

def tokEq (a b : Tok) : Bool := (a.1 == b.1) && (a.2 == b.2)
set_option maxHeartbeats 4000000 in
theorem tokens_any (v1 v2 : Value) (B1 B2 : Nat) (ts us : List Tok) (w : World) (h1 : TokRow 42 w B1 v1 ts) (h2 : TokRow 40 w B2 v2 us) (hl1 : ts.length ≤ 4611686018427387904) (hl2 : us.length ≤ 4611686018427387904) :
    Calls Try.prog 8 #[v1, v2] w fun e w' => e = .returned (.bool (decide (ts = us))) ∧ w.grownBy w' none := by
  rcases h1.form with ⟨rfl, rfl⟩ | ⟨g1, c1, rfl, _, hg1, _, hc1⟩
  · rcases h2.form with ⟨rfl, rfl⟩ | ⟨g2, c2, rfl, _, hg2, _, hc2⟩
    · go_enter Try.func8, Try.ntmps8
      go_wp2_with fail
      refine wp_loop_rounds 1 ?_
      rw [rounds_succ]
      go_wp2_with fail
      go_ret
      exact ⟨ret_bool (by simp), G.refl _ _⟩
    · rcases us with _ | ⟨u, us⟩
      · go_enter Try.func8, Try.ntmps8
        go_wp2_with fail
        refine wp_loop_rounds 1 ?_
        rw [rounds_succ]
        go_wp2_with fail
        go_ret
        exact ⟨ret_bool (by simp), G.refl _ _⟩
      · have hne : ((0 : Int) != ((u :: us).length : Int)) = true := by simp; omega
        go_enter Try.func8, Try.ntmps8
        go_wp2
        go_ret
        exact ⟨ret_bool (by simp), G.refl _ _⟩
  · rcases h2.form with ⟨rfl, rfl⟩ | ⟨g2, c2, rfl, _, hg2, _, hc2⟩
    · rcases ts with _ | ⟨u, ts⟩
      · go_enter Try.func8, Try.ntmps8
        go_wp2_with fail
        refine wp_loop_rounds 1 ?_
        rw [rounds_succ]
        go_wp2_with fail
        go_ret
        exact ⟨ret_bool (by simp), G.refl _ _⟩
      · have hne : (((u :: ts).length : Int) != 0) = true := by simp; omega
        go_enter Try.func8, Try.ntmps8
        go_wp2
        go_ret
        exact ⟨ret_bool (by simp), G.refl _ _⟩
    · by_cases hlen : ts.length = us.length
      · have hne : ((ts.length : Int) != (us.length : Int)) = false := by simp [hlen]
        have HL := Lib.hid hlen; clear hlen
        go_enter Try.func8, Try.ntmps8
        go_wp2_with fail
        go_loopw [5] (fun iv wr => ∃ i : Nat, iv = .int .i64 i ∧ i ≤ ts.length ∧ w.grownBy wr none ∧ Hid (∀ j (hj : j < i) (hj1 : j < ts.length) (hj2 : j < us.length), ts[j] = us[j])) (fun iv _ => ts.length - (intOf iv).toNat)
        case atStart => exact ⟨0, rfl, by omega, G.refl _ _, Lib.hid (fun j hj => by omega)⟩
        case round =>
          obtain ⟨i, rfl, hi, HG, HA⟩ := hrel
          by_cases hlt : i < ts.length
          · have hlt2 : i < us.length := by have := HL.out; omega
            obtain ⟨a1, a2⟩ := hc1 i hlt
            obtain ⟨b1, b2⟩ := hc2 i hlt2
            have a3 : wr.cell? ⟨g1, i * 2, none⟩ = some (.int .i64 ts[i].1) := (G.cell HG (a := ⟨g1, i * 2, none⟩) hg1 (by simp)).trans a1
            have a4 : wr.cell? ⟨g1, i * 2 + 1, none⟩ = some (.string ts[i].2) := (G.cell HG (a := ⟨g1, i * 2 + 1, none⟩) hg1 (by simp)).trans a2
            have b3 : wr.cell? ⟨g2, i * 2, none⟩ = some (.int .i64 us[i].1) := (G.cell HG (a := ⟨g2, i * 2, none⟩) hg2 (by simp)).trans b1
            have b4 : wr.cell? ⟨g2, i * 2 + 1, none⟩ = some (.string us[i].2) := (G.cell HG (a := ⟨g2, i * 2 + 1, none⟩) hg2 (by simp)).trans b2
            clear a1 a2 b1 b2
            have i0 : (0 : Int) ≤ (i : Int) := by omega
            have i1 : (i : Int) < (ts.length : Int) := by omega
            have i2 : (i : Int) < (us.length : Int) := by omega
            by_cases e : ts[i] = us[i]
            · have e1 : ((ts[i].1 : Int) = (us[i].1 : Int)) := by rw [e]
              have e2 : ts[i].2.toList = us[i].2.toList := by rw [e]
              have e' := Lib.hid e; clear e
              go_wp2_with fail
              go_quiet (fail)
              go_wp2_with fail
              go_roundw
              case rel =>
                refine ⟨i + 1, by go_num, by omega, (by have hb0 := (HG); (repeat first | with_reducible exact hb0 | with_reducible refine G.drewN ?_ _ | with_reducible refine G.drew ?_ | with_reducible refine G.alloc ?_ _ | with_reducible refine G.set ?_ _ (Or.inr rfl) | (with_reducible refine G.set ?_ _ (Or.inl ?_); rotate_left; focus (first | omega | (simp; done) | (simp; omega))))), Lib.hid (fun j hj q1 q2 => ?_)⟩
                rcases Nat.lt_or_ge j i with q | q
                · exact HA.out j q q1 q2
                · obtain rfl : j = i := by omega
                  exact e'.out
              case measure => simp [intOf]; omega
            · have hF : decide (ts = us) = false := by simp; intro h; subst h; exact e rfl
              have hF' := Lib.hid hF; clear hF
              by_cases e1 : ts[i].1 = us[i].1
              · have e2 : ¬ ts[i].2.toList = us[i].2.toList := fun h => e (Prod.ext e1 (by
                  have h1 := Lib.toList_data ts[i].2
                  have h2 := Lib.toList_data us[i].2
                  rw [h1, h2] at h
                  exact ByteArray.ext (Array.ext' h)))
                have e3 : ((ts[i].1 : Int) = (us[i].1 : Int)) := by rw [e1]
                clear e e1
                go_wp2_with fail
                go_quiet (fail)
                go_wp2_with fail
                go_ret
                exact ⟨ret_bool hF'.out.symm, (by have hb0 := (HG); (repeat first | with_reducible exact hb0 | with_reducible refine G.drewN ?_ _ | with_reducible refine G.drew ?_ | with_reducible refine G.alloc ?_ _ | with_reducible refine G.set ?_ _ (Or.inr rfl) | (with_reducible refine G.set ?_ _ (Or.inl ?_); rotate_left; focus (first | omega | (simp; done) | (simp; omega)))))⟩
              · have e3 : ¬ ((ts[i].1 : Int) = (us[i].1 : Int)) := by omega
                clear e e1
                go_wp2_with fail
                go_quiet (fail)
                go_wp2_with fail
                go_ret
                exact ⟨ret_bool hF'.out.symm, (by have hb0 := (HG); (repeat first | with_reducible exact hb0 | with_reducible refine G.drewN ?_ _ | with_reducible refine G.drew ?_ | with_reducible refine G.alloc ?_ _ | with_reducible refine G.set ?_ _ (Or.inr rfl) | (with_reducible refine G.set ?_ _ (Or.inl ?_); rotate_left; focus (first | omega | (simp; done) | (simp; omega)))))⟩
          · have hT : decide (ts = us) = true := by
              simp
              exact List.ext_getElem HL.out (fun j q1 q2 => HA.out j (by omega) q1 q2)
            have hT' := Lib.hid hT; clear hT
            go_wp2_with fail
            go_ret
            exact ⟨ret_bool hT'.out.symm, HG⟩
      · have hne : ((ts.length : Int) != (us.length : Int)) = true := by simp; omega
        go_enter Try.func8, Try.ntmps8
        go_wp2_with fail
        go_ret
        exact ⟨ret_bool (by simp; intro h; exact hlen (by rw [h])), G.refl _ _⟩
end Go.Proofs.Ythabgdhfbcfjgaa
