/-
  The walk of the law on texts put together.
-/
import Derived.Test.YthabgdhfbcfjgaaDoorNamLaws
namespace Go.Proofs.YthabgdhfbcfjgaaDoor
open Go.RowKit
def dotAt (p : ByteArray) (j : Nat) : Bool := (p.data.toList.drop j).any (· == 46)
theorem dotAt_step {s : ByteArray} {k : Nat} (hk : k < s.size) : dotAt s k = ((s[k] == 46) || dotAt s (k + 1)) := by
  unfold dotAt; rw [drop_cons s k hk, List.any_cons]
theorem dotAt_end {s : ByteArray} {k : Nat} (hk : ¬ k < s.size) : dotAt s k = false := by
  unfold dotAt; rw [drop_end s k hk]; rfl
def dotsAt (X : List ByteArray) (i : Nat) : Bool := (X.drop i).any (dotAt · 0)
theorem dotsAt_step {X : List ByteArray} {i : Nat} (h : i < X.length) : dotsAt X i = (dotAt X[i] 0 || dotsAt X (i + 1)) := by
  unfold dotsAt; rw [List.drop_eq_getElem_cons h, List.any_cons]
theorem dotsAt_end {X : List ByteArray} {i : Nat} (h : ¬ i < X.length) : dotsAt X i = false := by
  unfold dotsAt; rw [List.drop_eq_nil_of_le (by omega)]; rfl
theorem pcs_plain : ∀ (p cur : List UInt8), (∀ c ∈ p, c ≠ 46) → ∀ r, pcs cur (p ++ r) = pcs (cur ++ p) r := by
  intro p
  induction p with
  | nil => intro cur _ r; simp
  | cons c p ih =>
    intro cur h r
    rw [List.cons_append, pcs_cons, if_neg (h c (by simp)), ih _ (fun d hd => h d (by simp [hd])), List.append_assoc]; rfl
theorem pcs_join : ∀ (L : List (List UInt8)), L ≠ [] → (∀ p ∈ L, ∀ c ∈ p, c ≠ 46) → pcs [] (Lib.join L [46]) = L := by
  intro L
  induction L with
  | nil => intro h; exact absurd rfl h
  | cons x L ih =>
    intro _ h
    rw [Lib.join_cons, pcs_plain _ _ (h x (by simp)), List.nil_append]
    cases L with
    | nil => show pcs x [] = _; rw [pcs_nil]
    | cons y L =>
      have e : Lib.joinTail [46] (y :: L) = 46 :: Lib.join (y :: L) [46] := by rw [Lib.join_cons]; simp [Lib.joinTail]
      rw [e, pcs_cons, if_pos rfl, ih (by simp) (fun p hp => h p (by simp [hp]))]
theorem map_back (X : List ByteArray) : (X.map (·.data.toList)).map bs = X := by
  induction X with
  | nil => rfl
  | cons x X ih => rw [List.map_cons, List.map_cons, ih]; rfl
theorem parts_join {X : List ByteArray} (h0 : 0 < X.length) (h : dotsAt X 0 = false) : (ptsL (joinX X).data.toList).map bs = X := by
  have e : (joinX X).data.toList = Lib.join (X.map (·.data.toList)) [46] := rfl
  rw [e]
  unfold ptsL
  rw [pcs_join, map_back]
  · intro hn
    have : X = [] := by simpa using hn
    subst this; simp at h0
  · intro p hp c hc e
    obtain ⟨q, hq, rfl⟩ := List.mem_map.1 hp
    subst e
    unfold dotsAt at h
    rw [List.drop_zero, List.any_eq_false] at h
    have := h q hq
    unfold dotAt at this
    rw [List.drop_zero] at this
    exact this (List.any_eq_true.2 ⟨46, hc, by decide⟩)
theorem join_le : ∀ (X : List ByteArray), (∀ j (h : j < X.length), X[j].size ≤ 400) → (Lib.join (X.map (·.data.toList)) [46]).length ≤ X.length * 401 := by
  intro X h
  cases X with
  | nil => simp [Lib.join_nil]
  | cons x X =>
    rw [List.map_cons, Lib.join_length]
    have key : ∀ (Y : List ByteArray), (∀ j (h : j < Y.length), Y[j].size ≤ 400) → Lib.lens (Y.map (·.data.toList)) ≤ Y.length * 400 := by
      intro Y
      induction Y with
      | nil => intro _; simp [Lib.lens]
      | cons y Y ih =>
        intro h
        have h1 := h 0 (by simp)
        have h2 := ih (fun j hj => by have := h (j + 1) (by simpa using hj); simpa using this)
        have e : y.data.toList.length = y.size := by simp
        simp only [Lib.lens, List.map_cons, List.sum_cons, List.length_cons] at h2 ⊢
        simp only [List.getElem_cons_zero] at h1
        rw [e, Nat.succ_mul]; omega
    have := key (x :: X) h
    rw [List.map_cons] at this
    simp only [List.length_cons, List.length_map, List.length_nil] at this ⊢
    omega

set_option maxHeartbeats 16000000 in
theorem nameJoins_walk (v : Value) (X : List ByteArray) (w : World) (hrow : ERow strE w v X) (hsz : ∀ j (h : j < X.length), X[j].size ≤ maxLen) (hm : MaxLen w) :
    Calls Tryd.prog 4 #[v] w fun e w' => e = .returned (.bool true) ∧ w.grownBy w' none := by
  have HG := G.refl w none
  have HM := Lib.hid hm; clear hm
  have hle := hrow.le
  unfold maxLen at hle hsz
  have HR := Lib.hid hrow
  obtain ⟨A, c, rfl, q1, q2, q3⟩ := hrow
  have Q3 := Lib.hid q3; clear q3
  have HZ := Lib.hid hsz; clear hsz
  by_cases h1 : 1 ≤ X.length
  · by_cases h2 : X.length ≤ 40
    · have HK := Lib.hid known8_any
      obtain ⟨R, HRd⟩ : ∃ R, Hid (dotsAt X 0 = R) := ⟨_, Lib.hid rfl⟩
      go_enter Tryd.func4, Tryd.ntmps4
      go_wp2_with fail
      go_loop [3, 4] (fun dv iv => ∃ (d : Bool) (i : Nat), dv = .bool d ∧ iv = .int .i64 i ∧ i ≤ X.length ∧ Hid ((d || dotsAt X i) = R) ∧ Hid (∀ j (h : j < X.length), j < i → X[j].size ≤ 400)) (fun _ iv => X.length - (intOf iv).toNat)
      case atStart => exact ⟨false, 0, rfl, rfl, by omega, Lib.hid (by rw [HRd.out]; rfl), Lib.hid (fun j h hj => by omega)⟩
      case round =>
        obtain ⟨d, i, rfl, rfl, hi, H, HS⟩ := hrel
        by_cases hlt : i < X.length
        · obtain ⟨b, o, rfl, hb, hc⟩ := Q3.out (by omega)
          have a3 : w.cell? ⟨b, o + i, none⟩ = some (.string X[i]) := by have := hc i hlt 0 _ rfl; simpa [strE] using this
          clear hc
          have hD := Lib.hid (dotsAt_step hlt)
          have hpz := HZ.out i hlt
          obtain ⟨p, hp⟩ : ∃ p, X[i] = p := ⟨_, rfl⟩
          rw [hp] at a3 hD hpz
          have HP := Lib.hid hp; clear hp
          by_cases h4 : p.size ≤ 400
          · obtain ⟨R2, HR2⟩ : ∃ R2, Hid ((d || dotAt p 0) = R2) := ⟨_, Lib.hid rfl⟩
            have Hd0 := Lib.hid (show (d || dotAt p 0) = R2 from HR2.out)
            obtain ⟨d0, hd0⟩ : ∃ d0, d = d0 := ⟨_, rfl⟩
            have HD0 := Lib.hid hd0; clear hd0
            go_wp2_with fail
            go_loop [3, 5] (fun dv jv => ∃ (d : Bool) (j : Nat), dv = .bool d ∧ jv = .int .i64 j ∧ j ≤ p.size ∧ Hid ((d || dotAt p j) = R2)) (fun _ jv => p.size - (intOf jv).toNat)
            case atStart => exact ⟨d, 0, rfl, rfl, by omega, HR2⟩
            case round =>
              obtain ⟨e, j, rfl, rfl, hj, H2⟩ := hrel
              by_cases hlj : j < p.size
              · have HS2 := Lib.hid (dotAt_step hlj)
                by_cases hok : p[j] = 46
                · have hb1 : ((p[j].toNat : Int) == 46) = true := by rw [hok]; rfl
                  have hk := Lib.hid hok; clear hok
                  cases e
                  all_goals
                    go_wp2_with fail
                    exact ⟨⟨_, j + 1, rfl, by go_num, by omega, Lib.hid (by rw [← H2.out, HS2.out, hk.out]; rfl)⟩, by simp [intOf]; omega⟩
                · have hb1 : ((p[j].toNat : Int) == 46) = false := by rw [beq_eq_false_iff_ne]; intro h; exact hok (UInt8.toNat_inj.mp (by show p[j].toNat = 46; omega))
                  have hk := Lib.hid (show (p[j] == 46) = false by simpa using hok); clear hok
                  cases e
                  all_goals
                    go_wp2_with fail
                    exact ⟨⟨_, j + 1, rfl, by go_num, by omega, Lib.hid (by rw [← H2.out, HS2.out, hk.out]; rfl)⟩, by simp [intOf]; omega⟩
              · have HE2 := Lib.hid (dotAt_end hlj)
                go_wp2_with fail
                refine ⟨⟨e, i + 1, rfl, by go_num, by omega, Lib.hid ?_, Lib.hid ?_⟩, by simp [intOf]; omega⟩
                · rw [← H.out, hD.out, ← Bool.or_assoc, HR2.out, ← H2.out, HE2.out, Bool.or_false]
                · intro k hk hki
                  by_cases hki2 : k < i
                  · exact HS.out k hk hki2
                  · obtain rfl : k = i := by omega
                    rw [HP.out]; exact h4
          · go_wp2_with fail
            go_ret
            exact ⟨ret_bool rfl, HG⟩
        · have HE := Lib.hid (dotsAt_end hlt)
          have HSS : ∀ j (h : j < X.length), X[j].size ≤ 400 := fun j h => HS.out j h (by omega)
          have hjl := join_le X HSS
          have hjz : (joinX X).size ≤ 16040 := by
            have e : (joinX X).size = (Lib.join (X.map (·.data.toList)) [46]).length := by simp [joinX, ByteArray.size]
            omega
          have HJ := Lib.hid (fun w hr => join_any (.slice A X.length c) X w hr (by omega) (by omega))
          have HJ2 := Lib.hid (fun w hr => refJoin_any (.slice A X.length c) X w hr (by omega))
          have HP := Lib.hid (fun w hm => parts_any (joinX X) w (by omega) hm)
          have HPJ := Lib.hid (@parts_join X)
          clear hjl HSS
          generalize joinX X = t at *
          have hd : d = R := by rw [← H.out, HE.out, Bool.or_false]
          subst hd
          cases d
          · have HX := Lib.hid (HPJ.out (by omega) HRd.out)
            rw [HX.out] at HP
            have HT := Lib.hid (fun v1 v2 w h1 h2 => texts_any v1 v2 X X w h1 h2)
            go_wp2_with (first | (go_at_call 10; refine (HJ.out _ (HR.out.kept0 (by have hb0 := (HG); (repeat first | with_reducible exact hb0 | with_reducible refine G.drewN ?_ _ | with_reducible refine G.drew ?_ | with_reducible refine G.alloc ?_ _ | with_reducible refine G.set ?_ _ (Or.inr rfl) | (with_reducible refine G.set ?_ _ (Or.inl ?_); rotate_left; focus (first | omega | (simp; done) | (simp; omega))))))).mono ?_; rintro e wn ⟨rfl, hgn⟩; replace HG := G.trans (by have hb0 := (HG); (repeat first | with_reducible exact hb0 | with_reducible refine G.drewN ?_ _ | with_reducible refine G.drew ?_ | with_reducible refine G.alloc ?_ _ | with_reducible refine G.set ?_ _ (Or.inr rfl) | (with_reducible refine G.set ?_ _ (Or.inl ?_); rotate_left; focus (first | omega | (simp; done) | (simp; omega))))) hgn; clear hgn) | (go_at_call 11; refine (HJ2.out _ (HR.out.kept0 (by have hb0 := (HG); (repeat first | with_reducible exact hb0 | with_reducible refine G.drewN ?_ _ | with_reducible refine G.drew ?_ | with_reducible refine G.alloc ?_ _ | with_reducible refine G.set ?_ _ (Or.inr rfl) | (with_reducible refine G.set ?_ _ (Or.inl ?_); rotate_left; focus (first | omega | (simp; done) | (simp; omega))))))).mono ?_; rintro e wn ⟨rfl, rfl⟩) | (go_at_call 13; refine (HP.out _ (HM.out.kept (by have hb0 := (HG); (repeat first | with_reducible exact hb0 | with_reducible refine G.drewN ?_ _ | with_reducible refine G.drew ?_ | with_reducible refine G.alloc ?_ _ | with_reducible refine G.set ?_ _ (Or.inr rfl) | (with_reducible refine G.set ?_ _ (Or.inl ?_); rotate_left; focus (first | omega | (simp; done) | (simp; omega))))))).mono ?_; rintro e wn ⟨v2, rfl, hrow2, hgn⟩; replace HG := G.trans (by have hb0 := (HG); (repeat first | with_reducible exact hb0 | with_reducible refine G.drewN ?_ _ | with_reducible refine G.drew ?_ | with_reducible refine G.alloc ?_ _ | with_reducible refine G.set ?_ _ (Or.inr rfl) | (with_reducible refine G.set ?_ _ (Or.inl ?_); rotate_left; focus (first | omega | (simp; done) | (simp; omega))))) hgn; clear hgn) | (go_at_call 12; refine (HT.out _ _ _ hrow2 (HR.out.kept0 (by have hb0 := (HG); (repeat first | with_reducible exact hb0 | with_reducible refine G.drewN ?_ _ | with_reducible refine G.drew ?_ | with_reducible refine G.alloc ?_ _ | with_reducible refine G.set ?_ _ (Or.inr rfl) | (with_reducible refine G.set ?_ _ (Or.inl ?_); rotate_left; focus (first | omega | (simp; done) | (simp; omega))))))).mono ?_; rintro e wn ⟨rfl, hgn⟩; replace HG := G.trans (by have hb0 := (HG); (repeat first | with_reducible exact hb0 | with_reducible refine G.drewN ?_ _ | with_reducible refine G.drew ?_ | with_reducible refine G.alloc ?_ _ | with_reducible refine G.set ?_ _ (Or.inr rfl) | (with_reducible refine G.set ?_ _ (Or.inl ?_); rotate_left; focus (first | omega | (simp; done) | (simp; omega))))) hgn; clear hgn) | (go_at_call 9; refine (HK.out _ (HM.out.kept (by have hb0 := (HG); (repeat first | with_reducible exact hb0 | with_reducible refine G.drewN ?_ _ | with_reducible refine G.drew ?_ | with_reducible refine G.alloc ?_ _ | with_reducible refine G.set ?_ _ (Or.inr rfl) | (with_reducible refine G.set ?_ _ (Or.inl ?_); rotate_left; focus (first | omega | (simp; done) | (simp; omega))))))).mono ?_; rintro e wn ⟨rfl, hgn⟩; replace HG := G.trans (by have hb0 := (HG); (repeat first | with_reducible exact hb0 | with_reducible refine G.drewN ?_ _ | with_reducible refine G.drew ?_ | with_reducible refine G.alloc ?_ _ | with_reducible refine G.set ?_ _ (Or.inr rfl) | (with_reducible refine G.set ?_ _ (Or.inl ?_); rotate_left; focus (first | omega | (simp; done) | (simp; omega))))) hgn; clear hgn))
            go_ret
            exact ⟨ret_bool rfl, HG⟩
          · go_wp2_with (first | (go_at_call 10; refine (HJ.out _ (HR.out.kept0 (by have hb0 := (HG); (repeat first | with_reducible exact hb0 | with_reducible refine G.drewN ?_ _ | with_reducible refine G.drew ?_ | with_reducible refine G.alloc ?_ _ | with_reducible refine G.set ?_ _ (Or.inr rfl) | (with_reducible refine G.set ?_ _ (Or.inl ?_); rotate_left; focus (first | omega | (simp; done) | (simp; omega))))))).mono ?_; rintro e wn ⟨rfl, hgn⟩; replace HG := G.trans (by have hb0 := (HG); (repeat first | with_reducible exact hb0 | with_reducible refine G.drewN ?_ _ | with_reducible refine G.drew ?_ | with_reducible refine G.alloc ?_ _ | with_reducible refine G.set ?_ _ (Or.inr rfl) | (with_reducible refine G.set ?_ _ (Or.inl ?_); rotate_left; focus (first | omega | (simp; done) | (simp; omega))))) hgn; clear hgn) | (go_at_call 11; refine (HJ2.out _ (HR.out.kept0 (by have hb0 := (HG); (repeat first | with_reducible exact hb0 | with_reducible refine G.drewN ?_ _ | with_reducible refine G.drew ?_ | with_reducible refine G.alloc ?_ _ | with_reducible refine G.set ?_ _ (Or.inr rfl) | (with_reducible refine G.set ?_ _ (Or.inl ?_); rotate_left; focus (first | omega | (simp; done) | (simp; omega))))))).mono ?_; rintro e wn ⟨rfl, rfl⟩) | (go_at_call 9; refine (HK.out _ (HM.out.kept (by have hb0 := (HG); (repeat first | with_reducible exact hb0 | with_reducible refine G.drewN ?_ _ | with_reducible refine G.drew ?_ | with_reducible refine G.alloc ?_ _ | with_reducible refine G.set ?_ _ (Or.inr rfl) | (with_reducible refine G.set ?_ _ (Or.inl ?_); rotate_left; focus (first | omega | (simp; done) | (simp; omega))))))).mono ?_; rintro e wn ⟨rfl, hgn⟩; replace HG := G.trans (by have hb0 := (HG); (repeat first | with_reducible exact hb0 | with_reducible refine G.drewN ?_ _ | with_reducible refine G.drew ?_ | with_reducible refine G.alloc ?_ _ | with_reducible refine G.set ?_ _ (Or.inr rfl) | (with_reducible refine G.set ?_ _ (Or.inl ?_); rotate_left; focus (first | omega | (simp; done) | (simp; omega))))) hgn; clear hgn))
            go_ret
            exact ⟨ret_bool rfl, HG⟩
    · go_enter Tryd.func4, Tryd.ntmps4
      go_wp2_with fail
      go_ret
      exact ⟨ret_bool rfl, HG⟩
  · go_enter Tryd.func4, Tryd.ntmps4
    go_wp2_with fail
    go_ret
    exact ⟨ret_bool rfl, HG⟩
end Go.Proofs.YthabgdhfbcfjgaaDoor
