/-
  The walk of lex's word: where it ends.
-/
import Derived.Test.YtiakgjijlhfneaaGreatDoorLexBytes
import Derived.StillTailTactics
namespace Go.Proofs.YtiakgjijlhfneaaGreatDoor
open Go.RowKit

def WRel (s : ByteArray) (b at0 : Nat) (x : List Value) (T : TypeId) (w : World) (R : Option (Nat × Nat)) (k' d' : Nat) (wr : World) : Prop :=
  wEnd (s.data.toList.drop k') d' k' = R ∧ w.grownBy wr (some b) ∧ Hx wr b (.string s :: .int .i64 k' :: x) T ∧ Hx wr w.heap.size [.int .i64 0, .string ⟨#[]⟩] 66 ∧ at0 ≤ k' ∧ k' ≤ s.size ∧ d' ≤ k'

theorem WRel.step {s : ByteArray} {b at0 : Nat} {x : List Value} {T : TypeId} {w : World} {R : Option (Nat × Nat)} {k' d' : Nat} {wr : World} (H : WRel s b at0 x T w R k' d' wr) (hlt : b < w.heap.size) {n d2 : Nat}
    (h1 : wEnd (s.data.toList.drop (k' + 1)) d2 (k' + 1) = R) (h2 : k' < s.size) (h3 : d2 ≤ k' + 1) : WRel s b at0 x T w R (k' + 1) d2 ((wr.drewN n).setCell ⟨b, 1, none⟩ (.int .i64 ((k' : Int) + 1))) := by
  obtain ⟨_, a1, a2, a3, a4, a5, a6⟩ := H
  refine ⟨h1, G.set (G.drewN a1 _) _ (Or.inr rfl), ?_, (a3.drewN _).other (by omega) _ _, by omega, by omega, h3⟩
  have := (a2.drewN n).set 1 (.int .i64 ((k' : Int) + 1))
  simpa using this
/-- how much of the text is left, by the place that a block bears -/
def atMeas (b n : Nat) (w : World) : Nat := match w.cell? ⟨b, 1, none⟩ with | some (.int _ k) => n - k.toNat | _ => 0
theorem atMeas_eq {b n : Nat} {w : World} {k : Int} (h : w.cell? ⟨b, 1, none⟩ = some (.int .i64 k)) : atMeas b n w = n - k.toNat := by unfold atMeas; rw [h]
theorem WRel.meas {s : ByteArray} {b at0 : Nat} {x : List Value} {T : TypeId} {w : World} {R : Option (Nat × Nat)} {k' d' : Nat} {wr : World} (H : WRel s b at0 x T w R k' d' wr) {n : Nat} (h2 : k' < s.size) :
    atMeas b s.size ((wr.drewN n).setCell ⟨b, 1, none⟩ (.int .i64 ((k' : Int) + 1))) < atMeas b s.size wr := by
  have a := ((H.2.2.1.drewN n).set 1 (.int .i64 ((k' : Int) + 1))).cell 1
  rw [atMeas_eq (H.2.2.1.cell 1), atMeas_eq (k := (k' : Int) + 1) (by rw [a]; rfl)]
  omega
theorem d0eq {d : Nat} {y : Bool} (h : ((d : Int) == 0) = y) : (d == 0) = y := by
  rw [← h, Bool.eq_iff_iff]; simp

/-- what the call of word leaves -/
def WordPost (s : ByteArray) (b at0 : Nat) (x : List Value) (T : TypeId) (w : World) : Option (Nat × Nat) → Ending → World → Prop
  | some (k, d), e, w' => ∃ k' : Nat, w.grownBy w' (some b) ∧ Hx w' b (.string s :: .int .i64 k' :: x) T ∧ k' = k ∧ e = .returned (.tuple #[.agg #[.int .i64 1, .string (s.extract at0 k)], .bool (d == 0 && decide (at0 < k))])
  | none, e, w' => ∃ k' : Nat, w.grownBy w' (some b) ∧ Hx w' b (.string s :: .int .i64 k' :: x) T ∧ k' ≤ s.size ∧ e = .returned (.tuple #[.agg #[.int .i64 0, .string ⟨#[]⟩], .bool false])

set_option maxHeartbeats 4000000 in
theorem word_any (s : ByteArray) (b : Nat) (at0 : Nat) (x : List Value) (T : TypeId) (w : World) (hs : s.size ≤ 4611686018427387904) (ha : at0 ≤ s.size)
    (hb : Hx w b (.string s :: .int .i64 at0 :: x) T) :
    Calls Tryz.prog 51 #[.pointer (some ⟨b, 0, none⟩)] w (WordPost s b at0 x T w (wEnd (s.data.toList.drop at0) 0 at0)) := by
  obtain ⟨R, HR⟩ : ∃ R, Hid (wEnd (s.data.toList.drop at0) 0 at0 = R) := ⟨_, rfl⟩
  rw [HR.out]
  have hc0 : w.cell? ⟨b, 0, none⟩ = some (.string s) := hb.cell 0
  have hc1 : w.cell? ⟨b, 1, none⟩ = some (.int .i64 at0) := hb.cell 1
  have hlt := hb.lt
  have hne : b ≠ w.heap.size := by omega
  go_enter Tryz.func51, Tryz.ntmps51
  go_wp2_with fail
  clear hc0 hc1
  go_loopw [5] (fun dv wr => ∃ (k' d' : Nat), dv = .int .i64 d' ∧ WRel s b at0 x T w R k' d' wr) (fun _ wr => atMeas b s.size wr)
  case atStart =>
    refine ⟨at0, 0, rfl, HR.out, World.grownBy_alloc _ _ _, hb.alloc _, Hx.new _ _ _, Nat.le_refl _, ha, Nat.zero_le _⟩
  case round =>
    obtain ⟨k', d', rfl, H⟩ := hrel
    clear HR
    have h1 := H.2.2.2.2.1
    have h2 := H.2.2.2.2.2.1
    have h3 := H.2.2.2.2.2.2
    have gc0 : wr.cell? ⟨b, 0, none⟩ = some (.string s) := H.2.2.1.cell 0
    have gc1 : wr.cell? ⟨b, 1, none⟩ = some (.int .i64 k') := H.2.2.1.cell 1
    have gf1 : wr.frozen? ⟨b, 1, none⟩ = false := H.2.2.1.free 1
    have gt0 : wr.cell? ⟨w.heap.size, 0, none⟩ = some (.int .i64 0) := H.2.2.2.1.cell 0
    have gt1 : wr.cell? ⟨w.heap.size, 1, none⟩ = some (.string ⟨#[]⟩) := H.2.2.2.1.cell 1
    have gg0 : wr.frozen? ⟨w.heap.size, 0, none⟩ = false := H.2.2.2.1.free 0
    have gg1 : wr.frozen? ⟨w.heap.size, 1, none⟩ = false := H.2.2.2.1.free 1
    by_cases hk : k' < s.size
    · have HD := Lib.hid (drop_cons s k' hk)
      by_cases hw : isWordB s[k'] = true ∨ (s[k'] = 44 ∧ d' ≠ 0)
      · have HW := Lib.hid H.1
        have HE := Lib.hid (wEnd_go (r := s.data.toList.drop (k' + 1)) (d := d') (k := k') hw)
        have HO := Lib.hid (HE.out.symm.trans ((congrArg (fun l => wEnd l d' k') HD.out).symm.trans HW.out))
        clear HE HW HD
        have h44 : isWordB s[k'] = true ∨ (isWordB s[k'] = false ∧ ((s[k'].toNat : Int) != 44) = false ∧ ((d' : Int) == 0) = false) := by
          rcases hq : isWordB s[k'] with _ | _
          · rcases hw with g | ⟨g1, g2⟩
            · rw [hq] at g; cases g
            · refine Or.inr ⟨rfl, ?_, ?_⟩
              · simp [g1]
              · simp; omega
          · exact Or.inl rfl
        clear hw
        rcases h123 : ((s[k'].toNat : Int) == 123) with _ | _
        · have g123 : (s[k'] == 123) = false := by rw [← u8beq]; exact h123
          rcases h125 : ((s[k'].toNat : Int) == 125) with _ | _
          · have g125 : (s[k'] == 125) = false := by rw [← u8beq]; exact h125
            rcases h44 with h44 | ⟨h44, h45, h46⟩
            all_goals
              go_wp2_with fail
              go_quiet (fail)
              go_wp2_with fail
              go_quiet (fail)
              go_wp2_with (go_at_call 70; refine (isWord_any _ _).mono ?_; rintro e w' ⟨rfl, rfl⟩)
              go_roundw
              case rel => exact ⟨k' + 1, d', by go_num, WRel.step H hlt (by simpa [g123, g125] using HO.out) (by omega) (by omega)⟩
              case measure => exact WRel.meas H hk
          · have g125 : (s[k'] == 125) = true := by rw [← u8beq]; exact h125
            by_cases hd0 : d' = 0
            · have hR : R = none := by rw [← HO.out]; simp [g123, g125, hd0]
              subst hR
              have hd1 : ((d' : Int) == 0) = true := by simp [hd0]
              have hneg : (d' : Int) - 1 < 0 := by omega
              clear hd0
              rcases h44 with h44 | ⟨h44, h45, h46⟩
              · go_wp2_with fail
                go_quiet (fail)
                go_wp2_with fail
                go_quiet (fail)
                go_wp2_with (go_at_call 70; refine (isWord_any _ _).mono ?_; rintro e w' ⟨rfl, rfl⟩)
                refine ret_cell_tmp [.int .i64 0, .string ⟨#[]⟩] w.heap.size 66 rfl rfl (Tryz.isAgg66 _) (Tryz.sizeOf66 _) rfl ?_ ⟨k', (by have hb0 := (H.2.1); (repeat first | with_reducible exact hb0 | with_reducible refine G.drewN ?_ _ | with_reducible refine G.drew ?_ | with_reducible refine G.alloc ?_ _ | with_reducible refine G.set ?_ _ (Or.inr rfl) | (with_reducible refine G.set ?_ _ (Or.inl ?_); rotate_left; focus (first | omega | (simp; done) | (simp; omega))))), (by have hb0 := (H.2.2.1); apply Hx.conv; (case h => (repeat first | with_reducible exact hb0 | with_reducible apply Hx.drewN | with_reducible apply Hx.drew | with_reducible apply Hx.set | with_reducible exact Hx.new _ _ _ | (with_reducible apply Hx.new'; (case hl => rfl); (case hb => (first | omega | (simp; done) | (simp; omega)))) | with_reducible apply Hx.alloc | (with_reducible apply Hx.other; (case hne => (first | omega | (simp; done) | (simp; omega)))))); (case e => (first | rfl | (simp; done) | (simp; omega)))), h2, rfl⟩
                exact ((H.2.2.2.1.drewN _).set 0 (.int .i64 0)).set 1 (.string ⟨#[]⟩)
              · rw [hd1] at h46; cases h46
            · have hpos : (0 : Int) ≤ (d' : Int) - 1 := by omega
              rcases h44 with h44 | ⟨h44, h45, h46⟩
              all_goals
                go_wp2_with fail
                go_quiet (fail)
                go_wp2_with fail
                go_quiet (fail)
                go_wp2_with (go_at_call 70; refine (isWord_any _ _).mono ?_; rintro e w' ⟨rfl, rfl⟩)
                go_roundw
                case rel => exact ⟨k' + 1, d' - 1, by congr 1; omega, WRel.step H hlt (by simpa [g123, g125, hd0] using HO.out) (by omega) (by omega)⟩
                case measure => exact WRel.meas H hk
        · have g123 : (s[k'] == 123) = true := by rw [← u8beq]; exact h123
          rcases h44 with h44 | ⟨h44, h45, h46⟩
          all_goals
            go_wp2_with fail
            go_quiet (fail)
            go_wp2_with fail
            go_quiet (fail)
            go_wp2_with (go_at_call 70; refine (isWord_any _ _).mono ?_; rintro e w' ⟨rfl, rfl⟩)
            go_roundw
            case rel => exact ⟨k' + 1, d' + 1, by go_num, WRel.step H hlt (by simpa [g123] using HO.out) (by omega) (by omega)⟩
            case measure => exact WRel.meas H hk
      · have e := H.1
        have hw1 : isWordB s[k'] = false := by simpa using fun g => hw (Or.inl g)
        have hw2 : s[k'] ≠ 44 ∨ d' = 0 := by
          rcases Nat.eq_zero_or_pos d' with g | g
          · exact Or.inr g
          · exact Or.inl fun g2 => hw (Or.inr ⟨g2, by omega⟩)
        rw [HD.out, wEnd_stop hw1 hw2] at e
        subst e
        clear hw HD
        rcases hd : ((d' : Int) == 0) with _ | _
        · have hw3 : ((s[k'].toNat : Int) != 44) = true := by
            simp at hd
            have g : s[k'] ≠ 44 := by simpa [hd] using hw2
            rw [bne, show (44 : Int) = ((44 : UInt8).toNat : Int) from rfl, u8beq]; simpa using g
          clear hw2
          go_wp2_with fail
          go_quiet (fail)
          go_wp2_with fail
          go_quiet (fail)
          go_wp2_with (go_at_call 70; refine (isWord_any _ _).mono ?_; rintro e w' ⟨rfl, rfl⟩)
          go_region
          go_wp2
          refine ret_cell_tmp [.int .i64 1, .string (s.extract at0 k')] w.heap.size 66 rfl rfl (Tryz.isAgg66 _) (Tryz.sizeOf66 _) rfl ?_ ⟨k', (by have hb0 := (H.2.1); (repeat first | with_reducible exact hb0 | with_reducible refine G.drewN ?_ _ | with_reducible refine G.drew ?_ | with_reducible refine G.alloc ?_ _ | with_reducible refine G.set ?_ _ (Or.inr rfl) | (with_reducible refine G.set ?_ _ (Or.inl ?_); rotate_left; focus (first | omega | (simp; done) | (simp; omega))))), (by have hb0 := (H.2.2.1); apply Hx.conv; (case h => (repeat first | with_reducible exact hb0 | with_reducible apply Hx.drewN | with_reducible apply Hx.drew | with_reducible apply Hx.set | with_reducible exact Hx.new _ _ _ | (with_reducible apply Hx.new'; (case hl => rfl); (case hb => (first | omega | (simp; done) | (simp; omega)))) | with_reducible apply Hx.alloc | (with_reducible apply Hx.other; (case hne => (first | omega | (simp; done) | (simp; omega)))))); (case e => (first | rfl | (simp; done) | (simp; omega)))), rfl, ?_⟩
          · exact ((H.2.2.2.1.drewN _).set 0 (.int .i64 1)).set 1 (.string (s.extract at0 k'))
          · simp [d0eq hd]
        · clear hw2
          rcases hw3 : ((s[k'].toNat : Int) != 44) with _ | _
          all_goals
            go_wp2_with fail
            go_quiet (fail)
            go_wp2_with fail
            go_quiet (fail)
            go_wp2_with (go_at_call 70; refine (isWord_any _ _).mono ?_; rintro e w' ⟨rfl, rfl⟩)
            go_region
            go_wp2
            refine ret_cell_tmp [.int .i64 1, .string (s.extract at0 k')] w.heap.size 66 rfl rfl (Tryz.isAgg66 _) (Tryz.sizeOf66 _) rfl ?_ ⟨k', (by have hb0 := (H.2.1); (repeat first | with_reducible exact hb0 | with_reducible refine G.drewN ?_ _ | with_reducible refine G.drew ?_ | with_reducible refine G.alloc ?_ _ | with_reducible refine G.set ?_ _ (Or.inr rfl) | (with_reducible refine G.set ?_ _ (Or.inl ?_); rotate_left; focus (first | omega | (simp; done) | (simp; omega))))), (by have hb0 := (H.2.2.1); apply Hx.conv; (case h => (repeat first | with_reducible exact hb0 | with_reducible apply Hx.drewN | with_reducible apply Hx.drew | with_reducible apply Hx.set | with_reducible exact Hx.new _ _ _ | (with_reducible apply Hx.new'; (case hl => rfl); (case hb => (first | omega | (simp; done) | (simp; omega)))) | with_reducible apply Hx.alloc | (with_reducible apply Hx.other; (case hne => (first | omega | (simp; done) | (simp; omega)))))); (case e => (first | rfl | (simp; done) | (simp; omega)))), rfl, ?_⟩
            · exact ((H.2.2.2.1.drewN _).set 0 (.int .i64 1)).set 1 (.string (s.extract at0 k'))
            · simp [d0eq hd]
    · have e := H.1
      rw [drop_end s k' hk, wEnd] at e
      subst e
      go_wp2_with fail
      go_quiet (fail)
      go_wp2_with fail
      rcases hd : ((d' : Int) == 0) with _ | _
      all_goals
        go_region
        go_wp2
        refine ret_cell_tmp [.int .i64 1, .string (s.extract at0 k')] w.heap.size 66 rfl rfl (Tryz.isAgg66 _) (Tryz.sizeOf66 _) rfl ?_ ⟨k', (by have hb0 := (H.2.1); (repeat first | with_reducible exact hb0 | with_reducible refine G.drewN ?_ _ | with_reducible refine G.drew ?_ | with_reducible refine G.alloc ?_ _ | with_reducible refine G.set ?_ _ (Or.inr rfl) | (with_reducible refine G.set ?_ _ (Or.inl ?_); rotate_left; focus (first | omega | (simp; done) | (simp; omega))))), (by have hb0 := (H.2.2.1); apply Hx.conv; (case h => (repeat first | with_reducible exact hb0 | with_reducible apply Hx.drewN | with_reducible apply Hx.drew | with_reducible apply Hx.set | with_reducible exact Hx.new _ _ _ | (with_reducible apply Hx.new'; (case hl => rfl); (case hb => (first | omega | (simp; done) | (simp; omega)))) | with_reducible apply Hx.alloc | (with_reducible apply Hx.other; (case hne => (first | omega | (simp; done) | (simp; omega)))))); (case e => (first | rfl | (simp; done) | (simp; omega)))), rfl, ?_⟩
        · exact ((H.2.2.2.1.drewN (nq + 1)).set 0 (.int .i64 1)).set 1 (.string (s.extract at0 k'))
        · simp [d0eq hd]
end Go.Proofs.YtiakgjijlhfneaaGreatDoor
