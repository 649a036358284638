/-
  The walks of what a name is.
-/
import Derived.Test.YthabgdhfbcfjgaaDoorNamIs
namespace Go.Proofs.YthabgdhfbcfjgaaDoor
open Go.RowKit
def nmAt (p : ByteArray) (j : Nat) : Bool := (p.data.toList.drop j).all nmB
theorem nmAt_step {s : ByteArray} {k : Nat} (hk : k < s.size) : nmAt s k = (nmB s[k] && nmAt s (k + 1)) := by
  unfold nmAt; rw [drop_cons s k hk, List.all_cons]
theorem nmAt_end {s : ByteArray} {k : Nat} (hk : ¬ k < s.size) : nmAt s k = true := by
  unfold nmAt; rw [drop_end s k hk]; rfl
def okPart (p : ByteArray) : Bool := decide (0 < p.size) && nmAt p 0
def okAt (X : List ByteArray) (i : Nat) : Bool := (X.drop i).all okPart
theorem okAt_step {X : List ByteArray} {i : Nat} (h : i < X.length) : okAt X i = (okPart X[i] && okAt X (i + 1)) := by
  unfold okAt; rw [List.drop_eq_getElem_cons h, List.all_cons]
theorem okAt_end {X : List ByteArray} {i : Nat} (h : ¬ i < X.length) : okAt X i = true := by
  unfold okAt; rw [List.drop_eq_nil_of_le (by omega)]; rfl
def isNmX (s : ByteArray) (X : List ByteArray) : Bool := decide (1 ≤ s.size) && decide (s.size ≤ 200) && decide (X.length ≤ 20) && okAt X 0
def isNm (s : ByteArray) : Bool := isNmX s ((ptsL s.data.toList).map bs)
theorem size_empty {p : ByteArray} : p.toList.isEmpty = !decide (0 < p.size) := by
  have h : p.toList.length = p.size := by rw [ByteArray.toList_eq]; simp
  rcases hl : p.toList with _ | ⟨c, r⟩
  · rw [hl, List.length_nil] at h; rw [← h]; rfl
  · rw [hl, List.length_cons] at h; rw [← h]; simp
theorem ptsX_len (s : ByteArray) (hs : s.size ≤ 1000000) : ((ptsL s.data.toList).map bs).length ≤ 1000001 := by
  rw [List.length_map, ← countB_46]
  have : Lib.countB s ⟨#[46]⟩ ≤ s.size := Lib.countB_le ⟨#[46]⟩ (by decide) s.size s (Nat.le_refl _)
  omega
theorem pcs_in : ∀ (s cur : List UInt8) (p : List UInt8), p ∈ pcs cur s → p.length ≤ cur.length + s.length := by
  intro s
  induction s with
  | nil => intro cur p h; rw [pcs_nil, List.mem_singleton] at h; subst h; simp
  | cons c r ih =>
    intro cur p h
    rw [pcs_cons] at h
    split at h
    · rcases List.mem_cons.1 h with rfl | h
      · omega
      · have := ih _ _ h; simp at this ⊢; omega
    · have := ih _ _ h; simp at this ⊢; omega
theorem ptsX_in {s : ByteArray} {i : Nat} (h : i < ((ptsL s.data.toList).map bs).length) : ((ptsL s.data.toList).map bs)[i].size ≤ s.size := by
  have hm := List.getElem_mem h
  obtain ⟨p, hp, he⟩ := List.mem_map.1 hm
  rw [← he]
  have := pcs_in _ _ _ hp
  have e : (bs p).size = p.length := by simp [bs, ByteArray.size]
  have e2 : s.data.toList.length = s.size := by simp
  rw [e]; simp at this; omega

set_option maxHeartbeats 8000000 in
theorem nameIs_any (s : ByteArray) (w : World) (hs : s.size ≤ 1000000) (hm : MaxLen w) :
    Calls Tryd.prog 19 #[.string s] w fun e w' => e = .returned (.bool (isNm s)) ∧ w.grownBy w' none := by
  have HP := Lib.hid (parts_any s w hs hm); clear hm
  have hx := ptsX_len s hs
  have hX := Lib.hid (fun i (h : i < ((ptsL s.data.toList).map bs).length) => ptsX_in h)
  unfold isNm
  generalize (ptsL s.data.toList).map bs = X at *
  by_cases h1 : 1 ≤ s.size
  · by_cases h2 : s.size ≤ 200
    · by_cases h3 : X.length ≤ 20
      · obtain ⟨R, HR⟩ : ∃ R, Hid (okAt X 0 = R) := ⟨_, Lib.hid rfl⟩
        unfold isNmX
        rw [HR.out]
        go_enter Tryd.func19, Tryd.ntmps19
        go_wp2_with (go_at_call 13; refine HP.out.mono ?_; rintro e w1 ⟨v, rfl, hrow, hg⟩; obtain ⟨A, c, rfl, q1, q2, q3⟩ := hrow; have Q3 := Lib.hid q3; clear q3)
        go_loop [24] (fun iv => ∃ i : Nat, iv = .int .i64 i ∧ i ≤ X.length ∧ Hid (okAt X i = R)) (fun iv => X.length - (intOf iv).toNat)
        case atStart => exact ⟨0, rfl, by omega, HR⟩
        case round =>
          obtain ⟨i, rfl, hi, H⟩ := hrel
          clear HR
          by_cases hlt : i < X.length
          · obtain ⟨b, o, rfl, hb, hc⟩ := Q3.out (by omega)
            have a3 : w1.cell? ⟨b, o + i, none⟩ = some (.string X[i]) := by have := hc i hlt 0 _ rfl; simpa [strE] using this
            clear hc
            have HS := Lib.hid (okAt_step hlt)
            have hps := hX.out i hlt
            generalize X[i] = p at *
            by_cases hp : 0 < p.size
            · have hpe : p.toList.isEmpty = false := by rw [size_empty]; simp [hp]
              obtain ⟨R2, HR2⟩ : ∃ R2, Hid (nmAt p 0 = R2) := ⟨_, Lib.hid rfl⟩
              go_wp2_with fail
              go_loop [32] (fun jv => ∃ j : Nat, jv = .int .i64 j ∧ j ≤ p.size ∧ Hid (nmAt p j = R2)) (fun jv => p.size - (intOf jv).toNat)
              case atStart => exact ⟨0, rfl, by omega, HR2⟩
              case round =>
                obtain ⟨j, rfl, hj, H2⟩ := hrel
                by_cases hlj : j < p.size
                · have HS2 := Lib.hid (nmAt_step hlj)
                  by_cases hok : nmB p[j] = true
                  · go_wp2_with (go_at_call 27; refine (isByte_any _ _).mono ?_; rintro e w' ⟨rfl, rfl⟩)
                    exact ⟨⟨j + 1, by go_num, by omega, Lib.hid (by rw [← H2.out, HS2.out, hok, Bool.true_and])⟩, by simp [intOf]; omega⟩
                  · have hok' : nmB p[j] = false := by simpa using hok
                    clear hok
                    go_wp2_with (go_at_call 27; refine (isByte_any _ _).mono ?_; rintro e w' ⟨rfl, rfl⟩)
                    go_ret
                    refine ⟨ret_bool ?_, hg⟩
                    rw [← H.out, HS.out, okPart, HR2.out, ← H2.out, HS2.out, hok']
                    simp
                · have HE2 := Lib.hid (nmAt_end hlj)
                  go_wp2_with fail
                  refine ⟨⟨i + 1, by go_num, by omega, Lib.hid ?_⟩, by simp [intOf]; omega⟩
                  rw [← H.out, HS.out, okPart, HR2.out, ← H2.out, HE2.out]
                  simp [hp]
            · have hpe : p.toList.isEmpty = true := by rw [size_empty]; simp [hp]
              go_wp2_with fail
              go_ret
              refine ⟨ret_bool ?_, hg⟩
              rw [← H.out, HS.out, okPart]
              simp [hp]
          · have HE := Lib.hid (okAt_end hlt)
            go_wp2_with fail
            go_ret
            refine ⟨ret_bool ?_, hg⟩
            rw [← H.out, HE.out]; try simp [h1, h2, h3]
      · have HR : isNmX s X = false := by unfold isNmX; simp [h3]
        have HR' := Lib.hid HR; clear HR
        go_enter Tryd.func19, Tryd.ntmps19
        go_wp2_with (go_at_call 13; refine HP.out.mono ?_; rintro e w1 ⟨v, rfl, hrow, hg⟩; obtain ⟨A, c, rfl, q1, q2, q3⟩ := hrow; have Q3 := Lib.hid q3; clear q3)
        go_ret
        exact ⟨ret_bool HR'.out.symm, hg⟩
    · have HR : isNmX s X = false := by unfold isNmX; simp [h2]
      have HR' := Lib.hid HR; clear HR
      go_enter Tryd.func19, Tryd.ntmps19
      go_wp2_with (go_at_call 13; refine HP.out.mono ?_; rintro e w1 ⟨v, rfl, hrow, hg⟩; obtain ⟨A, c, rfl, q1, q2, q3⟩ := hrow; have Q3 := Lib.hid q3; clear q3)
      go_ret
      exact ⟨ret_bool HR'.out.symm, hg⟩
  · have HR : isNmX s X = false := by unfold isNmX; simp [h1]
    have HR' := Lib.hid HR; clear HR
    go_enter Tryd.func19, Tryd.ntmps19
    go_wp2_with (go_at_call 13; refine HP.out.mono ?_; rintro e w1 ⟨v, rfl, hrow, hg⟩; obtain ⟨A, c, rfl, q1, q2, q3⟩ := hrow; have Q3 := Lib.hid q3; clear q3)
    go_ret
    exact ⟨ret_bool HR'.out.symm, hg⟩

set_option maxHeartbeats 8000000 in
theorem refIs_any (s : ByteArray) (w : World) (hs : s.size ≤ 1000000) :
    Calls Tryd.prog 18 #[.string s] w fun e w' => e = .returned (.bool (isNm s)) ∧ w.grownBy w' none := by
  have HP := Lib.hid (refParts_any s w hs)
  have hx := ptsX_len s hs
  have hX := Lib.hid (fun i (h : i < ((ptsL s.data.toList).map bs).length) => ptsX_in h)
  unfold isNm
  generalize (ptsL s.data.toList).map bs = X at *
  by_cases h1 : 1 ≤ s.size
  · by_cases h2 : s.size ≤ 200
    · obtain ⟨R, HR⟩ : ∃ R, Hid (okAt X 0 = R) := ⟨_, Lib.hid rfl⟩
      unfold isNmX
      rw [HR.out]
      go_enter Tryd.func18, Tryd.ntmps18
      go_wp2_with (go_at_call 7; refine HP.out.mono ?_; rintro e w1 ⟨v, rfl, hrow, hg⟩; obtain ⟨A, c, rfl, q1, q2, q3⟩ := hrow; have Q3 := Lib.hid q3; clear q3)
      go_loop [4] (fun iv => ∃ i : Nat, iv = .int .i64 i ∧ i ≤ X.length ∧ Hid (okAt X i = R)) (fun iv => X.length - (intOf iv).toNat)
      case atStart => exact ⟨0, rfl, by omega, HR⟩
      case round =>
        obtain ⟨i, rfl, hi, H⟩ := hrel
        clear HR
        by_cases hlt : i < X.length
        · obtain ⟨b, o, rfl, hb, hc⟩ := Q3.out (by omega)
          have a3 : w1.cell? ⟨b, o + i, none⟩ = some (.string X[i]) := by have := hc i hlt 0 _ rfl; simpa [strE] using this
          clear hc
          have HS := Lib.hid (okAt_step hlt)
          have hps := hX.out i hlt
          generalize X[i] = p at *
          by_cases hp : 0 < p.size
          · have hpe : p.toList.isEmpty = false := by rw [size_empty]; simp [hp]
            obtain ⟨R2, HR2⟩ : ∃ R2, Hid (nmAt p 0 = R2) := ⟨_, Lib.hid rfl⟩
            go_wp2_with fail
            go_loop [5] (fun jv => ∃ j : Nat, jv = .int .i64 j ∧ j ≤ p.size ∧ Hid (nmAt p j = R2)) (fun jv => p.size - (intOf jv).toNat)
            case atStart => exact ⟨0, rfl, by omega, HR2⟩
            case round =>
              obtain ⟨j, rfl, hj, H2⟩ := hrel
              by_cases hlj : j < p.size
              · have HS2 := Lib.hid (nmAt_step hlj)
                by_cases hok : nmB p[j] = true
                · go_wp2_with (go_at_call 26; refine (refByte_any _ _).mono ?_; rintro e w' ⟨rfl, rfl⟩)
                  exact ⟨⟨j + 1, by go_num, by omega, Lib.hid (by rw [← H2.out, HS2.out, hok, Bool.true_and])⟩, by simp [intOf]; omega⟩
                · have hok' : nmB p[j] = false := by simpa using hok
                  clear hok
                  go_wp2_with (go_at_call 26; refine (refByte_any _ _).mono ?_; rintro e w' ⟨rfl, rfl⟩)
                  go_ret
                  refine ⟨ret_bool ?_, hg⟩
                  rw [← H.out, HS.out, okPart, HR2.out, ← H2.out, HS2.out, hok']
                  simp
              · have HE2 := Lib.hid (nmAt_end hlj)
                go_wp2_with fail
                refine ⟨⟨i + 1, by go_num, by omega, Lib.hid ?_⟩, by simp [intOf]; omega⟩
                rw [← H.out, HS.out, okPart, HR2.out, ← H2.out, HE2.out]
                simp [hp]
          · have hpe : p.toList.isEmpty = true := by rw [size_empty]; simp [hp]
            go_wp2_with fail
            go_ret
            refine ⟨ret_bool ?_, hg⟩
            rw [← H.out, HS.out, okPart]
            simp [hp]
        · have HE := Lib.hid (okAt_end hlt)
          go_wp2_with fail
          go_ret
          refine ⟨ret_bool ?_, hg⟩
          rw [← H.out, HE.out]; simp [h1, h2]; omega
    · have HR : isNmX s X = false := by unfold isNmX; simp [h2]
      have HR' := Lib.hid HR; clear HR
      go_enter Tryd.func18, Tryd.ntmps18
      go_wp2_with fail
      go_ret
      exact ⟨ret_bool HR'.out.symm, G.refl _ _⟩
  · have HR : isNmX s X = false := by unfold isNmX; simp [h1]
    have HR' := Lib.hid HR; clear HR
    go_enter Tryd.func18, Tryd.ntmps18
    go_wp2_with fail
    go_ret
    exact ⟨ret_bool HR'.out.symm, G.refl _ _⟩
end Go.Proofs.YthabgdhfbcfjgaaDoor
