/-
  A whole number in digits: what a text says; the walks of the two functions that read it.
-/
import Derived.Test.YtjfdaoedpdiaeaaDoorDecBack
import Derived.Test.YtjfdaoedpdiaeaaDoorDecNumber
import Derived.Test.YtjfdaoedpdiaeaaDoorRefDigits
namespace Go.Proofs.YtjfdaoedpdiaeaaDoor
open Go.RowKit
def bareW (s : ByteArray) : ByteArray := if minusS s then s.extract 1 s.size else s
def okD (t : ByteArray) : Bool := t.data.toList.all isD && !t.data.toList.isEmpty
/-- the whole number that a text says -/
def wholeO (s : ByteArray) : Option Int := if okD (bareW s) then Option.map (fun (m : Nat) => if minusS s then -(m : Int) else (m : Int)) (numR 0 (bareW s).data.toList) else none
def wholeT (o : Option Int) : Value := match o with
  | some n => .tuple #[.int .i64 n, .bool true]
  | none => .tuple #[.int .i64 0, .bool false]
theorem bareW_size (s : ByteArray) : (bareW s).size ≤ s.size := by
  unfold bareW
  split
  · rw [ByteArray.size_extract]; omega
  · exact Nat.le_refl _
theorem minus_pos {s : ByteArray} (h : minusS s = true) : 0 < s.size := by
  unfold minusS at h
  split at h
  · assumption
  · cases h
theorem minus_of {s : ByteArray} {r : List UInt8} (h : s.data.toList = 45 :: r) : minusS s = true ∧ (bareW s).data.toList = r := by
  obtain ⟨h0, h1, h2⟩ := first_data h
  have e : minusS s = true := by unfold minusS; rw [dif_pos h0, h1 h0]; rfl
  refine ⟨e, ?_⟩
  unfold bareW
  rw [e, if_pos rfl, h2]
theorem minus_not {s : ByteArray} (h : ∀ r, s.data.toList ≠ 45 :: r) : minusS s = false := by
  unfold minusS
  split
  · rename_i h0
    rw [beq_eq_false_iff_ne]
    intro e
    have := drop_cons s 0 h0
    rw [List.drop_zero] at this
    have e2 : s[0] = 45 := UInt8.toNat_inj.mp (by show s[0].toNat = 45; omega)
    rw [e2] at this
    exact h _ this
  · rfl
theorem trim_bare (s : ByteArray) : (⟨(Lib.trimPrefix s.data.toList [45]).toArray⟩ : ByteArray) = bareW s := by
  unfold Lib.trimPrefix Lib.hasPrefix
  rcases h : s.data.toList with _ | ⟨c, r⟩
  · have e := minus_not (s := s) (fun r => by rw [h]; simp)
    have : s = ⟨#[]⟩ := ext_data h
    unfold bareW
    rw [e]
    simp [this]
  · by_cases hc : c = 45
    · subst hc
      obtain ⟨_, e⟩ := minus_of h
      rw [if_pos (by simp [List.isPrefixOf])]
      exact (ext_data e).symm
    · have e := minus_not (s := s) (fun r' => by rw [h]; intro q; exact hc (List.cons.inj q).1)
      unfold bareW
      rw [e, if_neg (by simp [List.isPrefixOf]; exact fun q => hc q.symm)]
      simp only [Bool.false_eq_true, if_false]
      exact (ext_data h).symm
theorem areD_any (d : ByteArray) (w : World) (hs : d.size ≤ 4611686018427387904) :
    Calls Tryd.prog 38 #[.string d] w fun e w' => e = .returned (.bool (okD d)) ∧ w = w' := by
  have := areDigits_any d w hs
  rw [allAt_zero, pos_list] at this
  exact this
theorem allD_any (d : ByteArray) (w : World) (hs : d.size ≤ 4611686018427387904) :
    Calls Tryd.prog 41 #[.string d] w fun e w' => e = .returned (.bool (okD d)) ∧ w = w' := by
  have := all_any d w hs
  rw [allAt_zero, pos_list] at this
  exact this
theorem num_any (d : ByteArray) (w : World) (hs : d.size ≤ 4611686018427387904) (hd : okD d = true) :
    Calls Tryd.prog 39 #[.string d] w fun e w' => e = .returned (numV (numR 0 d.data.toList)) ∧ w = w' := by
  unfold okD at hd
  rw [Bool.and_eq_true] at hd
  have := number_any d w hs (digits_at hd.1)
  unfold numAt at this
  rw [List.drop_zero] at this
  exact this
set_option maxHeartbeats 4000000 in
theorem whole_prog (s : ByteArray) (w : World) (hs : s.size ≤ 1000000) :
    Calls Tryd.prog 19 #[.string s] w fun e w' => e = .returned (wholeT (wholeO s)) ∧ w.grownBy w' none := by
  have HT0 := Tryd.strings_TrimPrefix s ⟨#[45]⟩ w
  rw [show (⟨#[45]⟩ : ByteArray).data.toList = [45] from rfl, trim_bare] at HT0
  have HT := Lib.hid HT0; clear HT0
  have hbz := bareW_size s
  have hlt : Hid (minusS s = true → (bareW s).size < s.size) := Lib.hid (fun h => by have := minus_pos h; unfold bareW; rw [h, if_pos rfl, ByteArray.size_extract]; omega)
  have hge : Hid (minusS s = false → bareW s = s) := Lib.hid (fun h => by unfold bareW; rw [h]; rfl)
  obtain ⟨V, hV⟩ : ∃ V, Hid (wholeT (wholeO s) = V) := ⟨_, Lib.hid rfl⟩
  rw [hV.out]
  have hO : Hid (wholeO s = if okD (bareW s) then Option.map (fun (m : Nat) => if minusS s then -(m : Int) else (m : Int)) (numR 0 (bareW s).data.toList) else none) := Lib.hid rfl
  have HA := Lib.hid (fun w => areD_any (bareW s) w (by omega))
  have HN := Lib.hid (fun (h : okD (bareW s) = true) w => num_any (bareW s) w (by omega) h)
  generalize bareW s = d at *
  generalize minusS s = mi at *
  generalize okD d = ok at *
  have hR : ∃ R, numR 0 d.data.toList = R := ⟨_, rfl⟩
  obtain ⟨R, hR⟩ := hR
  rw [hR] at hO HN
  have hR' : ∀ m, R = some m → (m : Int) ≤ 4611686018427387904 := by
    intro m hm
    rw [hm] at hR
    unfold numR at hR
    split at hR
    · rename_i h; cases hR; unfold topN at h; omega
    · cases hR
  have HRb := Lib.hid hR'; clear hR' hR
  cases ok
  · have hfin : Hid (V = .tuple #[.int .i64 0, .bool false]) := Lib.hid (by rw [← hV.out, hO.out]; rfl)
    go_enter Tryd.func19, Tryd.ntmps19
    go_wp2_with (first | (go_at_call 29; refine HT.out.mono ?_; rintro e wn ⟨rfl, rfl⟩) | (go_at_call 38; refine (HA.out _).mono ?_; rintro e wn ⟨rfl, rfl⟩))
    go_ret2
    exact ⟨by rw [hfin.out]; rfl, G.refl _ _⟩
  have HN' := Lib.hid (HN.out rfl); clear HN
  cases mi
  · have hz := hge.out rfl
    have hz2 : ¬ d.size < s.size := by rw [hz]; omega
    have HZ := Lib.hid hz; clear hz
    rcases R with _ | m
    · have hfin : Hid (V = .tuple #[.int .i64 0, .bool false]) := Lib.hid (by rw [← hV.out, hO.out]; rfl)
      simp only [numV] at HN'
      go_enter Tryd.func19, Tryd.ntmps19
      go_wp2_with (first | (go_at_call 29; refine HT.out.mono ?_; rintro e wn ⟨rfl, rfl⟩) | (go_at_call 38; refine (HA.out _).mono ?_; rintro e wn ⟨rfl, rfl⟩) | (go_at_call 39; refine (HN'.out _).mono ?_; rintro e wn ⟨rfl, rfl⟩))
      go_ret2
      exact ⟨by rw [hfin.out]; rfl, G.refl _ _⟩
    · have hm := HRb.out m rfl
      have hfin : Hid (V = .tuple #[.int .i64 m, .bool true]) := Lib.hid (by rw [← hV.out, hO.out]; rfl)
      simp only [numV] at HN'
      go_enter Tryd.func19, Tryd.ntmps19
      go_wp2_with (first | (go_at_call 29; refine HT.out.mono ?_; rintro e wn ⟨rfl, rfl⟩) | (go_at_call 38; refine (HA.out _).mono ?_; rintro e wn ⟨rfl, rfl⟩) | (go_at_call 39; refine (HN'.out _).mono ?_; rintro e wn ⟨rfl, rfl⟩))
      go_ret2
      exact ⟨by rw [hfin.out]; rfl, G.refl _ _⟩
  · have hz := hlt.out rfl
    rcases R with _ | m
    · have hfin : Hid (V = .tuple #[.int .i64 0, .bool false]) := Lib.hid (by rw [← hV.out, hO.out]; rfl)
      simp only [numV] at HN'
      go_enter Tryd.func19, Tryd.ntmps19
      go_wp2_with (first | (go_at_call 29; refine HT.out.mono ?_; rintro e wn ⟨rfl, rfl⟩) | (go_at_call 38; refine (HA.out _).mono ?_; rintro e wn ⟨rfl, rfl⟩) | (go_at_call 39; refine (HN'.out _).mono ?_; rintro e wn ⟨rfl, rfl⟩))
      go_ret2
      exact ⟨by rw [hfin.out]; rfl, G.refl _ _⟩
    · have hm := HRb.out m rfl
      have hfin : Hid (V = .tuple #[.int .i64 (-(m : Int)), .bool true]) := Lib.hid (by rw [← hV.out, hO.out]; rfl)
      simp only [numV] at HN'
      go_enter Tryd.func19, Tryd.ntmps19
      go_wp2_with (first | (go_at_call 29; refine HT.out.mono ?_; rintro e wn ⟨rfl, rfl⟩) | (go_at_call 38; refine (HA.out _).mono ?_; rintro e wn ⟨rfl, rfl⟩) | (go_at_call 39; refine (HN'.out _).mono ?_; rintro e wn ⟨rfl, rfl⟩))
      go_ret2
      exact ⟨by rw [hfin.out]; rfl, G.refl _ _⟩
/-- a text of more than nineteen digits, no nought ahead, is above the top -/
theorem strip_head : ∀ (l : List UInt8), 2 ≤ (stripL l).length → ∃ c r, stripL l = c :: r ∧ c ≠ 48 := by
  intro l
  induction l with
  | nil => intro h; simp [stripL] at h
  | cons c r ih =>
    intro h
    cases r with
    | nil => simp [stripL] at h
    | cons d r =>
      unfold stripL at h ⊢
      by_cases hc : c = 48
      · rw [if_pos hc] at h ⊢; exact ih h
      · rw [if_neg hc]; exact ⟨c, d :: r, rfl, hc⟩
theorem strip_long {l : List UInt8} (hd : (stripL l).all isD = true) (h : 19 < (stripL l).length) : numR 0 (stripL l) = none := by
  obtain ⟨c, r, e, hc⟩ := strip_head l (by omega)
  rw [e] at h hd ⊢
  rw [List.all_cons, Bool.and_eq_true] at hd
  have h1 := dg_eq hd.1
  have h2 : 1 ≤ dg c := by
    have := isD_lo hd.1
    have : c.toNat ≠ 48 := fun q => hc (UInt8.toNat_inj.mp q)
    omega
  unfold numR
  rw [if_neg]
  rw [valF_cons, valF_base]
  have h3 : 10 ^ 19 ≤ 10 ^ r.length := Nat.pow_le_pow_right (by omega) (by simp at h; omega)
  have h4 : 1 * 10 ^ r.length ≤ (0 * 10 + dg c) * 10 ^ r.length := Nat.mul_le_mul_right _ (by omega)
  unfold topN
  have e19 : (10 : Nat) ^ 19 = 10000000000000000000 := by decide
  omega
theorem strip_num (l : List UInt8) : numR 0 (stripL l) = numR 0 l := by unfold numR; rw [(stripL_val l).1]
set_option maxHeartbeats 8000000 in
theorem whole_ref (s : ByteArray) (w : World) (hs : s.size ≤ 1000000) :
    Calls Tryd.prog 22 #[.string s] w fun e w' => e = .returned (wholeT (wholeO s)) ∧ w.grownBy w' none := by
  obtain ⟨V, hV⟩ : ∃ V, Hid (wholeT (wholeO s) = V) := ⟨_, Lib.hid rfl⟩
  rw [hV.out]
  have hO : Hid (wholeO s = if okD (bareW s) then Option.map (fun (m : Nat) => if minusS s then -(m : Int) else (m : Int)) (numR 0 (bareW s).data.toList) else none) := Lib.hid rfl
  have hbz := bareW_size s
  have hmi : Hid (minusS s = if h : 0 < s.size then ((s[0].toNat : Int) == 45) else false) := Lib.hid rfl
  have hba : Hid (bareW s = if minusS s then s.extract 1 s.size else s) := Lib.hid rfl
  have hpos := Lib.hid (@minus_pos s)
  generalize bareW s = t at *
  generalize minusS s = mi at *
  go_enter Tryd.func22, Tryd.ntmps22
  go_upto_region 2 with (fail)
  go_cut [14] (fun v wc => v = .bool mi ∧ w = wc)
  case first =>
    by_cases h0 : 0 < s.size
    · have he := toList_full h0
      have hq : Hid (mi = ((s[0].toNat : Int) == 45)) := Lib.hid (by rw [hmi.out, dif_pos h0])
      go_wp2_with fail
      go_meet
      exact ⟨by rw [hq.out], rfl⟩
    · have he := toList_empty h0
      have hq : Hid (mi = false) := Lib.hid (by rw [hmi.out, dif_neg h0])
      go_wp2_with fail
      go_meet
      exact ⟨by rw [hq.out], rfl⟩
  case rest =>
    obtain ⟨rfl, rfl⟩ := hcut
    go_upto_if 14 with (fail)
    go_cut [0, 4] (fun sv mv wc => sv = .string t ∧ mv = .bool mi ∧ w = wc)
    case first =>
      cases mi
      · have hq : Hid (t = s) := Lib.hid (by rw [hba.out]; rfl)
        go_wp2_with fail
        go_meet
        exact ⟨by rw [hq.out], rfl, rfl⟩
      · have h0 := hpos.out rfl
        have hq : Hid (t = s.extract 1 s.size) := Lib.hid (by rw [hba.out]; rfl)
        go_wp2_with fail
        go_meet
        exact ⟨by rw [hq.out], rfl, rfl⟩
    case rest =>
      obtain ⟨rfl, rfl, rfl⟩ := hcut
      have HA := Lib.hid (fun w => allD_any t w (by omega))
      have hk : ∃ ok, okD t = ok := ⟨_, rfl⟩
      obtain ⟨ok, hk⟩ := hk
      rw [hk] at HA hO
      cases ok
      · have hfin : Hid (V = .tuple #[.int .i64 0, .bool false]) := Lib.hid (by rw [← hV.out, hO.out]; rfl)
        clear hk
        go_wp2_with (first | (go_at_call 41; refine (HA.out _).mono ?_; rintro e wn ⟨rfl, rfl⟩))
        go_ret2
        exact ⟨by rw [hfin.out]; rfl, G.refl _ _⟩
      have hdig : t.data.toList.all isD = true := by unfold okD at hk; rw [Bool.and_eq_true] at hk; exact hk.1
      have hq2 := (stripL_val t.data.toList).2.1 hdig
      have HS := Lib.hid (fun w => strip_any t w (by omega))
      have hlen : (stripL t.data.toList).length ≤ 1000000 := by
        have key : ∀ l : List UInt8, (stripL l).length ≤ l.length := by
          intro l
          induction l with
          | nil => exact Nat.le_refl _
          | cons c r ih =>
            cases r with
            | nil => exact Nat.le_refl _
            | cons d r => unfold stripL; split; exact Nat.le_trans ih (by simp); exact Nat.le_refl _
        have := key t.data.toList
        have e1 : t.data.toList.length = t.size := by simp
        omega
      have hnum := strip_num t.data.toList
      have hlong := @strip_long t.data.toList hq2
      obtain ⟨q, hq⟩ : ∃ q : ByteArray, (⟨(stripL t.data.toList).toArray⟩ : ByteArray) = q := ⟨_, rfl⟩
      have hqd : q.data.toList = stripL t.data.toList := by rw [← hq]
      rw [hq] at HS
      rw [← hqd] at hnum hlong hlen hq2
      have hqs : q.data.toList.length = q.size := by simp
      rw [hqs] at hlong hlen
      have HQ := Lib.hid hqd; clear hqd hq hqs hk
      have HD := Lib.hid (digits_at hq2); clear hq2 hdig
      have HL := Lib.hid hlong; clear hlong
      obtain ⟨R, hR⟩ : ∃ R, numR 0 q.data.toList = R := ⟨_, rfl⟩
      rw [hR] at hnum HL
      rw [← hnum] at hO
      have HR : Hid (numAt q 0 0 = R) := Lib.hid (by unfold numAt; rw [List.drop_zero, hR])
      clear hnum hR
      by_cases h19 : 19 < q.size
      · have hfin : Hid (V = .tuple #[.int .i64 0, .bool false]) := Lib.hid (by rw [← hV.out, hO.out, HL.out h19]; rfl)
        go_wp2_with (first | (go_at_call 41; refine (HA.out _).mono ?_; rintro e wn ⟨rfl, rfl⟩) | (go_at_call 42; refine (HS.out _).mono ?_; rintro e wn ⟨rfl, rfl⟩))
        go_ret2
        exact ⟨by rw [hfin.out]; rfl, G.refl _ _⟩
      go_wp2_with (first | (go_at_call 41; refine (HA.out _).mono ?_; rintro e wn ⟨rfl, rfl⟩) | (go_at_call 42; refine (HS.out _).mono ?_; rintro e wn ⟨rfl, rfl⟩))
      go_loop [5, 6] (fun nv iv => ∃ (n k : Nat), nv = .int .i64 n ∧ iv = .int .i64 k ∧ k ≤ q.size ∧ n ≤ 4611686018427387904 ∧ Hid (numAt q k n = R)) (fun _ iv => q.size - (intOf iv).toNat)
      case atStart => exact ⟨0, 0, rfl, rfl, by omega, by omega, HR⟩
      case round =>
        obtain ⟨n, k, rfl, rfl, h1, h2, H⟩ := hrel
        clear HR
        by_cases hk : k < q.size
        · have HS2 := Lib.hid (numAt_step (n := n) hk)
          have hD := HD.out k hk
          have d1 := isD_lo hD
          have d2 := isD_hi hD
          have d3 := Lib.hid (dg_eq hD)
          clear hD
          by_cases hq : (4611686018427387904 - ((q[k].toNat : Int) - 48)) / 10 < (n : Int)
          · have ho : topN < n * 10 + dg q[k] := by have := d3.out; unfold topN; omega
            have e := Lib.hid (numAt_over (s := q) (k := k + 1) ho)
            clear ho
            have hfin : Hid (V = .tuple #[.int .i64 0, .bool false]) := Lib.hid (by rw [← hV.out, hO.out, ← H.out, HS2.out, e.out]; rfl)
            go_wp2_with fail
            go_ret2
            exact ⟨by rw [hfin.out]; rfl, G.refl _ _⟩
          · go_wp2_with fail
            have ho : n * 10 + dg q[k] ≤ 4611686018427387904 := by have := d3.out; omega
            refine ⟨⟨n * 10 + dg q[k], k + 1, by have := d3.out; congr 1; omega, by go_num, by omega, ho, Lib.hid (by rw [← H.out, HS2.out])⟩, by simp [intOf]; omega⟩
        · have HE := Lib.hid (numAt_end (n := n) hk h2)
          cases mi
          · have hfin : Hid (V = .tuple #[.int .i64 n, .bool true]) := Lib.hid (by rw [← hV.out, hO.out, ← H.out, HE.out]; rfl)
            go_wp2_with fail
            go_ret2
            exact ⟨by rw [hfin.out]; rfl, G.refl _ _⟩
          · have hfin : Hid (V = .tuple #[.int .i64 (-(n : Int)), .bool true]) := Lib.hid (by rw [← hV.out, hO.out, ← H.out, HE.out]; rfl)
            go_wp2_with fail
            go_ret2
            exact ⟨by rw [hfin.out]; rfl, G.refl _ _⟩
end Go.Proofs.YtjfdaoedpdiaeaaDoor
