/-
  The walk of the reference's cell. Printed by a small program of session 8.
  The walk of the reference's CSV. Printed by a small program of session 8.
-/
import Derived.Test.YtjfonckmfafdgaaDoorOutCSVP
import Derived.Test.YtjfonckmfafdgaaDoorSpanClkR
import Derived.Test.YtjfonckmfafdgaaDoorDecB
namespace Go.Proofs.YtjfonckmfafdgaaDoor
open Go.RowKit
theorem u8_k (c : UInt8) (k : Nat) (hk : k < 256) : ((c.toNat : Int) == (k : Int)) = (c == UInt8.ofNat k) := by
  have h : (UInt8.ofNat k).toNat = k := by simp; omega
  by_cases e : c = UInt8.ofNat k
  · subst e; rw [h]; simp
  · have e2 : c.toNat ≠ k := fun x => e (UInt8.toNat_inj.1 (by rw [x, h]))
    have h1 : ((c.toNat : Int) == (k : Int)) = false := beq_eq_false_iff_ne.2 (by omega)
    rw [h1, beq_eq_false_iff_ne.2 e]
theorem take_next {s : ByteArray} {i : Nat} (h : i < s.size) : s.data.toList.take (i + 1) = s.data.toList.take i ++ [s[i]] := by
  rw [List.take_add_one, Lib.data_getElem? s i h]
  rfl
theorem one_byte {s : ByteArray} {i : Nat} (h : i < s.size) : (s.extract i (i + 1)).data.toList = [s[i]] := by
  rw [ByteArray.data_extract, Array.toList_extract, List.extract_eq_take_drop]
  have h2 : s.data.toList.drop i = s[i] :: s.data.toList.drop (i + 1) := by
    rw [List.drop_eq_getElem_cons (by simpa using h)]
    simp
    rfl
  rw [h2]
  simp
theorem one_take {s : ByteArray} {i : Nat} (h : i < s.size) : (s.data.toList.drop i).take 1 = [s[i]] := by
  have h2 : s.data.toList.drop i = s[i] :: s.data.toList.drop (i + 1) := by
    rw [List.drop_eq_getElem_cons (by simpa using h)]
    simp
    rfl
  rw [h2]
  rfl
set_option maxHeartbeats 16000000 in
set_option maxRecDepth 100000 in
theorem cell_any (s : ByteArray) (w : World) (hs : s.size ≤ 100000) :
    Calls Tryd.prog 41 #[.string s] w fun e w' => e = .returned (.string ⟨(fieldL s.data.toList).toArray⟩) ∧ w' = w := by
  have hV : Hid (fieldL s.data.toList = if (s.data.toList.take s.size).any odd then 34 :: ((s.data.toList.take s.size).flatMap fc ++ [34]) else s.data.toList) := Lib.hid (by
    rw [List.take_of_length_le (by simp)]; rfl)
  generalize fieldL s.data.toList = V at *
  have HL := Lib.hid (fun i => (fcs_len (s.data.toList.take i)).2)
  go_enter Tryd.func41, Tryd.ntmps41
  go_wp2_with fail
  go_loopw [3, 4, 5] (fun ov qv iv wr => ∃ (i : Nat) (Y : ByteArray), iv = .int .i64 i ∧ ov = .bool ((s.data.toList.take i).any odd) ∧ qv = .string Y ∧ i ≤ s.size ∧ Hid (Y.data.toList = 34 :: (s.data.toList.take i).flatMap fc) ∧ wr = w) (fun _ _ iv _ => s.size - (intOf iv).toNat)
  case atStart => exact ⟨0, _, rfl, rfl, rfl, by omega, Lib.hid rfl, rfl⟩
  case round =>
    obtain ⟨i, Y, rfl, rfl, rfl, hi, hY, rfl⟩ := hrel
    have hYs : Y.size ≤ 200001 := by
      rw [← size_list', hY.out, List.length_cons]
      have := HL.out i
      have h2 : (s.data.toList.take i).length ≤ s.size := by rw [List.length_take, Lib.size_eq]; omega
      omega
    obtain ⟨o, ho⟩ : ∃ o, Hid ((s.data.toList.take i).any odd = o) := ⟨_, Lib.hid rfl⟩
    by_cases hlt : i < s.size
    · rw [ho.out]
      have hany : Hid ((s.data.toList.take (i + 1)).any odd = ((s.data.toList.take i).any odd || odd s[i])) := Lib.hid (by rw [take_next hlt]; simp)
      have hfl : Hid ((s.data.toList.take (i + 1)).flatMap fc = (s.data.toList.take i).flatMap fc ++ fc s[i]) := Lib.hid (by rw [take_next hlt]; simp)
      have hsl : Hid ((s.extract i (i + 1)).data.toList = [s[i]]) := Lib.hid (one_byte hlt)
      have hs2 : Hid ((s.data.toList.drop i).take 1 = [s[i]]) := Lib.hid (one_take hlt)
      have hes : (s.extract i (i + 1)).size = 1 := by rw [← size_list', hsl.out]; rfl
      have n1 : ¬ 9223372036854775807 < Y.size + 1 := by omega
      have n2 : ¬ 9223372036854775807 < Y.size + 1 + 1 := by omega
      obtain ⟨c, hc⟩ : ∃ c, s[i] = c := ⟨_, rfl⟩
      rw [hc] at hany hfl hs2
      clear hsl
      cases o
      · by_cases h1 : c = 44
        · have c1 : (c == 44) = true := by rw [h1]; rfl
          have c2 : (c == 34) = false := by rw [h1]; rfl
          have c3 : (c == 10) = false := by rw [h1]; rfl
          clear h1
          have hoc : odd c = true := by rw [odd, c1, c2, c3]; rfl
          have hfc : fc c = [c] := by rw [fc, if_neg (by simpa using c2)]
          have hoc := Lib.hid hoc
          have hfc := Lib.hid hfc
          have c1 := Lib.hid c1
          have c2 := Lib.hid c2
          have c3 := Lib.hid c3
          have a1 : ((c.toNat : Int) == 44) = true := (u8_k c 44 (by decide)).trans c1.out
          have a2 : ((c.toNat : Int) == 34) = false := (u8_k c 34 (by decide)).trans c2.out
          have a3 : ((c.toNat : Int) == 10) = false := (u8_k c 10 (by decide)).trans c3.out
          go_wp2_with fail
          refine ⟨?_, by first | (simp [intOf]; done) | (simp [intOf]; omega)⟩
          exact ⟨i + 1, _, by go_num, by rw [hany.out, ho.out, hoc.out]; rfl, rfl, by omega, Lib.hid (by rw [hfl.out, hfc.out]; simp [ByteArray.data_append, hY.out, hs2.out]), by first | rfl | trivial⟩
        by_cases h2 : c = 34
        · have c1 : (c == 44) = false := by rw [h2]; rfl
          have c2 : (c == 34) = true := by rw [h2]; rfl
          have c3 : (c == 10) = false := by rw [h2]; rfl
          clear h1 h2
          have hoc : odd c = true := by rw [odd, c1, c2, c3]; rfl
          have hfc : fc c = [34, c] := by rw [fc, if_pos (by simpa using c2), show c = 34 by simpa using c2]
          have hoc := Lib.hid hoc
          have hfc := Lib.hid hfc
          have c1 := Lib.hid c1
          have c2 := Lib.hid c2
          have c3 := Lib.hid c3
          have a1 : ((c.toNat : Int) == 44) = false := (u8_k c 44 (by decide)).trans c1.out
          have a2 : ((c.toNat : Int) == 34) = true := (u8_k c 34 (by decide)).trans c2.out
          have a3 : ((c.toNat : Int) == 10) = false := (u8_k c 10 (by decide)).trans c3.out
          go_wp2_with fail
          refine ⟨?_, by first | (simp [intOf]; done) | (simp [intOf]; omega)⟩
          exact ⟨i + 1, _, by go_num, by rw [hany.out, ho.out, hoc.out]; rfl, rfl, by omega, Lib.hid (by rw [hfl.out, hfc.out]; simp [ByteArray.data_append, hY.out, hs2.out]), by first | rfl | trivial⟩
        by_cases h3 : c = 10
        · have c1 : (c == 44) = false := by rw [h3]; rfl
          have c2 : (c == 34) = false := by rw [h3]; rfl
          have c3 : (c == 10) = true := by rw [h3]; rfl
          clear h1 h2 h3
          have hoc : odd c = true := by rw [odd, c1, c2, c3]; rfl
          have hfc : fc c = [c] := by rw [fc, if_neg (by simpa using c2)]
          have hoc := Lib.hid hoc
          have hfc := Lib.hid hfc
          have c1 := Lib.hid c1
          have c2 := Lib.hid c2
          have c3 := Lib.hid c3
          have a1 : ((c.toNat : Int) == 44) = false := (u8_k c 44 (by decide)).trans c1.out
          have a2 : ((c.toNat : Int) == 34) = false := (u8_k c 34 (by decide)).trans c2.out
          have a3 : ((c.toNat : Int) == 10) = true := (u8_k c 10 (by decide)).trans c3.out
          go_wp2_with fail
          refine ⟨?_, by first | (simp [intOf]; done) | (simp [intOf]; omega)⟩
          exact ⟨i + 1, _, by go_num, by rw [hany.out, ho.out, hoc.out]; rfl, rfl, by omega, Lib.hid (by rw [hfl.out, hfc.out]; simp [ByteArray.data_append, hY.out, hs2.out]), by first | rfl | trivial⟩
        have c1 : (c == 44) = false := beq_eq_false_iff_ne.2 h1
        have c2 : (c == 34) = false := beq_eq_false_iff_ne.2 h2
        have c3 : (c == 10) = false := beq_eq_false_iff_ne.2 h3
        clear h1 h2 h3
        have hoc : odd c = false := by rw [odd, c1, c2, c3]; rfl
        have hfc : fc c = [c] := by rw [fc, if_neg (by simpa using c2)]
        have hoc := Lib.hid hoc
        have hfc := Lib.hid hfc
        have c1 := Lib.hid c1
        have c2 := Lib.hid c2
        have c3 := Lib.hid c3
        have a1 : ((c.toNat : Int) == 44) = false := (u8_k c 44 (by decide)).trans c1.out
        have a2 : ((c.toNat : Int) == 34) = false := (u8_k c 34 (by decide)).trans c2.out
        have a3 : ((c.toNat : Int) == 10) = false := (u8_k c 10 (by decide)).trans c3.out
        go_wp2_with fail
        refine ⟨?_, by first | (simp [intOf]; done) | (simp [intOf]; omega)⟩
        exact ⟨i + 1, _, by go_num, by rw [hany.out, ho.out, hoc.out]; rfl, rfl, by omega, Lib.hid (by rw [hfl.out, hfc.out]; simp [ByteArray.data_append, hY.out, hs2.out]), by first | rfl | trivial⟩
      · by_cases h1 : c = 44
        · have c1 : (c == 44) = true := by rw [h1]; rfl
          have c2 : (c == 34) = false := by rw [h1]; rfl
          have c3 : (c == 10) = false := by rw [h1]; rfl
          clear h1
          have hoc : odd c = true := by rw [odd, c1, c2, c3]; rfl
          have hfc : fc c = [c] := by rw [fc, if_neg (by simpa using c2)]
          have hoc := Lib.hid hoc
          have hfc := Lib.hid hfc
          have c1 := Lib.hid c1
          have c2 := Lib.hid c2
          have c3 := Lib.hid c3
          have a1 : ((c.toNat : Int) == 44) = true := (u8_k c 44 (by decide)).trans c1.out
          have a2 : ((c.toNat : Int) == 34) = false := (u8_k c 34 (by decide)).trans c2.out
          have a3 : ((c.toNat : Int) == 10) = false := (u8_k c 10 (by decide)).trans c3.out
          go_wp2_with fail
          refine ⟨?_, by first | (simp [intOf]; done) | (simp [intOf]; omega)⟩
          exact ⟨i + 1, _, by go_num, by rw [hany.out, ho.out, hoc.out]; rfl, rfl, by omega, Lib.hid (by rw [hfl.out, hfc.out]; simp [ByteArray.data_append, hY.out, hs2.out]), by first | rfl | trivial⟩
        by_cases h2 : c = 34
        · have c1 : (c == 44) = false := by rw [h2]; rfl
          have c2 : (c == 34) = true := by rw [h2]; rfl
          have c3 : (c == 10) = false := by rw [h2]; rfl
          clear h1 h2
          have hoc : odd c = true := by rw [odd, c1, c2, c3]; rfl
          have hfc : fc c = [34, c] := by rw [fc, if_pos (by simpa using c2), show c = 34 by simpa using c2]
          have hoc := Lib.hid hoc
          have hfc := Lib.hid hfc
          have c1 := Lib.hid c1
          have c2 := Lib.hid c2
          have c3 := Lib.hid c3
          have a1 : ((c.toNat : Int) == 44) = false := (u8_k c 44 (by decide)).trans c1.out
          have a2 : ((c.toNat : Int) == 34) = true := (u8_k c 34 (by decide)).trans c2.out
          have a3 : ((c.toNat : Int) == 10) = false := (u8_k c 10 (by decide)).trans c3.out
          go_wp2_with fail
          refine ⟨?_, by first | (simp [intOf]; done) | (simp [intOf]; omega)⟩
          exact ⟨i + 1, _, by go_num, by rw [hany.out, ho.out, hoc.out]; rfl, rfl, by omega, Lib.hid (by rw [hfl.out, hfc.out]; simp [ByteArray.data_append, hY.out, hs2.out]), by first | rfl | trivial⟩
        by_cases h3 : c = 10
        · have c1 : (c == 44) = false := by rw [h3]; rfl
          have c2 : (c == 34) = false := by rw [h3]; rfl
          have c3 : (c == 10) = true := by rw [h3]; rfl
          clear h1 h2 h3
          have hoc : odd c = true := by rw [odd, c1, c2, c3]; rfl
          have hfc : fc c = [c] := by rw [fc, if_neg (by simpa using c2)]
          have hoc := Lib.hid hoc
          have hfc := Lib.hid hfc
          have c1 := Lib.hid c1
          have c2 := Lib.hid c2
          have c3 := Lib.hid c3
          have a1 : ((c.toNat : Int) == 44) = false := (u8_k c 44 (by decide)).trans c1.out
          have a2 : ((c.toNat : Int) == 34) = false := (u8_k c 34 (by decide)).trans c2.out
          have a3 : ((c.toNat : Int) == 10) = true := (u8_k c 10 (by decide)).trans c3.out
          go_wp2_with fail
          refine ⟨?_, by first | (simp [intOf]; done) | (simp [intOf]; omega)⟩
          exact ⟨i + 1, _, by go_num, by rw [hany.out, ho.out, hoc.out]; rfl, rfl, by omega, Lib.hid (by rw [hfl.out, hfc.out]; simp [ByteArray.data_append, hY.out, hs2.out]), by first | rfl | trivial⟩
        have c1 : (c == 44) = false := beq_eq_false_iff_ne.2 h1
        have c2 : (c == 34) = false := beq_eq_false_iff_ne.2 h2
        have c3 : (c == 10) = false := beq_eq_false_iff_ne.2 h3
        clear h1 h2 h3
        have hoc : odd c = false := by rw [odd, c1, c2, c3]; rfl
        have hfc : fc c = [c] := by rw [fc, if_neg (by simpa using c2)]
        have hoc := Lib.hid hoc
        have hfc := Lib.hid hfc
        have c1 := Lib.hid c1
        have c2 := Lib.hid c2
        have c3 := Lib.hid c3
        have a1 : ((c.toNat : Int) == 44) = false := (u8_k c 44 (by decide)).trans c1.out
        have a2 : ((c.toNat : Int) == 34) = false := (u8_k c 34 (by decide)).trans c2.out
        have a3 : ((c.toNat : Int) == 10) = false := (u8_k c 10 (by decide)).trans c3.out
        go_wp2_with fail
        refine ⟨?_, by first | (simp [intOf]; done) | (simp [intOf]; omega)⟩
        exact ⟨i + 1, _, by go_num, by rw [hany.out, ho.out, hoc.out]; rfl, rfl, by omega, Lib.hid (by rw [hfl.out, hfc.out]; simp [ByteArray.data_append, hY.out, hs2.out]), by first | rfl | trivial⟩
    · obtain rfl : i = s.size := by omega
      rw [ho.out] at hV
      rw [ho.out]
      have n1 : ¬ 9223372036854775807 < Y.size + 1 := by omega
      cases o
      · go_wp2_with fail
        go_ret
        exact ⟨ret_string (ext_data (by rw [hV.out]; rfl)), by first | rfl | trivial⟩
      · go_wp2_with fail
        go_ret
        exact ⟨ret_string (ext_data (by rw [hV.out]; simp [ByteArray.data_append, hY.out])), by first | rfl | trivial⟩
end Go.Proofs.YtjfonckmfafdgaaDoor
namespace Go.Proofs.YtjfonckmfafdgaaDoor
open Go.RowKit
theorem refCell_any (s : ByteArray) (w : World) (hs : s.size ≤ 100000) :
    Calls Tryd.prog 41 #[.string s] w fun e w' => e = .returned (.string ⟨(fieldL s.data.toList).toArray⟩) ∧ w.grownBy w' none :=
  (cell_any s w hs).mono fun _ w' hh => ⟨hh.1, by rw [hh.2]; exact G.refl w none⟩
theorem clockB_size (t : Int) : (clockB (capT t)).size = 19 := by
  unfold clockB
  rw [Lib.size_mk]
  exact clockL_len t
set_option maxHeartbeats 16000000 in
set_option maxRecDepth 100000 in
theorem refCSV_any (L : List SerP) (v : Value) (w : World) (h : SerRow w v L) (hF : Few (sersOf L)) :
    Calls Tryd.prog 21 #[v] w fun e w' => e = .returned (.string ⟨(csvP (sersOf L) L.length).toArray⟩) ∧ w.grownBy w' none := by
  have HA := Lib.hid h.2
  have HF := Lib.hid hF
  have hn := hF.n
  rw [sersOf_len] at hn
  have HG := G.refl w none
  obtain ⟨A, c, rfl, q1, q2, q3⟩ := h.1
  have Q3 := Lib.hid q3; clear q3 h hF
  obtain ⟨V, hV⟩ : ∃ V, Hid ((csvP (sersOf L) L.length) = V) := ⟨_, Lib.hid rfl⟩
  rw [hV.out]
  go_enter Tryd.func21, Tryd.ntmps21
  go_wp2_with fail
  go_loopw [3, 4, 5, 6] (fun sv iv _ _ wr => ∃ (i : Nat) (X : ByteArray), iv = .int .i64 i ∧ sv = .string X ∧ i ≤ L.length ∧ Hid (X.data.toList = csvP (sersOf L) i) ∧ w.grownBy wr none) (fun _ iv _ _ _ => L.length - (intOf iv).toNat)
  case atStart => exact ⟨0, _, rfl, rfl, by omega, Lib.hid (by first | rfl | (simp [csvP, joinP]; done)), HG⟩
  case round =>
    clear HG
    obtain ⟨i, X, rfl, rfl, hi, hX, HG⟩ := hrel
    rename World => wo
    have hXs : X.size ≤ 2000000 := by rw [← size_list', hX.out]; exact HF.out.csvP_len (by rw [sersOf_len]; exact hi)
    by_cases hlt : i < L.length
    · obtain ⟨b, o, rfl, hbl, hc⟩ := Q3.out (by omega)
      have hI := HF.out.at (k := i) (by rw [sersOf_len]; exact hlt)
      rw [sersOf_at hlt] at hI
      have hrow := HA.out L[i] (List.getElem_mem hlt)
      have hstep : Hid (csvP (sersOf L) (i + 1) = csvP (sersOf L) i ++ csvS L[i].1) := Lib.hid (csvP_step hlt)
      have HC := Lib.hid (fun (W : World) (hg : w.grownBy W none) => serCells hc hg hbl hlt)
      generalize csvP (sersOf L) i = T at *
      generalize L[i] = p at *
      obtain ⟨S, A2, c2⟩ := p
      simp only [slV] at HC hrow
      dsimp only at HC hrow hI hstep
      have hb0 := hI.a0; have hb1 := hI.a1; have hb2 := hI.b0; have hb3 := hI.b1; have hb4 := hI.l; have hb5 := hI.n
      obtain ⟨A3, c3, e3, r1, r2, r3⟩ := hrow
      cases e3
      have R3 := Lib.hid r3
      have HI := Lib.hid hI
      clear r3 hI hc HF HA
      obtain ⟨x0, x1, x2, x3, x4⟩ := HC.out wo HG
      have hRs : Hid (csvS S = csvV S S.vals.length) := Lib.hid rfl
      have hRl := Lib.hid (fun k hk => HI.out.csvV_len (k := k) hk)
      have hQ := Lib.hid (fun w => refCell_any S.name w (by omega))
      have hT := Lib.hid (fun k (hk : k ≤ 120) => HI.out.time hk)
      have hPt : Hid (∀ k, csvPt S k = fieldL S.name.data.toList ++ (44 :: (clockL (capT (timeS S k)) ++ (44 :: (prN [] (atW S.vals k) ++ [10]))))) := Lib.hid (fun _ => rfl)
      have hql := fieldL_len S.name.data.toList
      rw [size_list'] at hql
      generalize fieldL S.name.data.toList = Q at *
      have hqs : (⟨Q.toArray⟩ : ByteArray).size ≤ 2000 := by rw [Lib.size_mk]; omega
      have hqd : Hid ((⟨Q.toArray⟩ : ByteArray).data.toList = Q) := Lib.hid rfl
      generalize (⟨Q.toArray⟩ : ByteArray) = QB at *
      clear hql
      go_wp2_with fail
      go_loopw [3, 5, 6] (fun sv kv _ ws => ∃ (k : Nat) (Y : ByteArray), kv = .int .i64 k ∧ sv = .string Y ∧ k ≤ S.vals.length ∧ Hid (Y.data.toList = T ++ csvV S k) ∧ w.grownBy ws none) (fun _ kv _ _ => S.vals.length - (intOf kv).toNat)
      case atStart => exact ⟨0, _, rfl, rfl, by omega, Lib.hid (by simp [hX.out, csvV, joinP]), HG⟩
      case round =>
        clear HG x0 x1 x2 x3 x4
        obtain ⟨k, Y, rfl, rfl, hk, hY, HG⟩ := hrel
        rename World => wi
        obtain ⟨x0, x1, x2, x3, x4⟩ := HC.out wi HG
        have hrl := hRl.out k hk
        have hXl : T.length = X.size := by rw [← hX.out, size_list']
        have hYs : Y.size ≤ 2500000 := by rw [← size_list', hY.out]; simp only [List.length_append]; omega
        by_cases hkl : k < S.vals.length
        · obtain ⟨b2, o2, rfl, hb2, hc2⟩ := R3.out (by omega)
          obtain ⟨y0, y1⟩ := valCells hc2 HG hb2 hkl
          have hst : Hid (csvV S (k + 1) = csvV S k ++ csvPt S k) := Lib.hid csvV_step
          have hvb := isR_bound (all_at HI.out.v k hkl)
          have HPr := Lib.hid (fun w => refPrint_any S.vals[k].1 S.vals[k].2 w hvb.1 hvb.2)
          have hzz := printV_size S.vals[k].1 S.vals[k].2
          have hT2 := hT.out k (by omega)
          have hjp : Hid (csvPt S k = Q ++ (44 :: (clockL (capT (timeS S k)) ++ (44 :: (prN [] S.vals[k] ++ [10]))))) := Lib.hid (by rw [hPt.out, atW_lt hkl])
          have hpn : Hid (prN [] S.vals[k] = if (printV S.vals[k].1 S.vals[k].2).data.toList = [78, 111, 110, 101] then [] else (printV S.vals[k].1 S.vals[k].2).data.toList) := Lib.hid rfl
          have htm : S.start + (k : Int) * S.step = timeS S k := rfl
          clear hc2 hvb
          generalize csvPt S k = JP at *
          generalize timeS S k = TM at *
          generalize hMe : (k : Int) * S.step = MM at *
          have w1 : IntKind.i64.wrap MM = MM := by rw [IntKind.wrap_i64]; omega
          have w2 : IntKind.i64.wrap TM = TM := by rw [IntKind.wrap_i64]; omega
          have zc := Nat.le_of_eq (clockB_size TM)
          have zd : Hid ((clockB (capT TM)).data.toList = clockL (capT TM)) := Lib.hid rfl
          have HK := Lib.hid (fun w => clock_ref TM w (by omega) (by omega))
          generalize clockL (capT TM) = CL at *
          generalize clockB (capT TM) = CB at *
          generalize prN [] S.vals[k] = ZN at *
          generalize printV S.vals[k].1 S.vals[k].2 = Z at *
          generalize S.vals[k].1 = vb at *
          generalize S.vals[k].2 = vn at *
          by_cases hzn : Z.data.toList = [78, 111, 110, 101]
          · have hzl : (Z.toList == [78, 111, 110, 101]) = true := by rw [list_is]; simpa using hzn
            have hzn := Lib.hid hzn
            rw [if_pos hzn.out] at hpn
            have q0 := fun x : GrowW w => (HC.out x.1 x.2).1
            have q1 := fun x : GrowW w => (HC.out x.1 x.2).2.1
            have q2 := fun x : GrowW w => (HC.out x.1 x.2).2.2.1
            have q3 := fun x : GrowW w => (HC.out x.1 x.2).2.2.2.1
            have q4 := fun x : GrowW w => (HC.out x.1 x.2).2.2.2.2
            have n0 : ¬ 9223372036854775807 < Y.size + QB.size := (by omega); have n1 : ¬ 9223372036854775807 < Y.size + QB.size + 1 := (by omega); have n2 : ¬ 9223372036854775807 < Y.size + QB.size + 1 + CB.size := (by omega); have n3 : ¬ 9223372036854775807 < Y.size + QB.size + 1 + CB.size + 1 := (by omega); have n4 : ¬ 9223372036854775807 < Y.size + QB.size + 1 + CB.size + 1 + 0 := (by omega); have n5 : ¬ 9223372036854775807 < Y.size + QB.size + 1 + CB.size + 1 + 0 + 1 := (by omega)
            have m0 : ¬ 9223372036854775807 < Y.size + QB.size + 1 + CB.size + 1 + 1 := by omega
            go_wp2_with (go_at_call 30; (with_reducible refine (HPr.out _).mono ?_); rintro e wn ⟨rfl, hgn⟩; replace HG := G.trans (w := w) (by exact G.go HG) hgn; clear x0 x1 x2 x3 x4; obtain ⟨x0, x1, x2, x3, x4⟩ := HC.out _ HG; clear hgn)
            (refine wp_region_grow (w0 := w) (by exact G.go HG) (by kernel_rfl) (by kernel_rfl) ?_; (repeat (refine wpQuiet_step (fun K hK => ?_); go_simp; first | (refine hK _ ?_; clear hK K) | (apply Exists.intro; refine ⟨fun xq => ?_, hK _ ?_⟩; (focus (first | (go_at_call 41; exact grow_of (hQ.out _)) | (go_at_call 42; exact grow_of (HK.out _)))); clear hK K))); refine wpQuiet_nil ?_; clear HG; intro wn HG)
            clear q0 q1 q2 q3 q4
            go_wp2_with fail
            refine ⟨?_, by first | (simp [intOf]; done) | (simp [intOf]; omega)⟩
            exact ⟨k + 1, _, by go_num, rfl, by omega, Lib.hid (by rw [hst.out, hjp.out, hpn.out]; simp [ByteArray.data_append, hY.out, hqd.out, zd.out]), HG⟩
          · have hzl : (Z.toList == [78, 111, 110, 101]) = false := by rw [list_is]; simpa using hzn
            have hzn := Lib.hid hzn
            rw [if_neg hzn.out] at hpn
            have q0 := fun x : GrowW w => (HC.out x.1 x.2).1
            have q1 := fun x : GrowW w => (HC.out x.1 x.2).2.1
            have q2 := fun x : GrowW w => (HC.out x.1 x.2).2.2.1
            have q3 := fun x : GrowW w => (HC.out x.1 x.2).2.2.2.1
            have q4 := fun x : GrowW w => (HC.out x.1 x.2).2.2.2.2
            have n0 : ¬ 9223372036854775807 < Y.size + QB.size := (by omega); have n1 : ¬ 9223372036854775807 < Y.size + QB.size + 1 := (by omega); have n2 : ¬ 9223372036854775807 < Y.size + QB.size + 1 + CB.size := (by omega); have n3 : ¬ 9223372036854775807 < Y.size + QB.size + 1 + CB.size + 1 := (by omega); have n4 : ¬ 9223372036854775807 < Y.size + QB.size + 1 + CB.size + 1 + Z.size := (by omega); have n5 : ¬ 9223372036854775807 < Y.size + QB.size + 1 + CB.size + 1 + Z.size + 1 := (by omega)
            go_wp2_with (go_at_call 30; (with_reducible refine (HPr.out _).mono ?_); rintro e wn ⟨rfl, hgn⟩; replace HG := G.trans (w := w) (by exact G.go HG) hgn; clear x0 x1 x2 x3 x4; obtain ⟨x0, x1, x2, x3, x4⟩ := HC.out _ HG; clear hgn)
            (refine wp_region_grow (w0 := w) (by exact G.go HG) (by kernel_rfl) (by kernel_rfl) ?_; (repeat (refine wpQuiet_step (fun K hK => ?_); go_simp; first | (refine hK _ ?_; clear hK K) | (apply Exists.intro; refine ⟨fun xq => ?_, hK _ ?_⟩; (focus (first | (go_at_call 41; exact grow_of (hQ.out _)) | (go_at_call 42; exact grow_of (HK.out _)))); clear hK K))); refine wpQuiet_nil ?_; clear HG; intro wn HG)
            clear q0 q1 q2 q3 q4
            go_wp2_with fail
            refine ⟨?_, by first | (simp [intOf]; done) | (simp [intOf]; omega)⟩
            exact ⟨k + 1, _, by go_num, rfl, by omega, Lib.hid (by rw [hst.out, hjp.out, hpn.out]; simp [ByteArray.data_append, hY.out, hqd.out, zd.out]), HG⟩
        · obtain rfl : k = S.vals.length := by omega
          go_wp2_with fail
          refine ⟨?_, by first | (simp [intOf]; done) | (simp [intOf]; omega)⟩
          exact ⟨i + 1, _, by go_num, rfl, by omega, Lib.hid (by rw [hstep.out, hRs.out, hY.out]), HG⟩
    · obtain rfl : i = L.length := by omega
      go_wp2_with fail
      go_ret
      exact ⟨ret_string (ext_data (by rw [hX.out, ← hV.out])), HG⟩
end Go.Proofs.YtjfonckmfafdgaaDoor
