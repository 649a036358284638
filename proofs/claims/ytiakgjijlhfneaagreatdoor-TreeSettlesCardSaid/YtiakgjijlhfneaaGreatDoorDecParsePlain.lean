/-
  The walk of dec.Parse: one of four ways in (by the sign ahead).
-/
import Derived.Test.YtiakgjijlhfneaaGreatDoorDecParseAid
namespace Go.Proofs.YtiakgjijlhfneaaGreatDoor
open Go.RowKit

set_option maxHeartbeats 8000000 in
set_option maxRecDepth 100000 in
theorem parse_plain (s : ByteArray) (w : World) (hs : s.size ≤ 1000) (he : s.toList.isEmpty = false) (h0 : 0 < s.size) (h1 : ¬ (s[0].toNat : Int) = 45) (h2 : ((s[0].toNat : Int) == 43) = false) :
    Calls Tryz.prog 54 #[.string s] w (parsePost w (1) (readR (cutA (s) 46).data.toList (cutB (s) 46).data.toList (cutD (s) 46))) := by
  have HC := Lib.hid (fun w => cut_any (s) 46 w (by omega))
  obtain ⟨lA, lB, lD⟩ := cut_sizes (s) 46
  generalize cutA (s) 46 = A at *
  generalize cutB (s) 46 = B at *
  generalize cutD (s) 46 = D at *
  have HA := Lib.hid (fun w => areDigits_any A w (by omega))
  have HB := Lib.hid (fun w => areDigits_any B w (by omega))
  unfold readR
  rw [allAt_zero, pos_list] at HA HB
  obtain ⟨okA, hA⟩ : ∃ okA, (A.data.toList.all isD && !A.data.toList.isEmpty) = okA := ⟨_, rfl⟩
  obtain ⟨okB, hB⟩ : ∃ okB, (B.data.toList.all isD && !B.data.toList.isEmpty) = okB := ⟨_, rfl⟩
  rw [hA] at HA ⊢
  rw [hB] at HB ⊢
  have hA' := Lib.hid hA; clear hA
  have hB' := Lib.hid hB; clear hB
  have lD' := Lib.hid lD; clear lD
  cases okA
  · simp only [Bool.false_and, Bool.false_eq_true, if_false]
    go_enter Tryz.func54, Tryz.ntmps54
    go_wp2_with (first | (go_at_call 71; (with_reducible refine (HC.out _).mono ?_); rintro e w1 ⟨rfl, hg1⟩; have hx := Hx.kept (Hx.new w #[.bool false, .int .i64 0] 76) hg1 (by simp); have hgw := G.trans (G.alloc (G.refl w none) _) hg1; have x0 := hx.cell 0; have x1 := hx.cell 1; have x2 := hx.free 0; have x3 := hx.free 1; have x4 := hx.lt) | (go_at_call 72; (with_reducible refine (HA.out _).mono ?_); rintro e w2 ⟨rfl, rfl⟩))
    refine ret_cell_tmp ([.bool false, .int .i64 0]) w.heap.size 76 rfl rfl (Tryz.isAgg76 _) (Tryz.sizeOf76 _) rfl ?_ ?_
    · exact (by first | exact Hx.go hx | exact Hx.go2)
    · exact pp_intro (rfl) (by exact G.go hgw)
  cases D
  · simp only [Bool.not_false, Bool.true_or, Bool.and_true, if_true]
    have hE := Lib.hid (lD'.out rfl)
    have dA : A.data.toList.all isD = true := by have := hA'.out; simp only [Bool.and_eq_true] at this; exact this.1
    have dB : B.data.toList.all isD = true := by rw [hE.out]; rfl
    by_cases h6 : 6 < B.size
    · have hP : (B.extract 0 6).size = 6 := by rw [ByteArray.size_extract]; omega
      have HN0 := num_calls (B := B.extract 0 6) dA (part_digits dB) (by omega) (by omega)
      rw [part_pad, num_tot] at HN0
      have HR := Lib.hid (repeat_at (k := 6 - (B.extract 0 6).size) (x := 0) (by omega) (by omega))
      by_cases hu : (53 : Int) ≤ (B[6].toNat : Int)
      · rw [tot_add, upV_one h6 hu]
        generalize totV A.data.toList B.data.toList = V at *
        clear dA dB
        by_cases ht : V + 1 ≤ topN
        · rw [if_pos (show V ≤ topN by omega)] at HN0
          rw [if_pos ht]
          simp only [numV] at HN0
          have HN := Lib.hid HN0; clear HN0
          have ht' : (V : Int) ≤ 4611686018427387903 := by unfold topN at ht; omega
          clear ht
          have HO := Lib.hid (fun w => of_num ((V : Int) + 1 : Int) w (by omega) (by omega))
          go_enter Tryz.func54, Tryz.ntmps54
          go_wp2_with (first | (go_at_call 71; (with_reducible refine (HC.out _).mono ?_); rintro e w1 ⟨rfl, hg1⟩; have hx := Hx.kept (Hx.new w #[.bool false, .int .i64 0] 76) hg1 (by simp); have hgw := G.trans (G.alloc (G.refl w none) _) hg1; have x0 := hx.cell 0; have x1 := hx.cell 1; have x2 := hx.free 0; have x3 := hx.free 1; have x4 := hx.lt) | (go_at_call 72; (with_reducible refine (HA.out _).mono ?_); rintro e w2 ⟨rfl, rfl⟩) | (go_at_call 72; (with_reducible refine (HB.out _).mono ?_); rintro e w3 ⟨rfl, rfl⟩) | (go_at_call 74; (with_reducible refine (HR.out _).mono ?_); rintro e w4 ⟨Z, rfl, hZ, sZ, hb4⟩; have hx4 := Hx.kept hx hb4 (by simp); have hgw4 := G.trans hgw hb4; have z0 := hx4.cell 0; have z1 := hx4.cell 1; have z2 := hx4.free 0; have z3 := hx4.free 1) | (go_at_call 73; refine (HN.out _ hZ _).mono ?_; rintro e w5 ⟨rfl, rfl⟩) | (go_at_call 46; (with_reducible refine (HO.out _).mono ?_); rintro e w6 ⟨rfl, hg6⟩; have hx6 := Hx.kept hx4 hg6 (by simp); have hgw6 := G.trans hgw4 hg6; have u0 := hx6.cell 0; have u1 := hx6.cell 1; have u2 := hx6.free 0; have u3 := hx6.free 1))
          refine ret_cell_tmp ([.bool true, .int .i64 ((V : Int) + 1 : Int)]) w.heap.size 76 rfl rfl (Tryz.isAgg76 _) (Tryz.sizeOf76 _) rfl ?_ ?_
          · exact (by first | exact Hx.go hx6 | exact Hx.go2)
          · exact pp_intro (by simp [valV, valC]) (by exact G.go hgw6)
        · rw [if_neg ht]
          by_cases ht2 : V ≤ topN
          · rw [if_pos ht2] at HN0
            simp only [numV] at HN0
            have HN := Lib.hid HN0; clear HN0
            have ht' : 4611686018427387903 < (V : Int) := by unfold topN at ht; omega
            have ht3 : (V : Int) ≤ 4611686018427387904 := by unfold topN at ht2; omega
            clear ht ht2
            go_enter Tryz.func54, Tryz.ntmps54
            go_wp2_with (first | (go_at_call 71; (with_reducible refine (HC.out _).mono ?_); rintro e w1 ⟨rfl, hg1⟩; have hx := Hx.kept (Hx.new w #[.bool false, .int .i64 0] 76) hg1 (by simp); have hgw := G.trans (G.alloc (G.refl w none) _) hg1; have x0 := hx.cell 0; have x1 := hx.cell 1; have x2 := hx.free 0; have x3 := hx.free 1; have x4 := hx.lt) | (go_at_call 72; (with_reducible refine (HA.out _).mono ?_); rintro e w2 ⟨rfl, rfl⟩) | (go_at_call 72; (with_reducible refine (HB.out _).mono ?_); rintro e w3 ⟨rfl, rfl⟩) | (go_at_call 74; (with_reducible refine (HR.out _).mono ?_); rintro e w4 ⟨Z, rfl, hZ, sZ, hb4⟩; have hx4 := Hx.kept hx hb4 (by simp); have hgw4 := G.trans hgw hb4; have z0 := hx4.cell 0; have z1 := hx4.cell 1; have z2 := hx4.free 0; have z3 := hx4.free 1) | (go_at_call 73; refine (HN.out _ hZ _).mono ?_; rintro e w5 ⟨rfl, rfl⟩) | (go_at_call 46; (with_reducible refine (HO.out _).mono ?_); rintro e w6 ⟨rfl, hg6⟩; have hx6 := Hx.kept hx4 hg6 (by simp); have hgw6 := G.trans hgw4 hg6; have u0 := hx6.cell 0; have u1 := hx6.cell 1; have u2 := hx6.free 0; have u3 := hx6.free 1))
            refine ret_cell_tmp ([.bool false, .int .i64 0]) w.heap.size 76 rfl rfl (Tryz.isAgg76 _) (Tryz.sizeOf76 _) rfl ?_ ?_
            · exact (by first | exact Hx.go hx4 | exact Hx.go2)
            · exact pp_intro (rfl) (by exact G.go hgw4)
          · rw [if_neg ht2] at HN0
            simp only [numV] at HN0
            have HN := Lib.hid HN0; clear HN0
            go_enter Tryz.func54, Tryz.ntmps54
            go_wp2_with (first | (go_at_call 71; (with_reducible refine (HC.out _).mono ?_); rintro e w1 ⟨rfl, hg1⟩; have hx := Hx.kept (Hx.new w #[.bool false, .int .i64 0] 76) hg1 (by simp); have hgw := G.trans (G.alloc (G.refl w none) _) hg1; have x0 := hx.cell 0; have x1 := hx.cell 1; have x2 := hx.free 0; have x3 := hx.free 1; have x4 := hx.lt) | (go_at_call 72; (with_reducible refine (HA.out _).mono ?_); rintro e w2 ⟨rfl, rfl⟩) | (go_at_call 72; (with_reducible refine (HB.out _).mono ?_); rintro e w3 ⟨rfl, rfl⟩) | (go_at_call 74; (with_reducible refine (HR.out _).mono ?_); rintro e w4 ⟨Z, rfl, hZ, sZ, hb4⟩; have hx4 := Hx.kept hx hb4 (by simp); have hgw4 := G.trans hgw hb4; have z0 := hx4.cell 0; have z1 := hx4.cell 1; have z2 := hx4.free 0; have z3 := hx4.free 1) | (go_at_call 73; refine (HN.out _ hZ _).mono ?_; rintro e w5 ⟨rfl, rfl⟩) | (go_at_call 46; (with_reducible refine (HO.out _).mono ?_); rintro e w6 ⟨rfl, hg6⟩; have hx6 := Hx.kept hx4 hg6 (by simp); have hgw6 := G.trans hgw4 hg6; have u0 := hx6.cell 0; have u1 := hx6.cell 1; have u2 := hx6.free 0; have u3 := hx6.free 1))
            refine ret_cell_tmp ([.bool false, .int .i64 0]) w.heap.size 76 rfl rfl (Tryz.isAgg76 _) (Tryz.sizeOf76 _) rfl ?_ ?_
            · exact (by first | exact Hx.go hx4 | exact Hx.go2)
            · exact pp_intro (rfl) (by exact G.go hgw4)
      · rw [tot_add, upV_none h6 hu, Nat.add_zero]
        generalize totV A.data.toList B.data.toList = V at *
        clear dA dB
        by_cases ht : V ≤ topN
        · rw [if_pos (show V ≤ topN by omega)] at HN0
          rw [if_pos ht]
          simp only [numV] at HN0
          have HN := Lib.hid HN0; clear HN0
          have ht' : (V : Int) ≤ 4611686018427387904 := by unfold topN at ht; omega
          clear ht
          have HO := Lib.hid (fun w => of_num (V : Int) w (by omega) (by omega))
          go_enter Tryz.func54, Tryz.ntmps54
          go_wp2_with (first | (go_at_call 71; (with_reducible refine (HC.out _).mono ?_); rintro e w1 ⟨rfl, hg1⟩; have hx := Hx.kept (Hx.new w #[.bool false, .int .i64 0] 76) hg1 (by simp); have hgw := G.trans (G.alloc (G.refl w none) _) hg1; have x0 := hx.cell 0; have x1 := hx.cell 1; have x2 := hx.free 0; have x3 := hx.free 1; have x4 := hx.lt) | (go_at_call 72; (with_reducible refine (HA.out _).mono ?_); rintro e w2 ⟨rfl, rfl⟩) | (go_at_call 72; (with_reducible refine (HB.out _).mono ?_); rintro e w3 ⟨rfl, rfl⟩) | (go_at_call 74; (with_reducible refine (HR.out _).mono ?_); rintro e w4 ⟨Z, rfl, hZ, sZ, hb4⟩; have hx4 := Hx.kept hx hb4 (by simp); have hgw4 := G.trans hgw hb4; have z0 := hx4.cell 0; have z1 := hx4.cell 1; have z2 := hx4.free 0; have z3 := hx4.free 1) | (go_at_call 73; refine (HN.out _ hZ _).mono ?_; rintro e w5 ⟨rfl, rfl⟩) | (go_at_call 46; (with_reducible refine (HO.out _).mono ?_); rintro e w6 ⟨rfl, hg6⟩; have hx6 := Hx.kept hx4 hg6 (by simp); have hgw6 := G.trans hgw4 hg6; have u0 := hx6.cell 0; have u1 := hx6.cell 1; have u2 := hx6.free 0; have u3 := hx6.free 1))
          refine ret_cell_tmp ([.bool true, .int .i64 (V : Int)]) w.heap.size 76 rfl rfl (Tryz.isAgg76 _) (Tryz.sizeOf76 _) rfl ?_ ?_
          · exact (by first | exact Hx.go hx6 | exact Hx.go2)
          · exact pp_intro (by simp [valV, valC]) (by exact G.go hgw6)
        · rw [if_neg ht]
          rw [if_neg ht] at HN0
          simp only [numV] at HN0
          have HN := Lib.hid HN0; clear HN0
          go_enter Tryz.func54, Tryz.ntmps54
          go_wp2_with (first | (go_at_call 71; (with_reducible refine (HC.out _).mono ?_); rintro e w1 ⟨rfl, hg1⟩; have hx := Hx.kept (Hx.new w #[.bool false, .int .i64 0] 76) hg1 (by simp); have hgw := G.trans (G.alloc (G.refl w none) _) hg1; have x0 := hx.cell 0; have x1 := hx.cell 1; have x2 := hx.free 0; have x3 := hx.free 1; have x4 := hx.lt) | (go_at_call 72; (with_reducible refine (HA.out _).mono ?_); rintro e w2 ⟨rfl, rfl⟩) | (go_at_call 72; (with_reducible refine (HB.out _).mono ?_); rintro e w3 ⟨rfl, rfl⟩) | (go_at_call 74; (with_reducible refine (HR.out _).mono ?_); rintro e w4 ⟨Z, rfl, hZ, sZ, hb4⟩; have hx4 := Hx.kept hx hb4 (by simp); have hgw4 := G.trans hgw hb4; have z0 := hx4.cell 0; have z1 := hx4.cell 1; have z2 := hx4.free 0; have z3 := hx4.free 1) | (go_at_call 73; refine (HN.out _ hZ _).mono ?_; rintro e w5 ⟨rfl, rfl⟩) | (go_at_call 46; (with_reducible refine (HO.out _).mono ?_); rintro e w6 ⟨rfl, hg6⟩; have hx6 := Hx.kept hx4 hg6 (by simp); have hgw6 := G.trans hgw4 hg6; have u0 := hx6.cell 0; have u1 := hx6.cell 1; have u2 := hx6.free 0; have u3 := hx6.free 1))
          refine ret_cell_tmp ([.bool false, .int .i64 0]) w.heap.size 76 rfl rfl (Tryz.isAgg76 _) (Tryz.sizeOf76 _) rfl ?_ ?_
          · exact (by first | exact Hx.go hx4 | exact Hx.go2)
          · exact pp_intro (rfl) (by exact G.go hgw4)
    · have HN0 := num_calls dA dB (by omega) (by omega)
      rw [num_tot] at HN0
      have HR := Lib.hid (repeat_at (k := 6 - B.size) (x := 6 - (B.size : Int)) (by omega) (by omega))
      rw [tot_add, upV_out h6, Nat.add_zero]
      generalize totV A.data.toList B.data.toList = V at *
      clear dA dB
      by_cases ht : V ≤ topN
      · rw [if_pos (show V ≤ topN by omega)] at HN0
        rw [if_pos ht]
        simp only [numV] at HN0
        have HN := Lib.hid HN0; clear HN0
        have ht' : (V : Int) ≤ 4611686018427387904 := by unfold topN at ht; omega
        clear ht
        have HO := Lib.hid (fun w => of_num (V : Int) w (by omega) (by omega))
        go_enter Tryz.func54, Tryz.ntmps54
        go_wp2_with (first | (go_at_call 71; (with_reducible refine (HC.out _).mono ?_); rintro e w1 ⟨rfl, hg1⟩; have hx := Hx.kept (Hx.new w #[.bool false, .int .i64 0] 76) hg1 (by simp); have hgw := G.trans (G.alloc (G.refl w none) _) hg1; have x0 := hx.cell 0; have x1 := hx.cell 1; have x2 := hx.free 0; have x3 := hx.free 1; have x4 := hx.lt) | (go_at_call 72; (with_reducible refine (HA.out _).mono ?_); rintro e w2 ⟨rfl, rfl⟩) | (go_at_call 72; (with_reducible refine (HB.out _).mono ?_); rintro e w3 ⟨rfl, rfl⟩) | (go_at_call 74; (with_reducible refine (HR.out _).mono ?_); rintro e w4 ⟨Z, rfl, hZ, sZ, hb4⟩; have hx4 := Hx.kept hx hb4 (by simp); have hgw4 := G.trans hgw hb4; have z0 := hx4.cell 0; have z1 := hx4.cell 1; have z2 := hx4.free 0; have z3 := hx4.free 1) | (go_at_call 73; refine (HN.out _ hZ _).mono ?_; rintro e w5 ⟨rfl, rfl⟩) | (go_at_call 46; (with_reducible refine (HO.out _).mono ?_); rintro e w6 ⟨rfl, hg6⟩; have hx6 := Hx.kept hx4 hg6 (by simp); have hgw6 := G.trans hgw4 hg6; have u0 := hx6.cell 0; have u1 := hx6.cell 1; have u2 := hx6.free 0; have u3 := hx6.free 1))
        refine ret_cell_tmp ([.bool true, .int .i64 (V : Int)]) w.heap.size 76 rfl rfl (Tryz.isAgg76 _) (Tryz.sizeOf76 _) rfl ?_ ?_
        · exact (by first | exact Hx.go hx6 | exact Hx.go2)
        · exact pp_intro (by simp [valV, valC]) (by exact G.go hgw6)
      · rw [if_neg ht]
        rw [if_neg ht] at HN0
        simp only [numV] at HN0
        have HN := Lib.hid HN0; clear HN0
        go_enter Tryz.func54, Tryz.ntmps54
        go_wp2_with (first | (go_at_call 71; (with_reducible refine (HC.out _).mono ?_); rintro e w1 ⟨rfl, hg1⟩; have hx := Hx.kept (Hx.new w #[.bool false, .int .i64 0] 76) hg1 (by simp); have hgw := G.trans (G.alloc (G.refl w none) _) hg1; have x0 := hx.cell 0; have x1 := hx.cell 1; have x2 := hx.free 0; have x3 := hx.free 1; have x4 := hx.lt) | (go_at_call 72; (with_reducible refine (HA.out _).mono ?_); rintro e w2 ⟨rfl, rfl⟩) | (go_at_call 72; (with_reducible refine (HB.out _).mono ?_); rintro e w3 ⟨rfl, rfl⟩) | (go_at_call 74; (with_reducible refine (HR.out _).mono ?_); rintro e w4 ⟨Z, rfl, hZ, sZ, hb4⟩; have hx4 := Hx.kept hx hb4 (by simp); have hgw4 := G.trans hgw hb4; have z0 := hx4.cell 0; have z1 := hx4.cell 1; have z2 := hx4.free 0; have z3 := hx4.free 1) | (go_at_call 73; refine (HN.out _ hZ _).mono ?_; rintro e w5 ⟨rfl, rfl⟩) | (go_at_call 46; (with_reducible refine (HO.out _).mono ?_); rintro e w6 ⟨rfl, hg6⟩; have hx6 := Hx.kept hx4 hg6 (by simp); have hgw6 := G.trans hgw4 hg6; have u0 := hx6.cell 0; have u1 := hx6.cell 1; have u2 := hx6.free 0; have u3 := hx6.free 1))
        refine ret_cell_tmp ([.bool false, .int .i64 0]) w.heap.size 76 rfl rfl (Tryz.isAgg76 _) (Tryz.sizeOf76 _) rfl ?_ ?_
        · exact (by first | exact Hx.go hx4 | exact Hx.go2)
        · exact pp_intro (rfl) (by exact G.go hgw4)

  · cases okB
    · simp only [Bool.not_true, Bool.or_self, Bool.and_false, Bool.false_eq_true, if_false]
      go_enter Tryz.func54, Tryz.ntmps54
      go_wp2_with (first | (go_at_call 71; (with_reducible refine (HC.out _).mono ?_); rintro e w1 ⟨rfl, hg1⟩; have hx := Hx.kept (Hx.new w #[.bool false, .int .i64 0] 76) hg1 (by simp); have hgw := G.trans (G.alloc (G.refl w none) _) hg1; have x0 := hx.cell 0; have x1 := hx.cell 1; have x2 := hx.free 0; have x3 := hx.free 1; have x4 := hx.lt) | (go_at_call 72; (with_reducible refine (HA.out _).mono ?_); rintro e w2 ⟨rfl, rfl⟩) | (go_at_call 72; (with_reducible refine (HB.out _).mono ?_); rintro e w3 ⟨rfl, rfl⟩))
      refine ret_cell_tmp ([.bool false, .int .i64 0]) w.heap.size 76 rfl rfl (Tryz.isAgg76 _) (Tryz.sizeOf76 _) rfl ?_ ?_
      · exact (by first | exact Hx.go hx | exact Hx.go2)
      · exact pp_intro (rfl) (by exact G.go hgw)
    · simp only [Bool.not_true, Bool.or_true, Bool.and_true, if_true]
      have dA : A.data.toList.all isD = true := by have := hA'.out; simp only [Bool.and_eq_true] at this; exact this.1
      have dB : B.data.toList.all isD = true := by have := hB'.out; simp only [Bool.and_eq_true] at this; exact this.1
      by_cases h6 : 6 < B.size
      · have hP : (B.extract 0 6).size = 6 := by rw [ByteArray.size_extract]; omega
        have HN0 := num_calls (B := B.extract 0 6) dA (part_digits dB) (by omega) (by omega)
        rw [part_pad, num_tot] at HN0
        have HR := Lib.hid (repeat_at (k := 6 - (B.extract 0 6).size) (x := 0) (by omega) (by omega))
        by_cases hu : (53 : Int) ≤ (B[6].toNat : Int)
        · rw [tot_add, upV_one h6 hu]
          generalize totV A.data.toList B.data.toList = V at *
          clear dA dB
          by_cases ht : V + 1 ≤ topN
          · rw [if_pos (show V ≤ topN by omega)] at HN0
            rw [if_pos ht]
            simp only [numV] at HN0
            have HN := Lib.hid HN0; clear HN0
            have ht' : (V : Int) ≤ 4611686018427387903 := by unfold topN at ht; omega
            clear ht
            have HO := Lib.hid (fun w => of_num ((V : Int) + 1 : Int) w (by omega) (by omega))
            go_enter Tryz.func54, Tryz.ntmps54
            go_wp2_with (first | (go_at_call 71; (with_reducible refine (HC.out _).mono ?_); rintro e w1 ⟨rfl, hg1⟩; have hx := Hx.kept (Hx.new w #[.bool false, .int .i64 0] 76) hg1 (by simp); have hgw := G.trans (G.alloc (G.refl w none) _) hg1; have x0 := hx.cell 0; have x1 := hx.cell 1; have x2 := hx.free 0; have x3 := hx.free 1; have x4 := hx.lt) | (go_at_call 72; (with_reducible refine (HA.out _).mono ?_); rintro e w2 ⟨rfl, rfl⟩) | (go_at_call 72; (with_reducible refine (HB.out _).mono ?_); rintro e w3 ⟨rfl, rfl⟩) | (go_at_call 74; (with_reducible refine (HR.out _).mono ?_); rintro e w4 ⟨Z, rfl, hZ, sZ, hb4⟩; have hx4 := Hx.kept hx hb4 (by simp); have hgw4 := G.trans hgw hb4; have z0 := hx4.cell 0; have z1 := hx4.cell 1; have z2 := hx4.free 0; have z3 := hx4.free 1) | (go_at_call 73; refine (HN.out _ hZ _).mono ?_; rintro e w5 ⟨rfl, rfl⟩) | (go_at_call 46; (with_reducible refine (HO.out _).mono ?_); rintro e w6 ⟨rfl, hg6⟩; have hx6 := Hx.kept hx4 hg6 (by simp); have hgw6 := G.trans hgw4 hg6; have u0 := hx6.cell 0; have u1 := hx6.cell 1; have u2 := hx6.free 0; have u3 := hx6.free 1))
            refine ret_cell_tmp ([.bool true, .int .i64 ((V : Int) + 1 : Int)]) w.heap.size 76 rfl rfl (Tryz.isAgg76 _) (Tryz.sizeOf76 _) rfl ?_ ?_
            · exact (by first | exact Hx.go hx6 | exact Hx.go2)
            · exact pp_intro (by simp [valV, valC]) (by exact G.go hgw6)
          · rw [if_neg ht]
            by_cases ht2 : V ≤ topN
            · rw [if_pos ht2] at HN0
              simp only [numV] at HN0
              have HN := Lib.hid HN0; clear HN0
              have ht' : 4611686018427387903 < (V : Int) := by unfold topN at ht; omega
              have ht3 : (V : Int) ≤ 4611686018427387904 := by unfold topN at ht2; omega
              clear ht ht2
              go_enter Tryz.func54, Tryz.ntmps54
              go_wp2_with (first | (go_at_call 71; (with_reducible refine (HC.out _).mono ?_); rintro e w1 ⟨rfl, hg1⟩; have hx := Hx.kept (Hx.new w #[.bool false, .int .i64 0] 76) hg1 (by simp); have hgw := G.trans (G.alloc (G.refl w none) _) hg1; have x0 := hx.cell 0; have x1 := hx.cell 1; have x2 := hx.free 0; have x3 := hx.free 1; have x4 := hx.lt) | (go_at_call 72; (with_reducible refine (HA.out _).mono ?_); rintro e w2 ⟨rfl, rfl⟩) | (go_at_call 72; (with_reducible refine (HB.out _).mono ?_); rintro e w3 ⟨rfl, rfl⟩) | (go_at_call 74; (with_reducible refine (HR.out _).mono ?_); rintro e w4 ⟨Z, rfl, hZ, sZ, hb4⟩; have hx4 := Hx.kept hx hb4 (by simp); have hgw4 := G.trans hgw hb4; have z0 := hx4.cell 0; have z1 := hx4.cell 1; have z2 := hx4.free 0; have z3 := hx4.free 1) | (go_at_call 73; refine (HN.out _ hZ _).mono ?_; rintro e w5 ⟨rfl, rfl⟩) | (go_at_call 46; (with_reducible refine (HO.out _).mono ?_); rintro e w6 ⟨rfl, hg6⟩; have hx6 := Hx.kept hx4 hg6 (by simp); have hgw6 := G.trans hgw4 hg6; have u0 := hx6.cell 0; have u1 := hx6.cell 1; have u2 := hx6.free 0; have u3 := hx6.free 1))
              refine ret_cell_tmp ([.bool false, .int .i64 0]) w.heap.size 76 rfl rfl (Tryz.isAgg76 _) (Tryz.sizeOf76 _) rfl ?_ ?_
              · exact (by first | exact Hx.go hx4 | exact Hx.go2)
              · exact pp_intro (rfl) (by exact G.go hgw4)
            · rw [if_neg ht2] at HN0
              simp only [numV] at HN0
              have HN := Lib.hid HN0; clear HN0
              go_enter Tryz.func54, Tryz.ntmps54
              go_wp2_with (first | (go_at_call 71; (with_reducible refine (HC.out _).mono ?_); rintro e w1 ⟨rfl, hg1⟩; have hx := Hx.kept (Hx.new w #[.bool false, .int .i64 0] 76) hg1 (by simp); have hgw := G.trans (G.alloc (G.refl w none) _) hg1; have x0 := hx.cell 0; have x1 := hx.cell 1; have x2 := hx.free 0; have x3 := hx.free 1; have x4 := hx.lt) | (go_at_call 72; (with_reducible refine (HA.out _).mono ?_); rintro e w2 ⟨rfl, rfl⟩) | (go_at_call 72; (with_reducible refine (HB.out _).mono ?_); rintro e w3 ⟨rfl, rfl⟩) | (go_at_call 74; (with_reducible refine (HR.out _).mono ?_); rintro e w4 ⟨Z, rfl, hZ, sZ, hb4⟩; have hx4 := Hx.kept hx hb4 (by simp); have hgw4 := G.trans hgw hb4; have z0 := hx4.cell 0; have z1 := hx4.cell 1; have z2 := hx4.free 0; have z3 := hx4.free 1) | (go_at_call 73; refine (HN.out _ hZ _).mono ?_; rintro e w5 ⟨rfl, rfl⟩) | (go_at_call 46; (with_reducible refine (HO.out _).mono ?_); rintro e w6 ⟨rfl, hg6⟩; have hx6 := Hx.kept hx4 hg6 (by simp); have hgw6 := G.trans hgw4 hg6; have u0 := hx6.cell 0; have u1 := hx6.cell 1; have u2 := hx6.free 0; have u3 := hx6.free 1))
              refine ret_cell_tmp ([.bool false, .int .i64 0]) w.heap.size 76 rfl rfl (Tryz.isAgg76 _) (Tryz.sizeOf76 _) rfl ?_ ?_
              · exact (by first | exact Hx.go hx4 | exact Hx.go2)
              · exact pp_intro (rfl) (by exact G.go hgw4)
        · rw [tot_add, upV_none h6 hu, Nat.add_zero]
          generalize totV A.data.toList B.data.toList = V at *
          clear dA dB
          by_cases ht : V ≤ topN
          · rw [if_pos (show V ≤ topN by omega)] at HN0
            rw [if_pos ht]
            simp only [numV] at HN0
            have HN := Lib.hid HN0; clear HN0
            have ht' : (V : Int) ≤ 4611686018427387904 := by unfold topN at ht; omega
            clear ht
            have HO := Lib.hid (fun w => of_num (V : Int) w (by omega) (by omega))
            go_enter Tryz.func54, Tryz.ntmps54
            go_wp2_with (first | (go_at_call 71; (with_reducible refine (HC.out _).mono ?_); rintro e w1 ⟨rfl, hg1⟩; have hx := Hx.kept (Hx.new w #[.bool false, .int .i64 0] 76) hg1 (by simp); have hgw := G.trans (G.alloc (G.refl w none) _) hg1; have x0 := hx.cell 0; have x1 := hx.cell 1; have x2 := hx.free 0; have x3 := hx.free 1; have x4 := hx.lt) | (go_at_call 72; (with_reducible refine (HA.out _).mono ?_); rintro e w2 ⟨rfl, rfl⟩) | (go_at_call 72; (with_reducible refine (HB.out _).mono ?_); rintro e w3 ⟨rfl, rfl⟩) | (go_at_call 74; (with_reducible refine (HR.out _).mono ?_); rintro e w4 ⟨Z, rfl, hZ, sZ, hb4⟩; have hx4 := Hx.kept hx hb4 (by simp); have hgw4 := G.trans hgw hb4; have z0 := hx4.cell 0; have z1 := hx4.cell 1; have z2 := hx4.free 0; have z3 := hx4.free 1) | (go_at_call 73; refine (HN.out _ hZ _).mono ?_; rintro e w5 ⟨rfl, rfl⟩) | (go_at_call 46; (with_reducible refine (HO.out _).mono ?_); rintro e w6 ⟨rfl, hg6⟩; have hx6 := Hx.kept hx4 hg6 (by simp); have hgw6 := G.trans hgw4 hg6; have u0 := hx6.cell 0; have u1 := hx6.cell 1; have u2 := hx6.free 0; have u3 := hx6.free 1))
            refine ret_cell_tmp ([.bool true, .int .i64 (V : Int)]) w.heap.size 76 rfl rfl (Tryz.isAgg76 _) (Tryz.sizeOf76 _) rfl ?_ ?_
            · exact (by first | exact Hx.go hx6 | exact Hx.go2)
            · exact pp_intro (by simp [valV, valC]) (by exact G.go hgw6)
          · rw [if_neg ht]
            rw [if_neg ht] at HN0
            simp only [numV] at HN0
            have HN := Lib.hid HN0; clear HN0
            go_enter Tryz.func54, Tryz.ntmps54
            go_wp2_with (first | (go_at_call 71; (with_reducible refine (HC.out _).mono ?_); rintro e w1 ⟨rfl, hg1⟩; have hx := Hx.kept (Hx.new w #[.bool false, .int .i64 0] 76) hg1 (by simp); have hgw := G.trans (G.alloc (G.refl w none) _) hg1; have x0 := hx.cell 0; have x1 := hx.cell 1; have x2 := hx.free 0; have x3 := hx.free 1; have x4 := hx.lt) | (go_at_call 72; (with_reducible refine (HA.out _).mono ?_); rintro e w2 ⟨rfl, rfl⟩) | (go_at_call 72; (with_reducible refine (HB.out _).mono ?_); rintro e w3 ⟨rfl, rfl⟩) | (go_at_call 74; (with_reducible refine (HR.out _).mono ?_); rintro e w4 ⟨Z, rfl, hZ, sZ, hb4⟩; have hx4 := Hx.kept hx hb4 (by simp); have hgw4 := G.trans hgw hb4; have z0 := hx4.cell 0; have z1 := hx4.cell 1; have z2 := hx4.free 0; have z3 := hx4.free 1) | (go_at_call 73; refine (HN.out _ hZ _).mono ?_; rintro e w5 ⟨rfl, rfl⟩) | (go_at_call 46; (with_reducible refine (HO.out _).mono ?_); rintro e w6 ⟨rfl, hg6⟩; have hx6 := Hx.kept hx4 hg6 (by simp); have hgw6 := G.trans hgw4 hg6; have u0 := hx6.cell 0; have u1 := hx6.cell 1; have u2 := hx6.free 0; have u3 := hx6.free 1))
            refine ret_cell_tmp ([.bool false, .int .i64 0]) w.heap.size 76 rfl rfl (Tryz.isAgg76 _) (Tryz.sizeOf76 _) rfl ?_ ?_
            · exact (by first | exact Hx.go hx4 | exact Hx.go2)
            · exact pp_intro (rfl) (by exact G.go hgw4)
      · have HN0 := num_calls dA dB (by omega) (by omega)
        rw [num_tot] at HN0
        have HR := Lib.hid (repeat_at (k := 6 - B.size) (x := 6 - (B.size : Int)) (by omega) (by omega))
        rw [tot_add, upV_out h6, Nat.add_zero]
        generalize totV A.data.toList B.data.toList = V at *
        clear dA dB
        by_cases ht : V ≤ topN
        · rw [if_pos (show V ≤ topN by omega)] at HN0
          rw [if_pos ht]
          simp only [numV] at HN0
          have HN := Lib.hid HN0; clear HN0
          have ht' : (V : Int) ≤ 4611686018427387904 := by unfold topN at ht; omega
          clear ht
          have HO := Lib.hid (fun w => of_num (V : Int) w (by omega) (by omega))
          go_enter Tryz.func54, Tryz.ntmps54
          go_wp2_with (first | (go_at_call 71; (with_reducible refine (HC.out _).mono ?_); rintro e w1 ⟨rfl, hg1⟩; have hx := Hx.kept (Hx.new w #[.bool false, .int .i64 0] 76) hg1 (by simp); have hgw := G.trans (G.alloc (G.refl w none) _) hg1; have x0 := hx.cell 0; have x1 := hx.cell 1; have x2 := hx.free 0; have x3 := hx.free 1; have x4 := hx.lt) | (go_at_call 72; (with_reducible refine (HA.out _).mono ?_); rintro e w2 ⟨rfl, rfl⟩) | (go_at_call 72; (with_reducible refine (HB.out _).mono ?_); rintro e w3 ⟨rfl, rfl⟩) | (go_at_call 74; (with_reducible refine (HR.out _).mono ?_); rintro e w4 ⟨Z, rfl, hZ, sZ, hb4⟩; have hx4 := Hx.kept hx hb4 (by simp); have hgw4 := G.trans hgw hb4; have z0 := hx4.cell 0; have z1 := hx4.cell 1; have z2 := hx4.free 0; have z3 := hx4.free 1) | (go_at_call 73; refine (HN.out _ hZ _).mono ?_; rintro e w5 ⟨rfl, rfl⟩) | (go_at_call 46; (with_reducible refine (HO.out _).mono ?_); rintro e w6 ⟨rfl, hg6⟩; have hx6 := Hx.kept hx4 hg6 (by simp); have hgw6 := G.trans hgw4 hg6; have u0 := hx6.cell 0; have u1 := hx6.cell 1; have u2 := hx6.free 0; have u3 := hx6.free 1))
          refine ret_cell_tmp ([.bool true, .int .i64 (V : Int)]) w.heap.size 76 rfl rfl (Tryz.isAgg76 _) (Tryz.sizeOf76 _) rfl ?_ ?_
          · exact (by first | exact Hx.go hx6 | exact Hx.go2)
          · exact pp_intro (by simp [valV, valC]) (by exact G.go hgw6)
        · rw [if_neg ht]
          rw [if_neg ht] at HN0
          simp only [numV] at HN0
          have HN := Lib.hid HN0; clear HN0
          go_enter Tryz.func54, Tryz.ntmps54
          go_wp2_with (first | (go_at_call 71; (with_reducible refine (HC.out _).mono ?_); rintro e w1 ⟨rfl, hg1⟩; have hx := Hx.kept (Hx.new w #[.bool false, .int .i64 0] 76) hg1 (by simp); have hgw := G.trans (G.alloc (G.refl w none) _) hg1; have x0 := hx.cell 0; have x1 := hx.cell 1; have x2 := hx.free 0; have x3 := hx.free 1; have x4 := hx.lt) | (go_at_call 72; (with_reducible refine (HA.out _).mono ?_); rintro e w2 ⟨rfl, rfl⟩) | (go_at_call 72; (with_reducible refine (HB.out _).mono ?_); rintro e w3 ⟨rfl, rfl⟩) | (go_at_call 74; (with_reducible refine (HR.out _).mono ?_); rintro e w4 ⟨Z, rfl, hZ, sZ, hb4⟩; have hx4 := Hx.kept hx hb4 (by simp); have hgw4 := G.trans hgw hb4; have z0 := hx4.cell 0; have z1 := hx4.cell 1; have z2 := hx4.free 0; have z3 := hx4.free 1) | (go_at_call 73; refine (HN.out _ hZ _).mono ?_; rintro e w5 ⟨rfl, rfl⟩) | (go_at_call 46; (with_reducible refine (HO.out _).mono ?_); rintro e w6 ⟨rfl, hg6⟩; have hx6 := Hx.kept hx4 hg6 (by simp); have hgw6 := G.trans hgw4 hg6; have u0 := hx6.cell 0; have u1 := hx6.cell 1; have u2 := hx6.free 0; have u3 := hx6.free 1))
          refine ret_cell_tmp ([.bool false, .int .i64 0]) w.heap.size 76 rfl rfl (Tryz.isAgg76 _) (Tryz.sizeOf76 _) rfl ?_ ?_
          · exact (by first | exact Hx.go hx4 | exact Hx.go2)
          · exact pp_intro (rfl) (by exact G.go hgw4)

end Go.Proofs.YtiakgjijlhfneaaGreatDoor
