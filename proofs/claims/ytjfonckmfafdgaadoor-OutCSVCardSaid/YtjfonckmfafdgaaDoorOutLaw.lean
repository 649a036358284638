/-
  The walks of what the laws ask first: are series few, may they be; and of their own example.
-/
import Derived.Test.YtjfonckmfafdgaaDoorOutRawR
import Derived.Test.YtjfonckmfafdgaaDoorDecKnown
namespace Go.Proofs.YtjfonckmfafdgaaDoor
open Go.RowKit
def HeavyPost (L : List SerP) (w : World) (e : Ending) (w' : World) : Prop := ∃ r : Bool, e = .returned (.bool r) ∧ (r = false → L.length ≤ 20 ∧ ∀ p ∈ L, p.1.name.size ≤ 300 ∧ p.1.vals.length ≤ 120) ∧ w.grownBy w' none
set_option maxHeartbeats 8000000 in
set_option maxRecDepth 100000 in
theorem heavy28_any (L : List SerP) (v : Value) (w : World) (h : SerRow w v L) : Calls Tryd.prog 12 #[v] w (HeavyPost L w) := by
  have HA := Lib.hid h.2
  have HG := G.refl w none
  obtain ⟨A, c, rfl, q1, q2, q3⟩ := h.1
  have Q3 := Lib.hid q3; clear q3 h
  unfold maxLen at q2
  by_cases hn : L.length ≤ 20
  rotate_left
  · go_enter Tryd.func12, Tryd.ntmps12
    go_wp2_with fail
    go_ret
    exact ⟨true, rfl, by first | trivial | (intro h; cases h), HG⟩
  go_enter Tryd.func12, Tryd.ntmps12
  go_wp2_with fail
  go_loopw [3, 4] (fun nv iv wr => ∃ (i n : Nat), iv = .int .i64 i ∧ nv = .int .i64 n ∧ i ≤ L.length ∧ n ≤ 120 * i ∧ Hid (∀ j (hj : j < L.length), j < i → L[j].1.name.size ≤ 300 ∧ L[j].1.vals.length ≤ 120) ∧ w.grownBy wr none) (fun _ iv _ => L.length - (intOf iv).toNat)
  case atStart => exact ⟨0, 0, rfl, rfl, by omega, by omega, Lib.hid (fun j _ h => by omega), HG⟩
  case round =>
    clear HG
    obtain ⟨i, n, rfl, rfl, hi, hni, HP, HG⟩ := hrel
    by_cases hlt : i < L.length
    · obtain ⟨b, o, rfl, hbl, hc⟩ := Q3.out (by omega)
      obtain ⟨x0, x1, x2, x3, x4⟩ := serCells hc HG hbl hlt
      have hle := (HA.out L[i] (List.getElem_mem hlt)).le
      unfold maxLen at hle
      have hnx : Hid (L[i].1.name.size ≤ 300 → L[i].1.vals.length ≤ 120 → ∀ j (hj : j < L.length), j < i + 1 → L[j].1.name.size ≤ 300 ∧ L[j].1.vals.length ≤ 120) := Lib.hid (fun g1 g2 j hj hji => by
        rcases Nat.lt_or_ge j i with g | g
        · exact HP.out j hj g
        · obtain rfl : j = i := by omega
          exact ⟨g1, g2⟩)
      simp only [slV] at x3
      clear hc HP
      generalize L[i].1.name = nm at *
      generalize L[i].1.vals = X at *
      by_cases g2 : X.length ≤ 120
      · by_cases g1 : nm.size ≤ 300
        · have hm := Lib.hid (hnx.out g1 g2)
          clear hnx
          go_wp2_with fail
          refine ⟨?_, by first | (simp [intOf]; done) | (simp [intOf]; omega)⟩
          exact ⟨i + 1, n + X.length, by go_num, by go_num, by omega, by omega, hm, HG⟩
        · clear hnx
          go_wp2_with fail
          go_ret
          exact ⟨true, rfl, by first | trivial | (intro h; cases h), HG⟩
      · clear hnx
        go_wp2_with fail
        go_ret
        exact ⟨true, rfl, by first | trivial | (intro h; cases h), HG⟩
    · obtain rfl : i = L.length := by omega
      go_wp2_with fail
      go_ret
      refine ⟨_, rfl, fun _ => ⟨hn, fun p hp => ?_⟩, HG⟩
      obtain ⟨j, hj, rfl⟩ := List.getElem_of_mem hp
      exact HP.out j hj hj
def GoodPost (L : List SerP) (w : World) (e : Ending) (w' : World) : Prop := ∃ r : Bool, e = .returned (.bool r) ∧ (r = true → Few (sersOf L)) ∧ w.grownBy w' none
set_option maxHeartbeats 8000000 in
set_option maxRecDepth 100000 in
theorem good28_any (L : List SerP) (v : Value) (w : World) (h : SerRow w v L) : Calls Tryd.prog 8 #[v] w (GoodPost L w) := by
  have HA := Lib.hid h.2
  have HH := Lib.hid (heavy28_any L v w h)
  have HG := G.refl w none
  obtain ⟨A, c, rfl, q1, q2, q3⟩ := h.1
  have Q3 := Lib.hid q3; clear q3 h
  go_enter Tryd.func8, Tryd.ntmps8
  go_wp2_with fail
  refine HH.out.mono ?_
  rintro e wn ⟨r, rfl, hb, hgn⟩
  replace HG := G.trans (w := w) HG hgn
  have HB := Lib.hid hb
  clear hb hgn HH
  cases r
  rotate_left
  · go_wp2_with fail
    go_ret
    exact ⟨false, rfl, by first | trivial | (intro h; cases h), HG⟩
  obtain ⟨hn, hb⟩ := HB.out rfl
  have HB2 := Lib.hid hb
  clear hb HB
  go_wp2_with fail
  go_loopw [3] (fun iv wr => ∃ (i : Nat), iv = .int .i64 i ∧ i ≤ L.length ∧ Hid (∀ j (hj : j < L.length), j < i → isSer L[j].1 = true) ∧ w.grownBy wr none) (fun iv _ => L.length - (intOf iv).toNat)
  case atStart => exact ⟨0, rfl, by omega, Lib.hid (fun j _ h => by omega), HG⟩
  case round =>
    clear HG
    obtain ⟨i, rfl, hi, HP, HG⟩ := hrel
    by_cases hlt : i < L.length
    · obtain ⟨b, o, rfl, hbl, hc⟩ := Q3.out (by omega)
      obtain ⟨x0, x1, x2, x3, x4⟩ := serCells hc HG hbl hlt
      have HI := Lib.hid (fun W (hg : w.grownBy W none) => refIs18_any L[i].1 (slV L[i]) W ((HA.out L[i] (List.getElem_mem hlt)).kept0 hg))
      have hnx : Hid (isSer L[i].1 = true → ∀ j (hj : j < L.length), j < i + 1 → isSer L[j].1 = true) := Lib.hid (fun g1 j hj hji => by
        rcases Nat.lt_or_ge j i with g | g
        · exact HP.out j hj g
        · obtain rfl : j = i := by omega
          exact g1)
      clear hc HP
      simp only [slV] at x3 HI
      generalize isSer L[i].1 = s at *
      generalize L[i] = p at *
      obtain ⟨S, A2, c2⟩ := p
      dsimp only at x0 x1 x2 x3 x4 HI
      cases s
      · clear hnx
        go_wp2_with (go_at_call 13; (with_reducible refine (HI.out _ (by exact G.go HG)).mono ?_); rintro e wn ⟨rfl, hgn⟩; replace HG := G.trans (w := w) (by exact G.go HG) hgn; clear hgn)
        go_ret
        exact ⟨false, rfl, by first | trivial | (intro h; cases h), HG⟩
      · have hm := Lib.hid (hnx.out rfl)
        clear hnx
        go_wp2_with (go_at_call 13; (with_reducible refine (HI.out _ (by exact G.go HG)).mono ?_); rintro e wn ⟨rfl, hgn⟩; replace HG := G.trans (w := w) (by exact G.go HG) hgn; clear hgn)
        refine ⟨?_, by first | (simp [intOf]; done) | (simp [intOf]; omega)⟩
        exact ⟨i + 1, by go_num, by omega, hm, HG⟩
    · obtain rfl : i = L.length := by omega
      go_wp2_with fail
      go_ret
      refine ⟨true, rfl, fun _ => ⟨by rw [sersOf_len]; exact hn, fun S hS => ?_⟩, HG⟩
      obtain ⟨p, hp, rfl⟩ := List.mem_map.1 hS
      obtain ⟨j, hj, rfl⟩ := List.getElem_of_mem hp
      exact ⟨(HB2.out _ hp).1, (HB2.out _ hp).2, HP.out j hj hj⟩
/-! ### the law's own example -/
def exS : Ser := ⟨⟨#[97]⟩, 10, 5, [(true, 1000000), (false, 0)], 0⟩
def exB : ByteArray := ⟨#[97, 44, 49, 48, 44, 50, 48, 44, 53, 124, 49, 44, 78, 111, 110, 101, 10]⟩
theorem ex_print : printV true 1000000 = ⟨#[49]⟩ := by
  have e1 : Lib.decDigits 1 = [49] := by rw [Lib.decDigits, dif_pos (by omega)]; rfl
  have h : printL 1000000 = [49] := by
    unfold printL printA
    rw [show (1000000 : Int).natAbs = 1000000 from rfl, show 1000000 / 1000000 = 1 from rfl, e1]
    rfl
  rw [printV_some (by decide), h]
theorem ex_raw (p : SerP) (hp : p.1 = exS) : (⟨(rawP (sersOf [p]) 1).toArray⟩ : ByteArray) = exB := by
  have e1 : Lib.decDigits 1 = [49] := by rw [Lib.decDigits, dif_pos (by omega)]; rfl
  have e2 : Lib.decDigits 2 = [50] := by rw [Lib.decDigits, dif_pos (by omega)]; rfl
  have e5 : Lib.decDigits 5 = [53] := by rw [Lib.decDigits, dif_pos (by omega)]; rfl
  have e10 : Lib.decDigits 10 = [49, 48] := by rw [Lib.decDigits, dif_neg (by omega), show 10 / 10 = 1 from rfl, e1]; rfl
  have e20 : Lib.decDigits 20 = [50, 48] := by rw [Lib.decDigits, dif_neg (by omega), show 20 / 10 = 2 from rfl, e2]; rfl
  have i5 : Lib.itoa 5 = [53] := by rw [show (5 : Int) = ((5 : Nat) : Int) from rfl, itoa_nat, e5]
  have i10 : Lib.itoa 10 = [49, 48] := by rw [show (10 : Int) = ((10 : Nat) : Int) from rfl, itoa_nat, e10]
  have i20 : Lib.itoa 20 = [50, 48] := by rw [show (20 : Int) = ((20 : Nat) : Int) from rfl, itoa_nat, e20]
  have p1 : prL (true, 1000000) = [49] := by unfold prL; rw [ex_print]
  have p2 : prL (false, 0) = [78, 111, 110, 101] := by unfold prL; rw [printV_none rfl]; rfl
  have hl : rawP (sersOf [p]) 1 = rawS exS := by
    rw [rawP_step (L := [p]) (i := 0) (by simp)]
    simp [rawP, joinP, hp]
  rw [hl]
  have hv : rawV exS 2 = [49, 44, 78, 111, 110, 101] := by
    rw [rawV_step, rawV_step, show atW exS.vals 0 = (true, 1000000) from rfl, show atW exS.vals 1 = (false, 0) from rfl, p1, p2]; rfl
  unfold rawS rawH endS
  rw [show exS.vals.length = 2 from rfl, hv, show exS.start = 10 from rfl, show exS.step = 5 from rfl, i10, i5, show ((10 : Int) + ((2 : Nat) : Int) * 5) = 20 from rfl, i20]
  rfl
theorem ex_few (p : SerP) (hp : p.1 = exS) : Few (sersOf [p]) := by
  refine ⟨by simp [sersOf], fun S hS => ?_⟩
  simp [sersOf] at hS
  rw [hS, hp]
  exact ⟨by decide, by decide, by decide⟩
def exP (w : World) : SerP := (exS, some ⟨w.heap.size, 0, none⟩, 2)
def exW (w : World) : World := (w.alloc (.cells #[.bool true, .int .i64 1000000, .bool false, .int .i64 0] 33)).alloc (.cells #[.string ⟨#[97]⟩, .int .i64 10, .int .i64 5, .slice (some ⟨w.heap.size, 0, none⟩) 2 2, .int .i64 0] 29)
theorem ex_row (w : World) : SerRow (exW w) (.slice (some ⟨w.heap.size + 1, 0, none⟩) 1 1) [exP w] := by
  have h1 : Hx (exW w) (w.heap.size + 1) [.string ⟨#[97]⟩, .int .i64 10, .int .i64 5, .slice (some ⟨w.heap.size, 0, none⟩) 2 2, .int .i64 0] 29 := Hx.new' (by simp) rfl
  have h2 : Hx (exW w) w.heap.size [.bool true, .int .i64 1000000, .bool false, .int .i64 0] 33 := Hx.alloc (Hx.new _ _ _) _
  refine ⟨ERow.of_hx (ts := [exP w]) (by simp) (by decide) (h1.conv rfl), fun p hp => ?_⟩
  obtain rfl : p = exP w := by simpa using hp
  exact ERow.of_hx (L := valE) (ts := exS.vals) (show 2 ≤ 2 from Nat.le_refl 2) (show 2 ≤ maxLen from by decide) (h2.conv rfl)
set_option maxHeartbeats 8000000 in
set_option maxRecDepth 100000 in
theorem known28_any (w : World) (hp : Pow10 w) : Calls Tryd.prog 11 #[] w fun e w' => e = .returned (.bool true) ∧ w.grownBy w' none := by
  have HP := Lib.hid hp; clear hp
  have HG := G.refl w none
  have HK := Lib.hid (fun (p : SerP) (hp : p.1 = exS) v w (h : SerRow w v [p]) hp10 => outRaw_any [p] v w h (ex_few p hp) hp10)
  have HE := Lib.hid (fun (p : SerP) (hp : p.1 = exS) => ex_raw p hp)
  have hz : (exB.toList == [97, 44, 49, 48, 44, 50, 48, 44, 53, 124, 49, 44, 78, 111, 110, 101, 10]) = true := by rw [list_is]; decide
  have HG2 : w.grownBy (exW w) none := by unfold exW; exact (by exact G.go HG)
  have HK2 := Lib.hid (HK.out (exP w) rfl _ _ (ex_row w) (Pow10.kept (w := w) HP.out HG2))
  have he : (⟨(rawP (sersOf [exP w]) [exP w].length).toArray⟩ : ByteArray) = exB := HE.out (exP w) rfl
  rw [he] at HK2
  clear he
  generalize exB = Z at *
  go_enter Tryd.func11, Tryd.ntmps11
  go_wp2_with (go_at_call 9; (refine HK2.out.mono ?_); rintro e wn ⟨rfl, hgn⟩; replace HG := G.trans (w := w) HG2 hgn; clear hgn)
  go_ret
  exact ⟨ret_bool (by first | rfl | exact hz), HG⟩
end Go.Proofs.YtjfonckmfafdgaaDoor
