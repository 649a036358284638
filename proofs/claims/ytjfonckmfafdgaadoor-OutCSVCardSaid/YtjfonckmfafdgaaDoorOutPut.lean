/-
  The walks of what parts texts, and of a value's text.
-/
import Derived.Test.YtjfonckmfafdgaaDoorOutLay
import Derived.Test.YtjfonckmfafdgaaDoorOutSpec
namespace Go.Proofs.YtjfonckmfafdgaaDoor
open Go.RowKit
set_option maxHeartbeats 4000000 in
set_option maxRecDepth 100000 in
theorem comma_any {B b : Nat} (s : ByteArray) (k : Nat) (l : List UInt8) (w : World) (h : Bld w B b l) (hl : l.length ≤ 90000000) (hf : s.size ≤ 1000000) (hB : B ≤ w.heap.size) :
    Calls Tryd.prog 25 #[.pointer (some ⟨b, 0, none⟩), .int .i64 k, .string s] w fun e w' => e = .returned (.tuple #[]) ∧ Bld w' B b (l ++ (if k = 0 then [] else s.data.toList)) ∧ Wr B b w w' := by
  have hlt := h.lt
  have hsz := size_list' s
  have HD := Lib.hid h; clear h
  rcases Nat.eq_zero_or_pos k with rfl | hk
  · go_enter Tryd.func25, Tryd.ntmps25
    go_wp2_with fail
    go_end0
    exact ⟨rfl, HD.out.conv (by simp), Wr.refl B b w⟩
  · have hi : ((0 : Int) < (k : Int)) := by omega
    have hk0 : ¬ k = 0 := by omega
    rw [if_neg hk0]
    go_enter Tryd.func25, Tryd.ntmps25
    go_wp2_with (go_at_call 22; (with_reducible refine (lays_of (B := B) (w0 := w) [s] l _ _ rfl (by simp) (by simp) (by simp) HD.out rfl hl (by simp [flatB]; omega) (by simp) (by omega)).mono ?_); rintro e wn ⟨rfl, hd1, hw1⟩)
    go_end0
    exact ⟨rfl, hd1.conv (by simp [flatB]), hw1⟩
def prB (none : List UInt8) (b : Bool) (n : Int) : ByteArray := ⟨(prN none (b, n)).toArray⟩
theorem prB_data (none : List UInt8) (b : Bool) (n : Int) : (prB none b n).data.toList = prN none (b, n) := rfl
theorem list_is {Z : ByteArray} {l : List UInt8} : (Z.toList == l) = decide (Z.data.toList = l) := by rw [Lib.toList_data, Bool.eq_iff_iff]; simp
set_option maxHeartbeats 4000000 in
set_option maxRecDepth 100000 in
theorem outPrint_any (no : ByteArray) (b : Bool) (n : Int) (w : World) (h1 : -9223372036854775808 ≤ n) (h2 : n ≤ 9223372036854775807) (hp : Pow10 w) :
    Calls Tryd.prog 38 #[.agg #[.bool b, .int .i64 n], .string no] w fun e w' => e = .returned (.string (prB no.data.toList b n)) ∧ w.grownBy w' none := by
  have HP := Lib.hid hp; clear hp
  have HK := Lib.hid (fun w hp => print_any b n w h1 h2 hp)
  have hV : Hid (prB no.data.toList b n = if (printV b n).data.toList = [78, 111, 110, 101] then no else printV b n) := Lib.hid (by
    unfold prB prN prL
    split
    · rfl
    · rfl)
  rw [hV.out]
  generalize printV b n = Z at *
  have HG := G.refl w none
  by_cases hz : Z.data.toList = [78, 111, 110, 101]
  · have hz' : (Z.toList == [78, 111, 110, 101]) = true := by rw [list_is]; simpa using hz
    rw [if_pos hz]
    clear hz hV
    go_enter Tryd.func38, Tryd.ntmps38
    go_wp2_with (go_at_call 26; refine (HK.out _ (Pow10.kept (w := w) HP.out (by exact G.go HG))).mono ?_; rintro e wn ⟨rfl, hgn⟩; replace HG := G.trans (w := w) (by exact G.go HG) hgn; clear hgn)
    go_ret
    exact ⟨rfl, (by exact G.go HG)⟩
  · have hz' : (Z.toList == [78, 111, 110, 101]) = false := by rw [list_is]; simpa using hz
    rw [if_neg hz]
    clear hz hV
    go_enter Tryd.func38, Tryd.ntmps38
    go_wp2_with (go_at_call 26; refine (HK.out _ (Pow10.kept (w := w) HP.out (by exact G.go HG))).mono ?_; rintro e wn ⟨rfl, hgn⟩; replace HG := G.trans (w := w) (by exact G.go HG) hgn; clear hgn)
    go_ret
    exact ⟨rfl, (by exact G.go HG)⟩
end Go.Proofs.YtjfonckmfafdgaaDoor
