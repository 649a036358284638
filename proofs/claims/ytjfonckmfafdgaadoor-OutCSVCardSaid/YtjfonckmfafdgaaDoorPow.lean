/-
  The library's table of powers of ten, as the walks carry it on; numbers in digits.
-/
import Derived.Test.YtjfonckmfafdgaaDoorProg
import Derived.Test.YtjfonckmfafdgaaDoorShelf
import Derived.Test.YtjfonckmfafdgaaDoorAid
import Derived.Lib.LaidTab
import Derived.LaidSub
import Derived.Lib.TrimByte
namespace Go.Proofs.YtjfonckmfafdgaaDoor
open Go.RowKit
/-- the table of powers of ten is as the library lays it -/
def Pow10 (w : World) : Prop := Lib.TabIs Tryd.prog w "internal/strconv.uint64pow10" .u64 Lib.pow10Tab
theorem pow10_global : Tryd.prog.globalNamed "internal/strconv.uint64pow10" = some 0 := by kernel_rfl
theorem Pow10.kept {w w' : World} (h : Pow10 w) (hg : w.grownBy w' none) : Pow10 w' := by
  unfold Pow10 Lib.TabIs World.var? at *
  rw [pow10_global] at h ⊢
  simp only [Option.bind_some] at h ⊢
  have hlt : 0 < w.heap.size := by
    rcases Nat.lt_or_ge 0 w.heap.size with g | g
    · exact g
    · rw [Array.getElem?_eq_none g] at h; cases h
  rw [hg.block _ hlt (by simp)]
  exact h
theorem pow10_of {W : World} {laid : List (String × DataW Unit)} (hL : laidMetH Tryd.prog laid W) (h : (laid.filter fun x => x.1 == "internal/strconv.uint64pow10") = [("internal/strconv.uint64pow10", Lib.tabData .u64 Lib.pow10Tab)]) : Pow10 W := by
  have hL2 := hL.filter (fun x => x.1 == "internal/strconv.uint64pow10")
  rw [h] at hL2
  exact Lib.tabIs_of_head (t := 111) pow10_global (by kernel_rfl) Tryd.underlying111 Tryd.underlying67 (by kernel_rfl) (by kernel_rfl) hL2
/-- the variable of the library's own that the search reads holds some number -/
def MaxLen (w : World) : Prop := ∃ m : Int, w.cell? ⟨1, 0, none⟩ = some (.int .i64 m)
theorem MaxLen.kept {w w' : World} (h : MaxLen w) (hg : w.grownBy w' none) : MaxLen w' := by
  obtain ⟨m, hm⟩ := h
  exact ⟨m, hg.cell hm (by simp)⟩
theorem G.blocks (w : World) (k : Nat) (os : Array Obj) : w.grownBy (Sort.grow (w.drewN k) os) none :=
  ⟨rfl, rfl, rfl, by simp [Sort.grow], fun i hi _ => by
    show (w.heap ++ os)[i]? = w.heap[i]?
    rw [Array.getElem?_append_left hi]⟩
theorem decDigits_len {u k : Nat} (h : u < 10 ^ (k + 1)) : (Lib.decDigits u).length ≤ k + 1 := by
  rw [Lib.decDigits_length]
  rcases Nat.lt_or_ge (k + 1) (Lib.nDigits u) with g | g
  · exfalso
    rcases Nat.eq_zero_or_pos u with h0 | h0
    · subst h0; rw [Lib.nDigits_small (by omega)] at g; omega
    · have key : ∀ n u, 0 < u → Lib.nDigits u = n + 1 → 10 ^ n ≤ u := by
        intro n
        induction n with
        | zero => intro u hu _; rw [Nat.pow_zero]; omega
        | succ n ih =>
          intro u hu he
          by_cases hs : u < 10
          · rw [Lib.nDigits_small hs] at he; omega
          · rw [Lib.nDigits_big hs] at he
            have := ih (u / 10) (by omega) (by omega)
            rw [Nat.pow_succ]; omega
      have hp := Lib.nDigits_pos u
      have := key (Lib.nDigits u - 1) u h0 (by omega)
      have h2 : 10 ^ (k + 1) ≤ 10 ^ (Lib.nDigits u - 1) := Nat.pow_le_pow_right (by omega) (by omega)
      omega
  · exact g
theorem itoa_len {n : Int} (h1 : -9223372036854775808 ≤ n) (h2 : n ≤ 9223372036854775807) : (Lib.itoa n).length ≤ 20 := by
  unfold Lib.itoa
  split
  · have := decDigits_len (u := n.natAbs) (k := 18) (by omega)
    simp; omega
  · have := decDigits_len (u := n.toNat) (k := 18) (by omega)
    omega
set_option maxHeartbeats 4000000 in
theorem digits_any (n : Int) (w : World) (h1 : -9223372036854775808 ≤ n) (h2 : n ≤ 9223372036854775807) (hp : Pow10 w) :
    Calls Tryd.prog 23 #[.int .i64 n] w fun e w' => ∃ Z : ByteArray, e = .returned (.string Z) ∧ Z.data.toList = Lib.itoa n ∧ Z.size ≤ 20 ∧ w.grownBy w' none := by
  have HI := Lib.hid (Tryd.strconv_Itoa n h1 h2 w hp); clear hp
  have hl := itoa_len h1 h2
  go_enter Tryd.func23, Tryd.ntmps23
  go_wp2_with (go_at_call 44; refine HI.out.mono ?_; rintro e w1 ⟨rfl, k, os, rfl⟩)
  go_ret
  exact ⟨_, rfl, rfl, by rw [Lib.size_mk]; exact hl, G.blocks w k os⟩
theorem itoa_nat (k : Nat) : Lib.itoa (k : Int) = Lib.decDigits k := by
  unfold Lib.itoa
  rw [if_neg (by omega)]; rfl
end Go.Proofs.YtjfonckmfafdgaaDoor
