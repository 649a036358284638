/-
  The walk of lex's str: what stands between two marks.
-/
import Derived.Test.YtiakgjijlhfneaaGreatDoorLexWord
import Derived.Test.YtiakgjijlhfneaaGreatDoorLexSpec2
import Derived.Lib.IndexBytes
namespace Go.Proofs.YtiakgjijlhfneaaGreatDoor
open Go.RowKit

/-- what the call of str leaves -/
def StrPost (s : ByteArray) (b k : Nat) (x : List Value) (T : TypeId) (w : World) (n : Int) (e : Ending) (w' : World) : Prop :=
  w.grownBy w' (some b) ∧ ((n < 0 ∧ e = .returned (.tuple #[.agg #[.int .i64 0, .string ⟨#[]⟩], .bool false]) ∧ Hx w' b (.string s :: .int .i64 (k : Int) :: x) T) ∨
    (0 ≤ n ∧ e = .returned (.tuple #[.agg #[.int .i64 2, .string (s.extract (k + 1) (k + 1 + n.toNat))], .bool true]) ∧ Hx w' b (.string s :: .int .i64 ((k + 1 + n.toNat + 1 : Nat) : Int) :: x) T))

set_option maxHeartbeats 4000000 in
theorem str_any (s : ByteArray) (b : Nat) (k : Nat) (x : List Value) (T : TypeId) (w : World) (hs : s.size ≤ 4611686018427387904) (hk : k < s.size)
    (hb : Hx w b (.string s :: .int .i64 k :: x) T) :
    Calls Tryz.prog 50 #[.pointer (some ⟨b, 0, none⟩)] w (StrPost s b k x T w (Lib.indexByte (s.data.toList.drop (k + 1)) s[k])) := by
  have hlen := indexByte_lt s[k] (s.data.toList.drop (k + 1))
  have hge := Lib.indexByte_ge (s.data.toList.drop (k + 1)) s[k]
  have hl : ((s.data.toList.drop (k + 1)).length : Int) = s.size - (k + 1) := by simp; have : s.size = s.data.size := rfl; omega
  rw [hl] at hlen; clear hl
  obtain ⟨n, HN⟩ : ∃ n, Hid (Lib.indexByte (s.data.toList.drop (k + 1)) s[k] = n) := ⟨_, Lib.hid rfl⟩
  rw [HN.out] at hlen hge
  rw [HN.out]
  have HC := Lib.hid (fun w => HN.out ▸ indexByte_at s (k + 1) s[k] w)
  have hc0 : w.cell? ⟨b, 0, none⟩ = some (.string s) := hb.cell 0
  have hc1 : w.cell? ⟨b, 1, none⟩ = some (.int .i64 k) := hb.cell 1
  have hf1 : w.frozen? ⟨b, 1, none⟩ = false := hb.free 1
  have hlt := hb.lt
  have hne : b ≠ w.heap.size := by omega
  by_cases hn : n < 0
  · go_enter Tryz.func50, Tryz.ntmps50
    go_wp2_with fail
    go_quiet ((go_at_call 69; exact Calls.quiet_of_same (HC.out _)))
    go_wp2_with fail
    refine ret_cell_tmp [.int .i64 0, .string ⟨#[]⟩] w.heap.size 66 rfl rfl (Tryz.isAgg66 _) (Tryz.sizeOf66 _) rfl ?_ ⟨(by have hb0 := (G.refl w (some b)); (repeat first | with_reducible exact hb0 | with_reducible refine G.drewN ?_ _ | with_reducible refine G.drew ?_ | with_reducible refine G.alloc ?_ _ | with_reducible refine G.set ?_ _ (Or.inr rfl) | (with_reducible refine G.set ?_ _ (Or.inl ?_); rotate_left; focus (first | omega | (simp; done) | (simp; omega))))), Or.inl ⟨hn, rfl, (by first | exact Hx.go hb | exact Hx.go2)⟩⟩
    exact (by first | exact Hx.go hb | exact Hx.go2)
  · obtain ⟨m, rfl⟩ := Int.eq_ofNat_of_zero_le (Int.not_lt.1 hn)
    go_enter Tryz.func50, Tryz.ntmps50
    go_wp2_with fail
    go_quiet ((go_at_call 69; exact Calls.quiet_of_same (HC.out _)))
    go_wp2_with fail
    go_region
    go_wp2
    refine ret_cell_tmp [.int .i64 2, .string (s.extract (k + 1) (k + 1 + m))] w.heap.size 66 rfl rfl (Tryz.isAgg66 _) (Tryz.sizeOf66 _) rfl ?_ ⟨?_, Or.inr ⟨by omega, rfl, ?_⟩⟩
    · exact (by first | exact Hx.go hb | exact Hx.go2)
    · exact (by have hb0 := (G.refl w (some b)); (repeat first | with_reducible exact hb0 | with_reducible refine G.drewN ?_ _ | with_reducible refine G.drew ?_ | with_reducible refine G.alloc ?_ _ | with_reducible refine G.set ?_ _ (Or.inr rfl) | (with_reducible refine G.set ?_ _ (Or.inl ?_); rotate_left; focus (first | omega | (simp; done) | (simp; omega)))))
    · exact (by first | exact Hx.go hb | exact Hx.go2)
end Go.Proofs.YtiakgjijlhfneaaGreatDoor
