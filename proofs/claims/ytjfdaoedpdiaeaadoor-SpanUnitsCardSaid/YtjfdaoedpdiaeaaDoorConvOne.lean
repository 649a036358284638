/-
  A text of one byte, made out of a row of one byte; and a number's last ten bits. No program is named here.
-/
import Derived.Test.YtjfdaoedpdiaeaaDoorAid
import Derived.Laws.BytesArg
namespace Go.Proofs.YtjfdaoedpdiaeaaDoor
open Go.RowKit
theorem conv_one {P : Program} {w : World} {b : Nat} {x : Int} {T : TypeId} (src e dst : TypeId) (hs : P.underlying src = some (.slice e)) (he : P.underlying e = some (.int .u8)) (hd : P.underlying dst = some .string)
    (h : Hx w b [.int .u8 x] T) : (convert src dst (.slice (some ⟨b, 0, none⟩) 1 1)).run P w = .ok (.string ⟨#[UInt8.ofNat x.toNat]⟩) w := by
  have hcell : ∀ i, i < 1 → w.cell? ⟨b, 0 + i, none⟩ = some (.int .u8 ([x].getD i 0)) := by
    intro i hi
    obtain rfl : i = 0 := by omega
    rw [h.cell]; rfl
  have := run_convert_bytes_arg w src e hs he b 0 1 1 [x] rfl hcell dst hd
  rw [this]
  rfl
theorem conv_byte {P : Program} {w : World} {b : Nat} {c : UInt8} {T : TypeId} (src e dst : TypeId) (hs : P.underlying src = some (.slice e)) (he : P.underlying e = some (.int .u8)) (hd : P.underlying dst = some .string)
    (h : Hx w b [.int .u8 (c.toNat : Int)] T) : (convert src dst (.slice (some ⟨b, 0, none⟩) 1 1)).run P w = .ok (.string ⟨#[c]⟩) w := by
  rw [conv_one src e dst hs he hd h]
  simp
theorem last_bits (x : Int) : 0 ≤ bits .and .i64 x 1023 ∧ bits .and .i64 x 1023 ≤ 1023 := by
  have h : bits .and .i64 x 1023 = IntKind.i64.wrap ((BitVec.ofInt 64 x &&& BitVec.ofInt 64 1023).toNat : Int) := rfl
  have h1 : (BitVec.ofInt 64 x &&& BitVec.ofInt 64 1023).toNat ≤ 1023 := by
    rw [BitVec.toNat_and]
    exact Nat.and_le_right
  rw [h, IntKind.wrap_i64]
  omega
end Go.Proofs.YtjfdaoedpdiaeaaDoor
