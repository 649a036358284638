/-
  The names of the functions on single values. Printed by genfmspec.py.
-/
import Derived.Test.YtkablhamnepfnaaDoorAid
namespace Go.Proofs.YtkablhamnepfnaaDoor
open Go.RowKit
def fn0 : ByteArray := ⟨#[97, 98, 115, 111, 108, 117, 116, 101]⟩
def fn1 : ByteArray := ⟨#[105, 110, 118, 101, 114, 116]⟩
def fn2 : ByteArray := ⟨#[105, 115, 78, 111, 110, 78, 117, 108, 108]⟩
def fn3 : ByteArray := ⟨#[109, 105, 110, 77, 97, 120]⟩
def fn4 : ByteArray := ⟨#[110, 101, 103, 97, 116, 101]⟩
def fn5 : ByteArray := ⟨#[111, 102, 102, 115, 101, 116]⟩
def fn6 : ByteArray := ⟨#[111, 102, 102, 115, 101, 116, 84, 111, 90, 101, 114, 111]⟩
def fn7 : ByteArray := ⟨#[112, 111, 119]⟩
def fn8 : ByteArray := ⟨#[114, 101, 109, 111, 118, 101, 65, 98, 111, 118, 101, 86, 97, 108, 117, 101]⟩
def fn9 : ByteArray := ⟨#[114, 101, 109, 111, 118, 101, 66, 101, 108, 111, 119, 86, 97, 108, 117, 101]⟩
def fn10 : ByteArray := ⟨#[114, 111, 117, 110, 100]⟩
def fn11 : ByteArray := ⟨#[115, 99, 97, 108, 101]⟩
def fn12 : ByteArray := ⟨#[115, 99, 97, 108, 101, 84, 111, 83, 101, 99, 111, 110, 100, 115]⟩
def fn13 : ByteArray := ⟨#[115, 105, 103, 110]⟩
def fn14 : ByteArray := ⟨#[115, 113, 117, 97, 114, 101, 82, 111, 111, 116]⟩
def fn15 : ByteArray := ⟨#[116, 114, 97, 110, 115, 102, 111, 114, 109, 78, 117, 108, 108]⟩
/-- which function a name is -/
def fmIdx (s : ByteArray) : Option Nat := if s = fn0 then some 0 else if s = fn1 then some 1 else if s = fn2 then some 2 else if s = fn3 then some 3 else if s = fn4 then some 4 else if s = fn5 then some 5 else if s = fn6 then some 6 else if s = fn7 then some 7 else if s = fn8 then some 8 else if s = fn9 then some 9 else if s = fn10 then some 10 else if s = fn11 then some 11 else if s = fn12 then some 12 else if s = fn13 then some 13 else if s = fn14 then some 14 else if s = fn15 then some 15 else none
def fmNeed (i : Nat) : Nat := match i with | 5 => 1 | 7 => 1 | 8 => 1 | 9 => 1 | 10 => 1 | 11 => 1 | 12 => 1 | _ => 0
def fmMost (i : Nat) : Nat := match i with | 5 => 1 | 7 => 1 | 8 => 1 | 9 => 1 | 10 => 1 | 11 => 1 | 12 => 1 | 15 => 1 | _ => 0
end Go.Proofs.YtkablhamnepfnaaDoor
