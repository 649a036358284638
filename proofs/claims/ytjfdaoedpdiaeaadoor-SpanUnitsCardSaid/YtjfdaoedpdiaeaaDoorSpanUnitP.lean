/-
  The walks of both packages' units. Printed by genunit.py.
-/
import Derived.Test.YtjfdaoedpdiaeaaDoorSpanUnit
namespace Go.Proofs.YtjfdaoedpdiaeaaDoor
open Go.RowKit
def uw0 : List ByteArray := [⟨#[115]⟩, ⟨#[115, 101, 99]⟩, ⟨#[115, 101, 99, 115]⟩, ⟨#[115, 101, 99, 111, 110, 100]⟩, ⟨#[115, 101, 99, 111, 110, 100, 115]⟩]
def uw1 : List ByteArray := [⟨#[109, 105, 110]⟩, ⟨#[109, 105, 110, 115]⟩, ⟨#[109, 105, 110, 117, 116, 101]⟩, ⟨#[109, 105, 110, 117, 116, 101, 115]⟩]
def uw2 : List ByteArray := [⟨#[104]⟩, ⟨#[104, 111, 117, 114]⟩, ⟨#[104, 111, 117, 114, 115]⟩]
def uw3 : List ByteArray := [⟨#[100]⟩, ⟨#[100, 97, 121]⟩, ⟨#[100, 97, 121, 115]⟩]
def uw4 : List ByteArray := [⟨#[119]⟩, ⟨#[119, 101, 101, 107]⟩, ⟨#[119, 101, 101, 107, 115]⟩]
def uw5 : List ByteArray := [⟨#[109, 111, 110]⟩, ⟨#[109, 111, 110, 116, 104]⟩, ⟨#[109, 111, 110, 116, 104, 115]⟩]
def uw6 : List ByteArray := [⟨#[121]⟩, ⟨#[121, 101, 97, 114]⟩, ⟨#[121, 101, 97, 114, 115]⟩]
/-- how many seconds a unit has; 0: it is none -/
def unitN (s : ByteArray) : Nat := if hitAt uw0 s 0 then 1 else if hitAt uw1 s 0 then 60 else if hitAt uw2 s 0 then 3600 else if hitAt uw3 s 0 then 86400 else if hitAt uw4 s 0 then 604800 else if hitAt uw5 s 0 then 2592000 else if hitAt uw6 s 0 then 31536000 else 0
theorem hit_flat (s : ByteArray) (X : List ByteArray) (b : Bool) (h : (X.map (fun x => s.toList == x.toList)).or = b) : hitAt X s 0 = b := by
  subst h; unfold hitAt; rw [List.drop_zero]
  induction X with
  | nil => rfl
  | cons x X ih => rw [List.any_cons, List.map_cons, List.or_cons, ih, Bool.beq_comm]
set_option maxHeartbeats 8000000 in
theorem unit_prog (s : ByteArray) (w : World) : Calls Tryd.prog 20 #[.string s] w fun e w' => e = .returned (.int .i64 (unitN s : Nat)) ∧ w.grownBy w' none := by
  obtain ⟨R, HR⟩ : ∃ R, Hid (unitN s = R) := ⟨_, Lib.hid rfl⟩
  rw [HR.out]
  have hu : Hid (R = if hitAt uw0 s 0 = true then 1 else if hitAt uw1 s 0 = true then 60 else if hitAt uw2 s 0 = true then 3600 else if hitAt uw3 s 0 = true then 86400 else if hitAt uw4 s 0 = true then 604800 else if hitAt uw5 s 0 = true then 2592000 else if hitAt uw6 s 0 = true then 31536000 else 0) := Lib.hid (by rw [← HR.out]; rfl)
  clear HR
  have HG := G.refl w none
  have A0 := Lib.hid (fun n cs b w T h1 h2 h3 h4 => amongA s uw0 n cs b w T h1 h2 h3 h4)
  have A1 := Lib.hid (fun n cs b w T h1 h2 h3 h4 => amongA s uw1 n cs b w T h1 h2 h3 h4)
  have A2 := Lib.hid (fun n cs b w T h1 h2 h3 h4 => amongA s uw2 n cs b w T h1 h2 h3 h4)
  have A3 := Lib.hid (fun n cs b w T h1 h2 h3 h4 => amongA s uw3 n cs b w T h1 h2 h3 h4)
  have A4 := Lib.hid (fun n cs b w T h1 h2 h3 h4 => amongA s uw4 n cs b w T h1 h2 h3 h4)
  have A5 := Lib.hid (fun n cs b w T h1 h2 h3 h4 => amongA s uw5 n cs b w T h1 h2 h3 h4)
  have A6 := Lib.hid (fun n cs b w T h1 h2 h3 h4 => amongA s uw6 n cs b w T h1 h2 h3 h4)
  generalize hitAt uw0 s 0 = h0 at *
  generalize hitAt uw1 s 0 = h1 at *
  generalize hitAt uw2 s 0 = h2 at *
  generalize hitAt uw3 s 0 = h3 at *
  generalize hitAt uw4 s 0 = h4 at *
  generalize hitAt uw5 s 0 = h5 at *
  generalize hitAt uw6 s 0 = h6 at *
  go_enter Tryd.func20, Tryd.ntmps20
  go_wp2_with fail
  refine (A0.out _ _ _ _ _ (by simp) rfl rfl (by decide)).mono ?_
  rintro e wn ⟨rfl, rfl⟩
  cases h0
  case true =>
    go_wp2_with fail
    go_ret
    exact ⟨ret_int (by rw [hu.out]; simp), (by have hb0 := (HG); (repeat first | with_reducible exact hb0 | with_reducible refine G.drewN ?_ _ | with_reducible refine G.drew ?_ | with_reducible refine G.alloc ?_ _ | with_reducible refine G.set ?_ _ (Or.inr rfl) | (with_reducible refine G.set ?_ _ (Or.inl ?_); rotate_left; focus (first | omega | (simp; done) | (simp; omega)))))⟩
  go_wp2_with fail
  refine (A1.out _ _ _ _ _ (by simp) rfl rfl (by decide)).mono ?_
  rintro e wn ⟨rfl, rfl⟩
  cases h1
  case true =>
    go_wp2_with fail
    go_ret
    exact ⟨ret_int (by rw [hu.out]; simp), (by have hb0 := (HG); (repeat first | with_reducible exact hb0 | with_reducible refine G.drewN ?_ _ | with_reducible refine G.drew ?_ | with_reducible refine G.alloc ?_ _ | with_reducible refine G.set ?_ _ (Or.inr rfl) | (with_reducible refine G.set ?_ _ (Or.inl ?_); rotate_left; focus (first | omega | (simp; done) | (simp; omega)))))⟩
  go_wp2_with fail
  refine (A2.out _ _ _ _ _ (by simp) rfl rfl (by decide)).mono ?_
  rintro e wn ⟨rfl, rfl⟩
  cases h2
  case true =>
    go_wp2_with fail
    go_ret
    exact ⟨ret_int (by rw [hu.out]; simp), (by have hb0 := (HG); (repeat first | with_reducible exact hb0 | with_reducible refine G.drewN ?_ _ | with_reducible refine G.drew ?_ | with_reducible refine G.alloc ?_ _ | with_reducible refine G.set ?_ _ (Or.inr rfl) | (with_reducible refine G.set ?_ _ (Or.inl ?_); rotate_left; focus (first | omega | (simp; done) | (simp; omega)))))⟩
  go_wp2_with fail
  refine (A3.out _ _ _ _ _ (by simp) rfl rfl (by decide)).mono ?_
  rintro e wn ⟨rfl, rfl⟩
  cases h3
  case true =>
    go_wp2_with fail
    go_ret
    exact ⟨ret_int (by rw [hu.out]; simp), (by have hb0 := (HG); (repeat first | with_reducible exact hb0 | with_reducible refine G.drewN ?_ _ | with_reducible refine G.drew ?_ | with_reducible refine G.alloc ?_ _ | with_reducible refine G.set ?_ _ (Or.inr rfl) | (with_reducible refine G.set ?_ _ (Or.inl ?_); rotate_left; focus (first | omega | (simp; done) | (simp; omega)))))⟩
  go_wp2_with fail
  refine (A4.out _ _ _ _ _ (by simp) rfl rfl (by decide)).mono ?_
  rintro e wn ⟨rfl, rfl⟩
  cases h4
  case true =>
    go_wp2_with fail
    go_ret
    exact ⟨ret_int (by rw [hu.out]; simp), (by have hb0 := (HG); (repeat first | with_reducible exact hb0 | with_reducible refine G.drewN ?_ _ | with_reducible refine G.drew ?_ | with_reducible refine G.alloc ?_ _ | with_reducible refine G.set ?_ _ (Or.inr rfl) | (with_reducible refine G.set ?_ _ (Or.inl ?_); rotate_left; focus (first | omega | (simp; done) | (simp; omega)))))⟩
  go_wp2_with fail
  refine (A5.out _ _ _ _ _ (by simp) rfl rfl (by decide)).mono ?_
  rintro e wn ⟨rfl, rfl⟩
  cases h5
  case true =>
    go_wp2_with fail
    go_ret
    exact ⟨ret_int (by rw [hu.out]; simp), (by have hb0 := (HG); (repeat first | with_reducible exact hb0 | with_reducible refine G.drewN ?_ _ | with_reducible refine G.drew ?_ | with_reducible refine G.alloc ?_ _ | with_reducible refine G.set ?_ _ (Or.inr rfl) | (with_reducible refine G.set ?_ _ (Or.inl ?_); rotate_left; focus (first | omega | (simp; done) | (simp; omega)))))⟩
  go_wp2_with fail
  refine (A6.out _ _ _ _ _ (by simp) rfl rfl (by decide)).mono ?_
  rintro e wn ⟨rfl, rfl⟩
  cases h6
  case true =>
    go_wp2_with fail
    go_ret
    exact ⟨ret_int (by rw [hu.out]; simp), (by have hb0 := (HG); (repeat first | with_reducible exact hb0 | with_reducible refine G.drewN ?_ _ | with_reducible refine G.drew ?_ | with_reducible refine G.alloc ?_ _ | with_reducible refine G.set ?_ _ (Or.inr rfl) | (with_reducible refine G.set ?_ _ (Or.inl ?_); rotate_left; focus (first | omega | (simp; done) | (simp; omega)))))⟩
  go_wp2_with fail
  go_ret
  exact ⟨ret_int (by rw [hu.out]; simp), (by have hb0 := (HG); (repeat first | with_reducible exact hb0 | with_reducible refine G.drewN ?_ _ | with_reducible refine G.drew ?_ | with_reducible refine G.alloc ?_ _ | with_reducible refine G.set ?_ _ (Or.inr rfl) | (with_reducible refine G.set ?_ _ (Or.inl ?_); rotate_left; focus (first | omega | (simp; done) | (simp; omega)))))⟩
end Go.Proofs.YtjfdaoedpdiaeaaDoor
