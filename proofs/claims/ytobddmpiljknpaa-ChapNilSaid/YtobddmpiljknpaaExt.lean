/-
  A WORLD BEHIND ANOTHER: all that was there stands as it stood. Facts are carried over by instances. No condition.
-/
import Derived.Test.YtobddmpiljknpaaBase2
namespace Go.Proofs.Ytobddmpiljknpaa
open Go.RowKit

/-- All blocks of w stand in w' as they stood. -/
class Ext (w w' : World) : Prop where
  out : Below w.heap.size w w'
/-- w' has come out of w by a call (or by more than one). -/
class Step (w' : World) (w : outParam World) : Prop where
  out : Below w.heap.size w w'
instance Ext.refl_ (w : World) : Ext w w := ⟨Below.refl _ _⟩
instance Ext.alloc_ (w w' : World) (o : Obj) [h : Ext w w'] : Ext w (w'.alloc o) := ⟨h.out.alloc h.out.size o⟩
instance Ext.drew_ (w w' : World) [h : Ext w w'] : Ext w w'.drew := ⟨below_drewN h.out 1⟩
instance Ext.drewN_ (w w' : World) (n : Nat) [h : Ext w w'] : Ext w (w'.drewN n) := ⟨below_drewN h.out n⟩
instance Ext.step_ (w w1 w' : World) [k : Step w' w1] [h : Ext w w1] : Ext w w' := ⟨h.out.trans (k.out.mono h.out.size)⟩
theorem Ext.trans_ {w w1 w2 : World} (h : Ext w w1) (k : Ext w1 w2) : Ext w w2 := ⟨h.out.trans (k.out.mono h.out.size)⟩
theorem Step.drawn {w w' : World} (h : Drawn w w') : Step w' w := ⟨h.below⟩
/-- A store into what is younger. -/
instance Ext.set_ (w w1 w' : World) (i : Nat) (u : Value) [k : Ext w w1] [h : Ext w w'] : Ext w (w'.setCell ⟨w1.heap.size, i, none⟩ u) := ⟨h.out.setCell (p := ⟨w1.heap.size, i, none⟩) k.out.size u⟩
instance Ext.setp_ (w w1 w' : World) (j i : Nat) (u : Value) [k : Ext w w1] [h : Ext w w'] : Ext w (w'.setCell ⟨w1.heap.size + j, i, none⟩ u) := ⟨h.out.setCell (p := ⟨w1.heap.size + j, i, none⟩) (Nat.le_trans k.out.size (Nat.le_add_right _ _)) u⟩
theorem at_new1 {w : World} {o : Obj} {g : Nat} (h : w.heap.size = g) : (w.alloc o).heap[g]? = some o := by
  subst h
  exact at_new w o
theorem own_young {w : World} {base n size : Nat} {e : TypeId} {v : Value} {cs : List Value} {p : Addr} {u : Value} (h : w.ownsRow base e size v n cs) (hp : p.block < base) : (w.setCell p u).ownsRow base e size v n cs :=
  own_setCell h (fun he => by have := own_base h _ he; omega) u
theorem at_set2 {w : World} {g : Nat} {t : TypeId} {x y : Value} (a b : Value) (h : w.heap[g]? = some (.cells #[x, y] t (0, 0))) : ((w.setCell ⟨g, 0, none⟩ a).setCell ⟨g, 1, none⟩ b).heap[g]? = some (.cells #[a, b] t (0, 0)) := at_set (at_set h 0 a) 1 b
theorem at_set3 {w : World} {g : Nat} {t : TypeId} {x y z : Value} (a b c : Value) (h : w.heap[g]? = some (.cells #[x, y, z] t (0, 0))) : (((w.setCell ⟨g, 0, none⟩ a).setCell ⟨g, 1, none⟩ b).setCell ⟨g, 2, none⟩ c).heap[g]? = some (.cells #[a, b, c] t (0, 0)) := at_set (at_set (at_set h 0 a) 1 b) 2 c
section
variable {w w' : World} {A : Option Addr} {cs : List Value}
theorem Cells.ext [h : Ext w w'] (k : Cells w A cs) : Cells w' A cs := k.below h.out
theorem own_ext {base n size : Nat} {e : TypeId} {v : Value} [h : Ext w w'] (k : w.ownsRow base e size v n cs) : w'.ownsRow base e size v n cs := own_below k h.out
theorem cell_ext {p : Addr} {u : Value} [h : Ext w w'] (k : w.cell? p = some u) : w'.cell? p = some u := (h.out.cell (World.block_lt_of_cell? _ _ k)).trans k
theorem at_ext {g : Nat} {o : Obj} [h : Ext w w'] (k : w.heap[g]? = some o) : w'.heap[g]? = some o := at_below k h.out
theorem size_ext [h : Ext w w'] : w.heap.size ≤ w'.heap.size := h.out.size
/-- What was written lies in a row that is younger than w0. -/
theorem Step.wrote {w0 w w1 : World} {row : Option Nat} [h : Ext w0 w] (hg : w.grownBy w1 row) (hr : ∀ k, row = some k → w0.heap.size ≤ k) : Step w1 w0 := ⟨below_grown h.out h.out.size hg hr⟩
end
end Go.Proofs.Ytobddmpiljknpaa
