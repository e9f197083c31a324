/-
  Three lists of options of a call's own, told apart: two that hold options that came in, one whose options are new. No condition.
-/
import Derived.Test.YtnhmpmibkpoipaaOptW
namespace Go.Proofs.Ytnhmpmibkpoipaa
open Go.RowKit
set_option linter.unusedVariables false

/-- Two values do not lie in one block. -/
def Apt (x y : Value) : Prop := ∀ g, x.ownBlock = some g → y.ownBlock ≠ some g
theorem Apt.symm {x y : Value} (h : Apt x y) : Apt y x := fun g hy hx => h g hx hy
theorem Apt.nil_ (y : Value) : Apt (.slice none 0 0) y := fun g hg => by cases hg
section
variable {base n size n' size' : Nat} {e e' : TypeId} {x x' y : Value} {cs cs' : List Value} {w w' W W1 w2 : World}
theorem own_apt (h : W.ownsRow base e size x n cs) (hg : W.grownBy w2 y.ownBlock) (ha : Apt x y) : w2.ownsRow base e size x n cs := own_grown h hg (by
  rcases hx : x.ownBlock with _ | g
  · exact .inl rfl
  · exact .inr fun he => ha g hx he.symm)
theorem apt_new (hat : x'.ownBlock = x.ownBlock ∨ ∃ b, x'.ownBlock = some b ∧ W1.heap.size ≤ b) (ha : Apt x y) (hy : ∀ g, y.ownBlock = some g → g < W1.heap.size) : Apt x' y := fun g hg hyg => by
  rcases hat with h | ⟨b, h, hb⟩
  · rw [h] at hg
    exact ha g hg hyg
  · rw [h] at hg
    injection hg with hg
    have := hy g hyg
    omega
end
def Sep3 (w : World) (base : Nat) (vb vo va : Value) (bs us zs : List OV) : Prop :=
  (w.ownsRow base 109 2 vb bs.length (flat bs) ∧ OptsOwn w base vo us ∧ w.ownsRow base 109 2 va zs.length (flat zs)) ∧
  (Apt vb vo ∧ Apt vb va ∧ Apt vo va) ∧ ∀ u ∈ us, Apt (.slice u.A u.n u.c) vb ∧ Apt (.slice u.A u.n u.c) va
section
variable {w w' W W1 w2 : World} {base : Nat} {vb vo va v2 : Value} {bs us zs : List OV} {v u : OV}
theorem Sep3.nil_ (w : World) (base : Nat) : Sep3 w base (.slice none 0 0) (.slice none 0 0) (.slice none 0 0) [] [] [] :=
  ⟨⟨own_nil _ _ _ _, OptsOwn.nil_ _ _, own_nil _ _ _ _⟩, ⟨Apt.nil_ _, Apt.nil_ _, Apt.nil_ _⟩, fun u hu => by simp at hu⟩
theorem Sep3.ext [h : Ext w w'] (k : Sep3 w base vb vo va bs us zs) : Sep3 w' base vb vo va bs us zs := ⟨⟨own_ext k.1.1, k.1.2.1.ext, own_ext k.1.2.2⟩, k.2⟩
theorem Sep3.swap (k : Sep3 w base vb vo va bs us zs) : Sep3 w base va vo vb zs us bs := ⟨⟨k.1.2.2, k.1.2.1, k.1.1⟩, ⟨k.2.1.2.2.symm, k.2.1.2.1.symm, k.2.1.1.symm⟩, fun u hu => ⟨(k.2.2 u hu).2, (k.2.2 u hu).1⟩⟩
theorem OptsOwn.apt (k : OptsOwn W base vo us) (hg : W.grownBy w2 v2.ownBlock) (ha : Apt vo v2) (hu : ∀ u ∈ us, Apt (.slice u.A u.n u.c) v2) : OptsOwn w2 base vo us :=
  ⟨own_apt k.1 hg ha, fun u h => own_apt (k.2.1 u h) hg (hu u h), k.2.2⟩
theorem Sep3.bad (H : Sep3 W base vb vo va bs us zs) (e1 : Ext W W1) (ho2 : w2.ownsRow base 109 2 v2 (bs.length + 1) (flat bs ++ v.cells)) (hg : W1.grownBy w2 vb.ownBlock) (hat : v2.ownBlock = vb.ownBlock ∨ ∃ b, v2.ownBlock = some b ∧ W1.heap.size ≤ b) :
    Sep3 w2 base v2 vo va (bs ++ [v]) us zs := by
  have H1 : Sep3 W1 base vb vo va bs us zs := H.ext
  obtain ⟨⟨h1, h2, h3⟩, ⟨a1, a2, a3⟩, hu⟩ := H1
  refine ⟨⟨?_, h2.apt hg a1.symm (fun u h => (hu u h).1), own_apt h3 hg a2.symm⟩, ⟨apt_new hat a1 fun g hg => own_lt h2.1 g hg, apt_new hat a2 fun g hg => own_lt h3 g hg, a3⟩, fun u h => ⟨(apt_new hat (hu u h).1.symm fun g hg => own_lt (h2.2.1 u h) g hg).symm, (hu u h).2⟩⟩
  rw [flat_append, List.length_append, List.length_singleton]
  simpa [flat] using ho2
theorem Sep3.good (H : Sep3 W base vb vo va bs us zs) (e1 : Ext W W1) (ho2 : w2.ownsRow base 109 2 v2 (zs.length + 1) (flat zs ++ v.cells)) (hg : W1.grownBy w2 va.ownBlock) (hat : v2.ownBlock = va.ownBlock ∨ ∃ b, v2.ownBlock = some b ∧ W1.heap.size ≤ b) :
    Sep3 w2 base vb vo v2 bs us (zs ++ [v]) := (H.swap.bad e1 ho2 hg hat).swap
theorem Sep3.other (H : Sep3 W base vb vo va bs us zs) (hB : base ≤ W.heap.size) (e1 : Ext W W1) (ho1 : W1.ownsRow W.heap.size 5 1 (.slice u.A u.n u.c) u.n (nums .u8 u.d)) (hok : u.d.length = u.n ∧ u.n ≤ 140737488355300 ∧ Byt u.d)
    (ho2 : w2.ownsRow base 109 2 v2 (us.length + 1) (flat us ++ u.cells)) (hg : W1.grownBy w2 vo.ownBlock) (hat : v2.ownBlock = vo.ownBlock ∨ ∃ b, v2.ownBlock = some b ∧ W1.heap.size ≤ b) :
    Sep3 w2 base vb v2 va bs (us ++ [u]) zs := by
  have H1 : Sep3 W1 base vb vo va bs us zs := H.ext
  have hz : W.heap.size ≤ W1.heap.size := e1.out.size
  have hb0 : ∀ g, vb.ownBlock = some g → g < W.heap.size := fun g hg => own_lt H.1.1 g hg
  have ha0 : ∀ g, va.ownBlock = some g → g < W.heap.size := fun g hg => own_lt H.1.2.2 g hg
  have hu0 : ∀ g, (Value.slice u.A u.n u.c).ownBlock = some g → W.heap.size ≤ g := fun g hg => own_base ho1 g hg
  refine ⟨⟨own_apt H1.1.1 hg H1.2.1.1, OptsOwn.push H.1.2.1 hB e1 ho1 hok ho2 hg hat, own_apt H1.1.2.2 hg H1.2.1.2.2.symm⟩, ⟨(apt_new hat H1.2.1.1.symm fun g hg => own_lt H1.1.1 g hg).symm, H1.2.1.2.1, apt_new hat H1.2.1.2.2 fun g hg => own_lt H1.1.2.2 g hg⟩, fun x hx => ?_⟩
  rcases List.mem_append.1 hx with hx | hx
  · exact H1.2.2 x hx
  · simp at hx
    subst hx
    exact ⟨fun g h1 h2 => by have := hu0 g h1; have := hb0 g h2; omega, fun g h1 h2 => by have := hu0 g h1; have := ha0 g h2; omega⟩
end
end Go.Proofs.Ytnhmpmibkpoipaa
