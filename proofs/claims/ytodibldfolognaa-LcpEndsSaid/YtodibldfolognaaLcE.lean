/-
  Three lists of options of a call's own, side by side. No condition.
-/
import Derived.Test.YtodibldfolognaaOptSub
import Derived.Test.YtodibldfolognaaExt
namespace Go.Proofs.Ytodibldfolognaa
open Go.RowKit
set_option linter.unusedVariables false
set_option linter.unusedSimpArgs false

/-- The blocks of a list of options. -/
def Bl (v : Value) (us : List OV) (k : Nat) : Prop := v.ownBlock = some k ∨ ∃ u ∈ us, (Value.slice u.A u.n u.c).ownBlock = some k
section
variable {w w' W W1 w2 : World} {base : Nat} {v v2 vb vo va : Value} {us bs zs : List OV} {u : OV}
theorem OptsOwn.young (h : OptsOwn w base v us) : ∀ k, Bl v us k → base ≤ k ∧ k < w.heap.size := by
  rintro k (hk | ⟨u, hu, hk⟩)
  · exact ⟨own_base h.1 k hk, own_lt h.1 k hk⟩
  · exact ⟨own_base (h.2.1 u hu) k hk, own_lt (h.2.1 u hu) k hk⟩
theorem own_not {row : Option Nat} {n size : Nat} {e : TypeId} {cs : List Value} (h : w.ownsRow base e size v n cs) (hg : w.grownBy w' row) (hn : ∀ k, v.ownBlock = some k → row ≠ some k) : w'.ownsRow base e size v n cs := by
  refine own_grown h hg ?_
  cases hv : v.ownBlock with
  | none => exact .inl rfl
  | some k => exact .inr fun e => hn k hv e.symm
theorem OptsOwn.kept {row : Option Nat} (h : OptsOwn w base v us) (hg : w.grownBy w' row) (hn : ∀ k, Bl v us k → row ≠ some k) : OptsOwn w' base v us :=
  ⟨own_not h.1 hg fun k hk => hn k (.inl hk), fun u hu => own_not (h.2.1 u hu) hg fun k hk => hn k (.inr ⟨u, hu, hk⟩), h.2.2⟩
structure Three (w : World) (base : Nat) (vb vo va : Value) (bs us zs : List OV) : Prop where
  b : OptsOwn w base vb bs
  o : OptsOwn w base vo us
  z : OptsOwn w base va zs
  bo : ∀ k, Bl vb bs k → ¬ Bl vo us k
  bz : ∀ k, Bl vb bs k → ¬ Bl va zs k
  oz : ∀ k, Bl vo us k → ¬ Bl va zs k
theorem bl_nil (k : Nat) : ¬ Bl (.slice none 0 0) [] k := by
  rintro (h | ⟨u, hu, _⟩)
  · cases h
  · cases hu
theorem Three.nil_ (w : World) (base : Nat) : Three w base (.slice none 0 0) (.slice none 0 0) (.slice none 0 0) [] [] [] :=
  ⟨OptsOwn.nil_ _ _, OptsOwn.nil_ _ _, OptsOwn.nil_ _ _, fun k h => absurd h (bl_nil k), fun k h => absurd h (bl_nil k), fun k h => absurd h (bl_nil k)⟩
theorem Three.ext [h : Ext w w'] (k : Three w base vb vo va bs us zs) : Three w' base vb vo va bs us zs := ⟨k.b.ext, k.o.ext, k.z.ext, k.bo, k.bz, k.oz⟩
theorem Three.left (k : Three w base vb vo va bs us zs) : Three w base vo vb va us bs zs := ⟨k.o, k.b, k.z, fun i h h' => k.bo i h' h, k.oz, k.bz⟩
theorem Three.ends (k : Three w base vb vo va bs us zs) : Three w base va vo vb zs us bs := ⟨k.z, k.o, k.b, fun i h h' => k.oz i h' h, fun i h h' => k.bz i h' h, fun i h h' => k.bo i h' h⟩
theorem Three.push (H : Three W base vb vo va bs us zs) (hB : base ≤ W.heap.size) (e1 : Ext W W1) (ho1 : W1.ownsRow W.heap.size 5 1 (.slice u.A u.n u.c) u.n (nums .u8 u.d)) (hok : u.d.length = u.n ∧ u.n ≤ 140737488355300 ∧ Byt u.d)
    (ho2 : w2.ownsRow base 119 2 v2 (bs.length + 1) (flat bs ++ u.cells)) (hg : W1.grownBy w2 vb.ownBlock) (hat : v2.ownBlock = vb.ownBlock ∨ ∃ b, v2.ownBlock = some b ∧ W1.heap.size ≤ b) :
    Three w2 base v2 vo va (bs ++ [u]) us zs := by
  have hz := e1.out.size
  have hnew : ∀ k, Bl v2 (bs ++ [u]) k → Bl vb bs k ∨ W.heap.size ≤ k := by
    rintro k (hk | ⟨x, hx, hk⟩)
    · rcases hat with h | ⟨b, h, hb⟩
      · exact .inl (.inl (h ▸ hk))
      · rw [h] at hk
        injection hk with hk
        exact .inr (by omega)
    · rcases List.mem_append.1 hx with hx | hx
      · exact .inl (.inr ⟨x, hx, hk⟩)
      · rw [List.mem_singleton] at hx
        subst hx
        exact .inr (own_base ho1 k hk)
  refine ⟨OptsOwn.push H.b hB e1 ho1 hok ho2 hg hat, (H.o.ext (w' := W1)).kept hg fun k hk e => H.bo k (.inl e) hk, (H.z.ext (w' := W1)).kept hg fun k hk e => H.bz k (.inl e) hk, ?_, ?_, H.oz⟩
  · intro k hk hk'
    rcases hnew k hk with h | h
    · exact H.bo k h hk'
    · have := (H.o.young k hk').2; omega
  · intro k hk hk'
    rcases hnew k hk with h | h
    · exact H.bz k h hk'
    · have := (H.z.young k hk').2; omega
end
end Go.Proofs.Ytodibldfolognaa
