/-
  pap.NewServer: an authenticator. Conditions: sizes.
-/
import Derived.Test.YtobddmpiljknpaaB3
namespace Go.Proofs.Ytobddmpiljknpaa
open Go.RowKit
set_option linter.unusedVariables false
set_option linter.unusedSimpArgs false

theorem own_heap2 {w w' : World} {base n size : Nat} {e : TypeId} {v : Value} {cs : List Value} (h : w.ownsRow base e size v n cs) (hh : ∀ k, v.ownBlock = some k → w'.heap[k]? = w.heap[k]?) : w'.ownsRow base e size v n cs := by
  refine ⟨h.1, ?_⟩
  rcases h.2 with h' | ⟨g, cap, cur, h1, h2, h3, h4⟩
  · exact .inl h'
  · exact .inr ⟨g, cap, cur, h1, h2, (hh g (by rw [h1]; rfl)).trans h3, h4⟩
/-- A table that lies below a block. -/
structure TabLow (w : World) (B T : Nat) (us : List SV) : Prop where
  t : TabAt w T us
  kept : ∀ w' : World, (∀ k, k < B → w'.heap[k]? = w.heap[k]?) → TabAt w' T us
theorem TabAt.low {w : World} {T : Nat} {us : List SV} (h : TabAt w T us) : TabLow w w.heap.size T us := by
  refine ⟨h, fun w' hh => ?_⟩
  obtain ⟨v, h1, h2⟩ := h
  exact ⟨v, (hh T (at_lt h1)).trans h1, own_heap2 h2.row (fun k hk => hh k (own_lt h2.row k hk)), fun u hu => own_heap2 (h2.each u hu) (fun k hk => hh k (own_lt (h2.each u hu) k hk)), h2.apart, h2.size⟩
theorem TabLow.move {w w' : World} {B T : Nat} {us : List SV} (h : TabLow w B T us) (hh : ∀ k, k < B → w'.heap[k]? = w.heap[k]?) : TabLow w' B T us :=
  ⟨h.kept w' hh, fun w2 h2 => h.kept w2 fun k hk => (h2 k hk).trans (hh k hk)⟩
end Go.Proofs.Ytobddmpiljknpaa
