/-
  eap: a server and a peer side by side; law14.awake: chapter 14's example. No condition.
-/
import Derived.Test.YtobddmpiljknpaaEdA
import Derived.Test.YtobddmpiljknpaaB5
namespace Go.Proofs.Ytobddmpiljknpaa
open Go.RowKit
set_option linter.unusedVariables false
set_option linter.unusedSimpArgs false

/-- A table stands where a server's or a peer's block alone is written. -/
theorem TabAt.but {w w' : World} {T B : Nat} {us : List SV} {c0 : Array Value} {t : TypeId} (h : TabAt w T us) (hB : w.heap[B]? = some (.cells c0 t (0, 0))) (hb : ∀ k, k ≠ B → k < w.heap.size → w'.heap[k]? = w.heap[k]?) (h1 : t ≠ 165) (h2 : t ≠ 44) (h3 : t ≠ 2) : TabAt w' T us := by
  obtain ⟨v, hT, hs⟩ := h
  have hTB : T ≠ B := fun e => by
    rw [e, hB] at hT
    injection hT with hT
    injection hT with _ hT _
    exact h1 hT
  exact ⟨v, (hb T hTB (at_lt hT)).trans hT, own_heap2 hs.row (fun k hk => hb k (fun e => own_type_ne hs.row hB h2 (e ▸ hk)) (own_lt hs.row k hk)), fun u hu => own_heap2 (hs.each u hu) (fun k hk => hb k (fun e => own_type_ne (hs.each u hu) hB h3 (e ▸ hk)) (own_lt (hs.each u hu) k hk)), hs.apart, hs.size⟩
theorem TabLow.but {w w' : World} {P T B : Nat} {us : List SV} {c0 c1 : Array Value} {t : TypeId} (h : TabLow w P T us) (hP : P ≤ w.heap.size) (hB : w.heap[B]? = some (.cells c0 t (0, 0))) (hB' : w'.heap[B]? = some (.cells c1 t (0, 0))) (hb : But w w' B) (h1 : t ≠ 165) (h2 : t ≠ 44) (h3 : t ≠ 2) : TabLow w' P T us := by
  refine ⟨h.t.but hB (fun k hk hl => hb.block k hl hk) h1 h2 h3, fun w2 hw2 => ?_⟩
  rcases Nat.lt_or_ge B P with hBP | hBP
  · have h2B : w2.heap[B]? = some (.cells c1 t (0, 0)) := (hw2 B hBP).trans hB'
    have hr := setRow_heap w2 B c1 c0 t (0, 0) h2B
    have ht : TabAt (w2.setRow B c0) T us := h.kept _ fun k hk => by
      by_cases e : k = B
      · subst e
        exact hr.trans hB.symm
      · exact (setRow_other _ _ _ _ e).trans ((hw2 k hk).trans (hb.block k (by omega) e))
    exact ht.but hr (fun k hk _ => (setRow_other _ _ _ _ hk).symm) h1 h2 h3
  · exact h.kept w2 fun k hk => (hw2 k hk).trans (hb.block k (by omega) (by omega))
section
variable {w w' : World} {B T P S : Nat} {nm pn nt : ByteArray} {tries st : Int} {s : SS} {us vs : List SV} {LA : Option Addr} {lk : Nat}
theorem EPeer.but {c0 c1 : Array Value} (k : EPeer w P S pn st nt vs) (hB : w.heap[B]? = some (.cells c0 127 (0, 0))) (hB' : w'.heap[B]? = some (.cells c1 127 (0, 0))) (hb : But w w' B) : EPeer w' P S pn st nt vs := by
  have hne : P ≠ B := fun e => by
    have h1 := k.b
    rw [e, hB] at h1
    injection h1 with h1
    injection h1 with _ h1 _
    exact absurd h1 (by decide)
  exact ⟨hb.at hne k.b, k.t.but (Nat.le_of_lt (at_lt k.b)) hB hB' hb (by decide) (by decide) (by decide), k.l, k.nml⟩
theorem ESrv.but {c0 c1 : Array Value} (k : ESrv w B T nm tries s us LA lk) (hP : w.heap[P]? = some (.cells c0 145 (0, 0))) (hP' : w'.heap[P]? = some (.cells c1 145 (0, 0))) (hb : But w w' P) : ESrv w' B T nm tries s us LA lk := by
  have hne : B ≠ P := fun e => by
    have h1 := k.b
    rw [e, hP] at h1
    injection h1 with h1
    injection h1 with _ h1 _
    exact absurd h1 (by decide)
  have hno : (Value.slice LA s.ld.length lk).ownBlock ≠ some P := own_type_ne k.own hP (by decide)
  have hln : ∀ ad, LA = some ad → ad.block ≠ P := fun ad ha e => hno (by rw [ha, ← e]; rfl)
  exact ⟨hb.at hne k.b, k.t.but (Nat.le_of_lt (at_lt k.b)) hP hP' hb (by decide) (by decide) (by decide), k.l, k.due, k.dueb, k.id, hb.cells k.last (fun ad ha => ⟨hln ad ha, (k.far ad ha).2⟩), fun ad ha => ⟨(k.far ad ha).1, Nat.lt_of_lt_of_le (k.far ad ha).2 hb.size⟩, k.ll, k.nml,
    own_heap2 k.own fun j hj => hb.block j (own_lt k.own j hj) (fun e => hno (e ▸ hj))⟩
end
end Go.Proofs.Ytobddmpiljknpaa
