/-
  chap: what a packet that is read is; whose word: what is known of it. No condition.
-/
import Derived.Test.YtobddmpiljknpaaChD
namespace Go.Proofs.Ytobddmpiljknpaa
open Go.RowKit
set_option linter.unusedVariables false
set_option linter.unusedSimpArgs false

theorem prtF_some {xs p r : List Int} (hb : Byt xs) (h : prtF xs = some (p, r)) : (Byt p ∧ p.length ≤ 255) ∧ Byt r ∧ r.length ≤ xs.length := by
  cases xs with
  | nil => cases h
  | cons x xs =>
    have h' : (if (xs.length : Int) < x then none else some (xs.take x.toNat, xs.drop x.toNat)) = some (p, r) := h
    split at h'
    · cases h'
    · injection h' with h'
      injection h' with h1 h2
      subst h1 h2
      have hx := hb x (by simp)
      refine ⟨⟨fun y hy => hb y (List.mem_cons_of_mem _ (List.mem_of_mem_take hy)), ?_⟩, fun y hy => hb y (List.mem_cons_of_mem _ (List.mem_of_mem_drop hy)), ?_⟩
      · rw [List.length_take]; omega
      · rw [List.length_drop, List.length_cons]; omega
theorem rdF_all {code id e : Int} {xs p r : List Int} (hb : Byt xs) (h : rdF code id xs = ((p, r), e)) : (Byt p ∧ p.length ≤ 255) ∧ Byt r ∧ r.length ≤ xs.length := by
  have nl : ∀ k : Int, (([], []), k) = ((p, r), e) → (Byt p ∧ p.length ≤ 255) ∧ Byt r ∧ r.length ≤ xs.length := by
    intro k e
    injection e with e _
    injection e with e1 e2
    subst e1 e2
    exact ⟨⟨fun _ h => (by cases h), Nat.zero_le _⟩, fun _ h => (by cases h), Nat.zero_le _⟩
  unfold rdF ptsF at h
  split at h
  · exact nl _ h
  split at h
  · exact nl _ h
  · rename_i p1 r1 h1
    split at h
    · exact nl _ h
    · split at h
      · exact nl _ h
      · injection h with h _
        injection h with e1 e2
        subst e1 e2
        exact prtF_some hb h1
theorem best_gate {c s : List Int} : ∀ (us : List SV) (i : Nat) (p : Int × Nat), bestF c s i us p = p ∨ ∃ j u, us[j]? = some u ∧ (bestF c s i us p).2 = i + j ∧ gateF c s u = false := by
  intro us
  induction us with
  | nil => intro i p; exact .inl rfl
  | cons u us ih =>
    intro i p
    rw [bestF_cons]
    by_cases hs : gateF c s u = false ∧ p.1 < rankF c s u
    · have he : bestStep c s i u p = (rankF c s u, i) := if_pos hs
      rw [he]
      rcases ih (i + 1) (rankF c s u, i) with h | ⟨j, v, h1, h2, h3⟩
      · exact .inr ⟨0, u, rfl, by rw [h]; rfl, hs.1⟩
      · exact .inr ⟨j + 1, v, by simpa using h1, by rw [h2]; omega, h3⟩
    · have he : bestStep c s i u p = p := if_neg hs
      rw [he]
      rcases ih (i + 1) p with h | ⟨j, v, h1, h2, h3⟩
      · exact .inl h
      · exact .inr ⟨j + 1, v, by simpa using h1, by rw [h2]; omega, h3⟩
theorem find_gate {c s : List Int} {us : List SV} {u : SV} (h : findF c s us = some u) : gateF c s u = false := by
  unfold findF at h
  split at h
  · cases h
  · rename_i hz
    rcases best_gate us 0 (-1, 0) with h1 | ⟨j, v, h1, h2, h3⟩
    · rw [h1] at hz; simp at hz
    · rw [h2, Nat.zero_add, h1] at h
      injection h with h
      subst h
      exact h3
theorem right_word {u : SV} (h : u.right = 0) : u.d.size ≤ 64 := by
  unfold SV.right rightF at h
  split at h
  · cases h
  split at h
  · cases h
  · rename_i h1
    rw [← strB_len]
    by_cases h2 : strB u.d = []
    · rw [h2]; simp
    · have h3 : nameF (strB u.d) = true := by
        rcases h4 : nameF (strB u.d) with _ | _
        · exact absurd ⟨h2, h4⟩ h1
        · rfl
      unfold nameF at h3
      simp only [Bool.and_eq_true, decide_eq_true_eq] at h3
      omega
theorem secW_size {c s : List Int} {us : List SV} : (secW c s us).size ≤ 64 := by
  unfold secW
  split
  · exact Nat.zero_le _
  · rename_i u h
    refine right_word (Classical.byContradiction fun hr => ?_)
    have h1 := find_gate h
    rw [gate5 hr] at h1
    cases h1
end Go.Proofs.Ytobddmpiljknpaa
