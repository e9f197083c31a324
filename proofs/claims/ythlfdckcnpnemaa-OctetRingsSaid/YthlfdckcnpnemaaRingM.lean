/-
  PLAIN MATHEMATICS of a ring's bytes: what a write leaves. No program in sight.
-/
import Derived.Laws.CopyOwn
import Derived.Test.YthlfdckcnpnemaaMath
namespace Go.Proofs.Ythlfdckcnpnemaa
set_option linter.unusedVariables false
set_option linter.unusedSimpArgs false

/-- buf holds q, round about, from place i on. -/
def Holds (buf : List Int) (i : Nat) (q : List Int) : Prop := q.length ≤ buf.length ∧ i < buf.length ∧ ∀ j, j < q.length → q.getD j 0 = buf.getD ((i + j) % buf.length) 0

theorem getD_splice (L : List Int) (off : Nat) (cs : List Int) (h : off + cs.length ≤ L.length) (j : Nat) : (splice L off cs).getD j 0 = if j < off then L.getD j 0 else if j < off + cs.length then cs.getD (j - off) 0 else L.getD j 0 := by
  unfold splice
  have hl : (L.take off).length = off := by simp; omega
  by_cases h1 : j < off
  · rw [if_pos h1, List.getD_eq_getElem?_getD, List.getElem?_append_left (by omega), List.getElem?_take_of_lt h1, ← List.getD_eq_getElem?_getD]
  · rw [if_neg h1, List.getD_eq_getElem?_getD, List.getElem?_append_right (by omega), hl]
    by_cases h2 : j < off + cs.length
    · rw [if_pos h2, List.getElem?_append_left (by omega), ← List.getD_eq_getElem?_getD]
    · rw [if_neg h2, List.getElem?_append_right (by omega), List.getElem?_drop, ← List.getD_eq_getElem?_getD]
      congr 1
      omega
theorem mod_two {a L : Nat} (h : a < 2 * L) (hL : 0 < L) : (a < L ∧ a % L = a) ∨ (L ≤ a ∧ a % L = a - L) := by
  by_cases h1 : a < L
  · exact .inl ⟨h1, Nat.mod_eq_of_lt h1⟩
  · refine .inr ⟨by omega, ?_⟩
    rw [Nat.mod_eq_sub_mod (by omega), Nat.mod_eq_of_lt (by omega)]
theorem holds_write {buf q bs : List Int} {i n t k1 : Nat} (h : Holds buf i q) (hn : n + q.length ≤ buf.length) (hb : n ≤ bs.length) (ht : t = (i + q.length) % buf.length) (hk : k1 = min (buf.length - t) n) :
    Holds (splice (splice buf t (bs.take k1)) 0 ((bs.drop k1).take (n - k1))) i (q ++ bs.take n) ∧ (splice (splice buf t (bs.take k1)) 0 ((bs.drop k1).take (n - k1))).length = buf.length := by
  obtain ⟨h1, h2, h3⟩ := h
  have hlt : t < buf.length := by rw [ht]; exact Nat.mod_lt _ (by omega)
  have hx : (bs.take k1).length = k1 := by simp; omega
  have hy : ((bs.drop k1).take (n - k1)).length = n - k1 := by simp; omega
  have hl1 : (splice buf t (bs.take k1)).length = buf.length := length_splice _ _ _ (by rw [hx]; omega)
  have hl2 : (splice (splice buf t (bs.take k1)) 0 ((bs.drop k1).take (n - k1))).length = buf.length := by rw [length_splice _ _ _ (by rw [hy, hl1]; omega), hl1]
  have hmt := mod_two (a := i + q.length) (L := buf.length) (by omega) (by omega)
  rw [← ht] at hmt
  refine ⟨⟨by rw [hl2, List.length_append, List.length_take]; omega, by rw [hl2]; exact h2, fun j hj => ?_⟩, hl2⟩
  rw [List.length_append, List.length_take] at hj
  rw [hl2]
  have hmj := mod_two (a := i + j) (L := buf.length) (by omega) (by omega)
  generalize hp : (i + j) % buf.length = p at *
  rw [getD_splice _ _ _ (by rw [hy, hl1]; omega), getD_splice _ _ _ (by rw [hx]; omega), hx, hy, if_neg (by omega)]
  by_cases hjq : j < q.length
  · rw [List.getD_eq_getElem?_getD, List.getElem?_append_left hjq, ← List.getD_eq_getElem?_getD, h3 j hjq, hp]
    rw [if_neg (by omega)]
    by_cases hpt : p < t
    · rw [if_pos hpt]
    · rw [if_neg hpt, if_neg (by omega)]
  · rw [List.getD_eq_getElem?_getD, List.getElem?_append_right (by omega), List.getElem?_take_of_lt (by omega), ← List.getD_eq_getElem?_getD]
    by_cases hw : p < 0 + (n - k1)
    · have e1 : j - q.length = k1 + (p - 0) := by omega
      rw [if_pos hw, List.getD_eq_getElem?_getD, List.getD_eq_getElem?_getD, List.getElem?_take_of_lt (by omega), List.getElem?_drop, e1]
    · have e1 : j - q.length = p - t := by omega
      rw [if_neg hw, if_neg (by omega), if_pos (by omega), List.getD_eq_getElem?_getD, List.getD_eq_getElem?_getD, List.getElem?_take_of_lt (by omega), e1]
theorem byt_splice {L cs : List Int} (off : Nat) (h : Byt L) (k : Byt cs) : Byt (splice L off cs) := by
  unfold splice
  exact (h.take _).append (k.append (h.drop _))
end Go.Proofs.Ythlfdckcnpnemaa
