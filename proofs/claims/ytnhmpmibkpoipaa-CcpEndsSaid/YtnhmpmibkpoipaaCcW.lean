/-
  ccp: what Judge tells fits the request. No condition.
-/
import Derived.Test.YtnhmpmibkpoipaaCcR
import Derived.Test.YtnhmpmibkpoipaaFits
import Derived.Test.YtnhmpmibkpoipaaOptSub
namespace Go.Proofs.Ytnhmpmibkpoipaa
open Go.RowKit
set_option linter.unusedVariables false
set_option linter.unusedSimpArgs false

def JInv (os : OL) (k : Nat) (s : OL × OL × OL) : Prop :=
  s.1.Sublist (os.take k) ∧ s.2.2.Sublist (os.take k) ∧ (∀ o ∈ s.2.1, 0 ≤ placeF os o.1 ∧ placeF os o.1 < k) ∧ s.2.1.Pairwise (fun a b => placeF os a.1 ≤ placeF os b.1) ∧ (s.2.2 = [] → s.2.1 = [])
theorem not_hasT {os : OL} {t : Int} (h : hasT os t = false) : ∀ x ∈ os, x.1 ≠ t := by
  intro x hx he
  unfold hasT at h
  rw [List.any_eq_false] at h
  exact h x hx (by simpa using he)
theorem othF_type {df bs : Int} {o y : Int × List Int} (h : othF df bs o = some y) : y.1 = o.1 := by
  unfold othF at h
  split at h
  · rename_i h1
    injection h with h
    rw [← h]
    exact h1.1.symm
  · split at h
    · rename_i h1
      injection h with h
      rw [← h]
      exact h1.1.symm
    · cases h
theorem borne_hasT {df bs : Int} {pre : OL} {o : Int × List Int} (h : borneF df bs pre o = true) : hasT pre o.1 = false := by
  rcases hT : hasT pre o.1 with _ | _
  · rfl
  · obtain ⟨t, xs⟩ := o
    rw [borneF_twice hT] at h
    cases h
theorem jInv_step {df bs : Int} {os : OL} {k : Nat} {s : OL × OL × OL} {o : Int × List Int} (h : JInv os k s) (ho : os[k]? = some o) : JInv os (k + 1) (jUpd df bs (os.take k) o s) := by
  obtain ⟨h1, h2, h3, h4, h5⟩ := h
  have ht : os.take (k + 1) = os.take k ++ [o] := take_snoc ho
  have hm : (os.take k).Sublist (os.take (k + 1)) := by rw [ht]; exact List.sublist_append_left _ _
  have h3' : ∀ x ∈ s.2.1, 0 ≤ placeF os x.1 ∧ placeF os x.1 < ((k + 1 : Nat) : Int) := fun x hx => by have := h3 x hx; omega
  rcases hb : borneF df bs (os.take k) o with _ | _
  · rw [jUpd_bad hb]
    exact ⟨by rw [ht]; exact List.Sublist.append h1 (List.Sublist.refl _), h2.trans hm, h3', h4, h5⟩
  · rcases hy : othF df bs o with _ | y
    · rw [jUpd_ok hb hy]
      exact ⟨h1.trans hm, h2.trans hm, h3', h4, h5⟩
    · rw [jUpd_oth hb hy]
      have hp : placeF os y.1 = k := placeF_at (by rw [othF_type hy]; exact not_hasT (borne_hasT hb)) ho (othF_type hy).symm
      refine ⟨h1.trans hm, by rw [ht]; exact List.Sublist.append h2 (List.Sublist.refl _), ?_, ?_, fun h => by simp at h⟩
      · intro x hx
        rcases List.mem_append.1 hx with hx | hx
        · exact h3' x hx
        · rw [List.mem_singleton.1 hx, hp]
          omega
      · rw [List.pairwise_append]
        refine ⟨h4, List.pairwise_singleton _ _, fun a ha b hb => ?_⟩
        rw [List.mem_singleton.1 hb, hp]
        have := h3 a ha
        omega
theorem jInv_run {df bs : Int} {os : OL} : ∀ (m k : Nat) (s : OL × OL × OL), os.length - k = m → JInv os k s → JInv os os.length (jRun df bs (os.take k) (os.drop k) s)
  | 0, k, s, hm, h => by
    have hk : os.length ≤ k := by omega
    rw [List.drop_of_length_le hk, jRun]
    obtain ⟨h1, h2, h3, h4, h5⟩ := h
    rw [List.take_of_length_le hk] at h1 h2
    refine ⟨by rw [List.take_length]; exact h1, by rw [List.take_length]; exact h2, fun o ho => ⟨(h3 o ho).1, ?_⟩, h4, h5⟩
    have hlo := h3 o ho
    unfold placeF at hlo ⊢
    split
    · rename_i i hi
      have := (List.findIdx?_eq_some_iff_getElem.1 hi).1
      omega
    · rename_i hi
      rw [hi] at hlo
      simp only at hlo
      omega
  | m + 1, k, s, hm, h => by
    have hk : k < os.length := by omega
    have ho : os[k]? = some os[k] := List.getElem?_eq_getElem hk
    rw [drop_at ho, jRun, ← take_snoc ho]
    exact jInv_run m (k + 1) _ (by omega) (jInv_step h ho)
theorem nakG_up {req : OL} : ∀ (L : OL) (last : Int), (∀ o ∈ L, 0 ≤ placeF req o.1 ∧ last ≤ placeF req o.1) → L.Pairwise (fun a b => placeF req a.1 ≤ placeF req b.1) → nakG req last false L = true
  | [], _, _, _ => rfl
  | o :: L, last, h, hp => by
    have h0 := h o (by simp)
    rw [List.pairwise_cons] at hp
    rw [nakG, if_neg (by omega), if_neg (by rintro (h | h); cases h; omega)]
    exact nakG_up L _ (fun x hx => ⟨(h x (by simp [hx])).1, hp.1 x hx⟩) hp.2
theorem judgeC_fits (df bs maxf naks : Int) (os : OL) : fitsF (judgeC df bs maxf naks os).1 os (judgeC df bs maxf naks os).2 = (true, 0) := by
  have h := jInv_run (df := df) (bs := bs) (os := os) os.length 0 ([], [], []) rfl ⟨by simp, by simp, by simp, List.Pairwise.nil, fun _ => rfl⟩
  simp only [List.take_zero, List.drop_zero] at h
  unfold judgeC
  obtain ⟨R, hR⟩ : ∃ R, jRun df bs [] os ([], [], []) = R := ⟨_, rfl⟩
  rw [hR] at h
  simp only [hR]
  obtain ⟨h1, h2, h3, h4, h5⟩ := h
  rw [List.take_length] at h1 h2
  by_cases hb : R.1 ≠ []
  · rw [if_pos hb]
    show fitsF 4 os R.1 = _
    unfold fitsF
    rw [if_neg (by decide), if_pos rfl, subB_of_sublist h1, decide_eq_true (List.length_pos_iff.2 hb)]
    rfl
  · rw [if_neg hb]
    by_cases ho : R.2.1 ≠ []
    · rw [if_pos ho]
      by_cases hn : naks < maxf
      · rw [if_pos hn]
        show fitsF 3 os R.2.1 = _
        unfold fitsF
        rw [if_neg (by decide), if_neg (by decide), if_pos rfl, decide_eq_true (List.length_pos_iff.2 ho), nakG_up _ _ (fun o hx => ⟨(h3 o hx).1, by have := (h3 o hx).1; omega⟩) h4]
        rfl
      · rw [if_neg hn]
        show fitsF 4 os R.2.2 = _
        unfold fitsF
        rw [if_neg (by decide), if_pos rfl, subB_of_sublist h2, decide_eq_true (List.length_pos_iff.2 (fun hz => ho (h5 hz)))]
        rfl
    · rw [if_neg ho]
      show fitsF 2 os os = _
      unfold fitsF
      rw [if_pos rfl]
      simp [sameB]
theorem jRun_len {df bs : Int} {os : OL} : (jRun df bs [] os ([], [], [])).1.length ≤ os.length ∧ (jRun df bs [] os ([], [], [])).2.2.length ≤ os.length := by
  have h := jInv_run (df := df) (bs := bs) (os := os) os.length 0 ([], [], []) rfl ⟨by simp, by simp, by simp, List.Pairwise.nil, fun _ => rfl⟩
  simp only [List.take_zero, List.drop_zero] at h
  have h1 := h.1.length_le
  have h2 := h.2.1.length_le
  rw [List.take_length] at h1 h2
  exact ⟨h1, h2⟩
theorem jUpd_len {df bs : Int} {pre : OL} {o : Int × List Int} {s : OL × OL × OL} {k : Nat} (h : s.2.1.length ≤ k) : (jUpd df bs pre o s).2.1.length ≤ k + 1 := by
  unfold jUpd
  split
  · show s.2.1.length ≤ _
    omega
  · split
    · simp; omega
    · omega
theorem jRun_oth {df bs : Int} : ∀ (rest pre : OL) (s : OL × OL × OL), (jRun df bs pre rest s).2.1.length ≤ s.2.1.length + rest.length
  | [], _, s => by rw [jRun]; simp
  | o :: rest, pre, s => by
    rw [jRun]
    have h1 := jRun_oth (df := df) (bs := bs) rest (pre ++ [o]) (jUpd df bs pre o s)
    have h2 := jUpd_len (df := df) (bs := bs) (pre := pre) (o := o) (s := s) (Nat.le_refl _)
    rw [List.length_cons]
    omega
theorem judgeC_len (df bs maxf naks : Int) (os : OL) : (judgeC df bs maxf naks os).2.length ≤ os.length := by
  have h := jRun_len (df := df) (bs := bs) (os := os)
  have h2 := jRun_oth (df := df) (bs := bs) os [] ([], [], [])
  unfold judgeC
  simp only
  split
  · exact h.1
  · split
    · split
      · simpa using h2
      · exact h.2
    · exact Nat.le_refl _
end Go.Proofs.Ytnhmpmibkpoipaa
