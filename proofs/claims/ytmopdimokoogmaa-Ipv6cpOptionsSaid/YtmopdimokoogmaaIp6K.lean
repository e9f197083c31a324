/-
  ipv6cp: what is answered fits, and neither 0 nor this end's own identifier is acknowledged, as a plain law. No condition.
-/
import Derived.Test.YtmopdimokoogmaaIp6I
import Derived.Test.YtmopdimokoogmaaFits
namespace Go.Proofs.Ytmopdimokoogmaa
open Go.RowKit
set_option linter.unusedVariables false
set_option linter.unusedSimpArgs false

theorem jF_sub (mine : Int) (os : List (Int × List Int)) : (jF mine os).1.Sublist os := by
  have h : ∀ (os : List (Int × List Int)) (s : JSt), (os.foldl (jStep mine) s).1.Sublist (s.1 ++ os) := by
    intro os
    induction os with
    | nil => intro s; simp
    | cons o os ih =>
      intro s
      refine (ih (jStep mine s o)).trans ?_
      have : s.1 ++ o :: os = (s.1 ++ [o]) ++ os := by simp
      rw [this]
      refine List.Sublist.append ?_ (List.Sublist.refl _)
      unfold jStep
      simp only
      split
      · exact List.Sublist.refl _
      · exact List.sublist_append_left _ _
  simpa [jF] using h os ([], false, 0)
theorem fits_rej {os bad : List (Int × List Int)} (h : bad.Sublist os) (hne : bad ≠ []) : fitsF 4 os bad = (true, 0) := by
  unfold fitsF
  have : 0 < bad.length := List.length_pos_iff.2 hne
  simp [subB_of_sublist h, this]
theorem fits_ack (os : List (Int × List Int)) : fitsF 2 os os = (true, 0) := by unfold fitsF; simp [sameB]
theorem fits_nak1 (os : List (Int × List Int)) (o : Int × List Int) : fitsF 3 os [o] = (true, 0) := by
  have h1 := placeF_lo os o.1
  have h2 : ¬ placeF os o.1 < -1 := by omega
  unfold fitsF nakG
  by_cases hp : placeF os o.1 < 0 <;> simp [hp, h2, nakG]
theorem judge_fits (mine naks maxf draw : Int) (os : List (Int × List Int)) : fitsF (judgeF mine naks maxf draw os).1 os (judgeF mine naks maxf draw os).2 = (true, 0) := by
  unfold judgeF
  by_cases hb : (jF mine os).1 = []
  · rw [if_neg (by simp [hb])]
    rcases jF_fine hb with ⟨rfl, heq⟩ | ⟨o, rfl, hok, hne, heq⟩
    · rw [heq]
      by_cases hk : naks = 0 <;> simp [hk, fits_ack, fits_nak1]
    · rw [heq]
      simp only [Bool.true_eq_false, if_false]
      split
      · exact fits_ack _
      · split
        · exact fits_nak1 _ _
        · exact fits_rej (List.Sublist.refl _) (by simp)
  · rw [if_pos hb]
    exact fits_rej (jF_sub mine os) hb
theorem judge_ack {mine naks maxf draw : Int} {os : List (Int × List Int)} (h : (judgeF mine naks maxf draw os).1 = 2) (hne : os ≠ []) : ∃ N, readF os = (N, true, 0) ∧ N ≠ 0 ∧ N ≠ mine := by
  unfold judgeF at h
  by_cases hb : (jF mine os).1 = []
  · rw [if_neg (by simp [hb])] at h
    rcases jF_fine hb with ⟨rfl, heq⟩ | ⟨o, rfl, hok, hn, heq⟩
    · exact absurd rfl hne
    · rw [heq] at h
      simp only [Bool.true_eq_false, if_false] at h
      refine ⟨idN o, readF_yes hok, ?_⟩
      split at h
      · assumption
      · split at h <;> cases h
  · rw [if_pos hb] at h
    cases h
theorem judge_two {mine naks maxf draw : Int} {os : List (Int × List Int)} : (judgeF mine naks maxf draw os).1 = 2 ∨ (judgeF mine naks maxf draw os).1 ≠ 2 := Decidable.em _
theorem judge_len (mine naks maxf draw : Int) (os : List (Int × List Int)) : (judgeF mine naks maxf draw os).2.length ≤ os.length + 1 := by
  unfold judgeF
  have h1 := (jF_sub mine os).length_le
  split
  · simp only; omega
  · split
    · split <;> simp
    · split
      · simp
      · split <;> simp
theorem getN_be8 {n : Int} (h : giv64 n) : getN (be n 8) = n := by
  rw [getN_be 8 n h.1]
  unfold giv64 at h
  have : (256 : Int) ^ 8 = 18446744073709551616 := by decide
  rw [this]
  omega
theorem readF_be {n : Int} (h : giv64 n) : readF [(1, be n 8)] = (n, true, 0) := by
  have h1 := idOk_yes (be_length n 8)
  rw [readF_yes h1, idN_yes h1]
  show (getN (be n 8), true, 0) = _
  rw [getN_be8 h]
theorem idN_be {n : Int} (h : giv64 n) : idN (1, be n 8) = n := by
  rw [idN_yes (idOk_yes (be_length n 8))]
  exact getN_be8 h
/-- One identifier is asked, that is not 0. -/
theorem judge_one {mine naks maxf draw n : Int} (h : giv64 n) (h0 : n ≠ 0) : judgeF mine naks maxf draw [(1, be n 8)] = if n ≠ mine then (2, [(1, be n 8)]) else if naks < maxf then (3, [(1, be (givF draw mine) 8)]) else (4, [(1, be n 8)]) := by
  have h1 := idOk_yes (be_length n 8)
  have h2 := idN_be h
  have hj : jF mine [(1, be n 8)] = ([], true, n) := by
    unfold jF
    simp [jStep, jBad, h1, h2, h0]
  unfold judgeF
  rw [hj]
  simp [h0]
theorem nak_one {id draw n : Int} (h : giv64 n) (h0 : n ≠ 0) (h1 : n ≠ id) : nakF17 id draw [(1, be n 8)] = n := by
  unfold nakF17
  simp [nakStep17, idOk_yes (be_length n 8), idN_be h, h0, h1]
theorem wantF_good {id draw : Int} (h : giv64 id) (hd : giv64 draw) : giv64 (wantF id draw) ∧ wantF id draw ≠ 0 := by
  unfold wantF
  split
  · exact ⟨h, by assumption⟩
  · have := givF_good (m := 0) hd ⟨by omega, by omega⟩
    exact ⟨this.1, this.2.1⟩
end Go.Proofs.Ytmopdimokoogmaa
