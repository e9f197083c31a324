/-
  lcp, in plain Lean: what a direction has, and can have, is read again from its options. No condition.
-/
import Derived.Test.YtodibldfolognaaLcW
namespace Go.Proofs.Ytodibldfolognaa
open Go.RowKit
set_option linter.unusedVariables false
set_option linter.unusedSimpArgs false

theorem numF_be {n : Int} {s : Nat} (hs : s ≤ 7) (h0 : 0 ≤ n) (h1 : n < 256 ^ s) : numF (be n s) = n := by
  have h := numF_getN (be_byt n s) (by rw [be_length]; exact hs) s (by rw [be_length]; exact Nat.le_refl _)
  rw [List.take_of_length_le (by rw [be_length]; exact Nat.le_refl _), getN_be s n h0, Int.emod_eq_of_lt h0 h1] at h
  exact h
theorem methF_authL {m : Int} (h : authL m ≠ []) : methF (authL m) = m := by
  unfold authL at h ⊢
  by_cases h1 : m = 1
  · subst h1; rfl
  rw [if_neg h1] at h ⊢
  by_cases h2 : m = 2
  · subst h2; rfl
  rw [if_neg h2] at h ⊢
  by_cases h3 : m = 3
  · subst h3; rfl
  rw [if_neg h3] at h
  exact absurd rfl h
theorem authL_none {m : Int} (h0 : 0 ≤ m) (h3 : m ≤ 3) (h : authL m = []) : m = 0 := by
  unfold authL at h
  by_cases h1 : m = 1
  · subst h1; cases h
  by_cases h2 : m = 2
  · subst h2; cases h
  by_cases h3 : m = 3
  · subst h3; cases h
  omega
theorem rdF_add {b : Bool} {t : Int} {d : List Int} {rest pre : List (Int × List Int)} {o0 o1 : OS} (hT : hasTy pre t = false) (hs : b = true → setF o0 t d = some o1) (hn : b = false → o0 = o1) :
    rdF pre (addF b t d ++ rest) o0 = rdF (pre ++ addF b t d) rest o1 := by
  rcases b with _ | _
  · rw [hn rfl]
    simp [addF]
  · show rdF pre ((t, d) :: rest) o0 = rdF (pre ++ [(t, d)]) rest o1
    rw [rdF, if_neg (by simp [hT]), hs rfl]
theorem hasTy_add {b : Bool} {t t' : Int} {d : List Int} {pre : List (Int × List Int)} (h : ¬ t = t') (hp : hasTy pre t' = false) : hasTy (pre ++ addF b t d) t' = false := by
  unfold hasTy at hp ⊢
  rw [List.any_append, hp]
  rcases b with _ | _
  · rfl
  · simp [addF, h]
theorem optionsF_len (o : OS) : (optionsF o).length ≤ 6 := by
  have h : ∀ (b : Bool) (t : Int) (d : List Int), (addF b t d).length ≤ 1 := by
    intro b t d
    rcases b with _ | _ <;> simp [addF]
  unfold optionsF
  simp only [List.length_append]
  have h1 := h (o.mru != 1500) 1 (be (w64 o.mru) 2)
  have h2 := h (o.accm != 4294967295) 2 (be (w64 o.accm) 4)
  have h3 := h (decide (authL o.auth ≠ [])) 3 (authL o.auth)
  have h4 := h (o.magic != 0) 5 (be o.magic 4)
  have h5 := h o.pfc 7 []
  have h6 := h o.acfc 8 []
  omega
theorem read_back (o : OS) (hm : 64 ≤ o.mru ∧ o.mru ≤ 16384) (ha : 0 ≤ o.accm ∧ o.accm ≤ 4294967295) (hu : 0 ≤ o.auth ∧ o.auth ≤ 3) (hg : 0 ≤ o.magic ∧ o.magic < 4294967296) : readF (optionsF o) = (o, 0) := by
  obtain ⟨mru, accm, auth, magic, pfc, acfc⟩ := o
  simp only at hm ha hu hg
  unfold readF optionsF
  simp only [List.append_assoc]
  rw [w64_id (by omega) (by omega), w64_id (by omega) (by omega)]
  rw [rdF_add (o1 := ⟨mru, 4294967295, 0, 0, false, false⟩) rfl (fun _ => setF_1y (be_length _ _) (numF_be (by decide) (by omega) (by omega)) (by omega) (by omega)) (fun h => by simp at h; rw [h]; rfl)]
  rw [rdF_add (o1 := ⟨mru, accm, 0, 0, false, false⟩) (hasTy_add (by decide) rfl) (fun _ => setF_2y (be_length _ _) (numF_be (by decide) (by omega) (by omega))) (fun h => by simp at h; rw [h])]
  rw [rdF_add (o1 := ⟨mru, accm, auth, 0, false, false⟩) (hasTy_add (by decide) (hasTy_add (by decide) rfl)) (fun h => by
    have h1 : authL auth ≠ [] := of_decide_eq_true h
    exact setF_3y (methF_authL h1) (fun e => by subst e; exact h1 rfl)) (fun h => by
    have h1 : authL auth = [] := by simpa using h
    rw [authL_none hu.1 hu.2 h1])]
  rw [rdF_add (o1 := ⟨mru, accm, auth, magic, false, false⟩) (hasTy_add (by decide) (hasTy_add (by decide) (hasTy_add (by decide) rfl))) (fun h => setF_5y (be_length _ _) (numF_be (by decide) (by omega) (by omega)) (by simpa using h)) (fun h => by simp at h; rw [h])]
  rw [rdF_add (o1 := ⟨mru, accm, auth, magic, pfc, false⟩) (hasTy_add (by decide) (hasTy_add (by decide) (hasTy_add (by decide) (hasTy_add (by decide) rfl)))) (fun h => by rw [h]; exact setF_7y rfl) (fun h => by rw [h])]
  have h8 := rdF_add (b := acfc) (t := 8) (d := []) (rest := []) (pre := (((([] ++ addF (mru != 1500) 1 (be mru 2)) ++ addF (accm != 4294967295) 2 (be accm 4)) ++ addF (decide (authL auth ≠ [])) 3 (authL auth)) ++ addF (magic != 0) 5 (be magic 4)) ++ addF pfc 7 []) (o0 := ⟨mru, accm, auth, magic, pfc, false⟩) (o1 := ⟨mru, accm, auth, magic, pfc, acfc⟩) (hasTy_add (by decide) (hasTy_add (by decide) (hasTy_add (by decide) (hasTy_add (by decide) (hasTy_add (by decide) rfl))))) (fun h => by rw [h]; exact setF_8y rfl) (fun h => by rw [h])
  rw [List.append_nil] at h8
  rw [h8]
  rfl
end Go.Proofs.Ytodibldfolognaa
