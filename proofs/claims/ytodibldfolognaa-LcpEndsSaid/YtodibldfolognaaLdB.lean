/-
  lcp, in plain Lean: what an end that asks for what it may is answered. No condition.
-/
import Derived.Test.YtodibldfolognaaLdA
namespace Go.Proofs.Ytodibldfolognaa
open Go.RowKit
set_option linter.unusedVariables false
set_option linter.unusedSimpArgs false

def badF (D : LC) (o : OS) : OL := (addF (o.magic != 0 && !D.mg) 5 (be o.magic 4) ++ addF (o.pfc && !D.pf) 7 []) ++ addF (o.acfc && !D.af) 8 []
def keepF (D : LC) (o : OS) : OS := ⟨o.mru, o.accm, o.auth, if D.mg then o.magic else 0, o.pfc && D.pf, o.acfc && D.af⟩
theorem addF_off (t : Int) (d : List Int) : addF false t d = [] := rfl
section
variable {C : LC} {acc : List Int} {mm magic : Int}
theorem run_add {b f : Bool} {t : Int} {d : List Int} {rest pre : OL} {s : OL × OL × OL} (hT : hasTy pre t = false) (hb : b = true → lborneF C t d.length = f) (ho : b = true → f = true → lothF acc mm magic (t, d) = none) :
    ljRun C acc mm magic pre (addF b t d ++ rest) s = ljRun C acc mm magic (pre ++ addF b t d) rest (s.1 ++ addF (b && !f) t d, s.2.1, s.2.2) := by
  rcases b with _ | _
  · simp [addF]
  · show ljRun C acc mm magic pre ((t, d) :: rest) s = _
    rw [ljRun]
    have hk : lokF C pre (t, d) = f := by
      unfold lokF
      simp only
      rw [hb rfl, hT]
      simp
    rcases f with _ | _
    · rw [ljUpd_bad hk]
      rfl
    · rw [ljUpd_ok hk (ho rfl rfl)]
      simp [addF]
end
def Ends (o : OS) (acc : List Int) (mm : Int) : Prop :=
  (64 ≤ o.mru ∧ o.mru ≤ 16384) ∧ (0 ≤ o.accm ∧ o.accm ≤ 4294967295) ∧ (0 ≤ o.auth ∧ o.auth ≤ 3) ∧ (0 ≤ o.magic ∧ o.magic < 4294967296) ∧ (o.magic ≠ 0 → o.magic ≠ mm) ∧ (o.auth = 0 ∨ hasK acc o.auth = true)
theorem hasK_pos {acc : List Int} {m : Int} (h : hasK acc m = true) : 0 < acc.length := by
  unfold hasK at h
  exact List.length_pos_of_mem (of_decide_eq_true h)
theorem ends_run {pf af mg : Bool} {acc : List Int} {mm magic : Int} {o : OS} (h : Ends o acc mm) :
    ljRun ⟨acc.length, pf, af, mg⟩ acc mm magic [] (optionsF o) ([], [], []) = (badF ⟨acc.length, pf, af, mg⟩ o, [], []) := by
  obtain ⟨mru, accm, auth, mgc, pfc, acfc⟩ := o
  obtain ⟨hm, ha, hu, hg, hne, hk⟩ := h
  simp only at hm ha hu hg hne hk
  unfold optionsF badF
  simp only [List.append_assoc]
  rw [w64_id (by omega) (by omega), w64_id (by omega) (by omega)]
  have n1 : numF (be mru 2) = mru := numF_be (by decide) (by omega) (by omega)
  have n5 : numF (be mgc 4) = mgc := numF_be (by decide) (by omega) (by omega)
  have l2 : (be mru 2).length = 2 := be_length _ _
  have l4 : (be accm 4).length = 4 := be_length _ _
  have l5 : (be mgc 4).length = 4 := be_length _ _
  rw [run_add (f := true) rfl (fun _ => by rw [l2]; rfl) (fun _ _ => loth_1n n1 (by omega) (by omega))]
  rw [run_add (f := true) (hasTy_add (by decide) rfl) (fun _ => by rw [l4]; rfl) (fun _ _ => loth_no (by decide) (by decide) (by decide))]
  rw [run_add (f := true) (hasTy_add (by decide) (hasTy_add (by decide) rfl)) (fun hb => by
    have h1 : authL auth ≠ [] := of_decide_eq_true hb
    have h0 : auth ≠ 0 := fun e => by subst e; exact h1 rfl
    have h2 : hasK acc auth = true := by rcases hk with e | e; exact absurd e h0; exact e
    have h3 : ¬ (authL auth).length < 2 := by
      unfold authL at h1 ⊢
      repeat' split
      all_goals (first | decide | (exfalso; simp_all))
    unfold lborneF
    rw [if_neg (by rintro (h | h | h); exact absurd h (by decide); exact absurd h.1 (by decide); exact h3 h.2)]
    simp [hasK_pos h2]) (fun hb _ => by
    have h1 : authL auth ≠ [] := of_decide_eq_true hb
    have h0 : auth ≠ 0 := fun e => by subst e; exact h1 rfl
    have h2 : hasK acc auth = true := by rcases hk with e | e; exact absurd e h0; exact e
    exact loth_3n (methF_authL h1) h0 h2)]
  rw [run_add (f := mg) (hasTy_add (by decide) (hasTy_add (by decide) (hasTy_add (by decide) rfl))) (fun _ => by rw [l5]; rfl) (fun hb _ => by
    have h0 : mgc ≠ 0 := by simpa using hb
    exact loth_5n n5 h0 (by rw [Int.emod_eq_of_lt hg.1 hg.2]; exact hne h0))]
  rw [run_add (f := pf) (hasTy_add (by decide) (hasTy_add (by decide) (hasTy_add (by decide) (hasTy_add (by decide) rfl)))) (fun _ => rfl) (fun _ _ => loth_no (by decide) (by decide) (by decide))]
  have h8 := run_add (C := ⟨acc.length, pf, af, mg⟩) (acc := acc) (mm := mm) (magic := magic) (b := acfc) (f := af) (t := 8) (d := []) (rest := []) (pre := (((([] ++ addF (mru != 1500) 1 (be mru 2)) ++ addF (accm != 4294967295) 2 (be accm 4)) ++ addF (decide (authL auth ≠ [])) 3 (authL auth)) ++ addF (mgc != 0) 5 (be mgc 4)) ++ addF pfc 7 []) (s := (addF (mgc != 0 && !mg) 5 (be mgc 4) ++ addF (pfc && !pf) 7 [], [], [])) (hasTy_add (by decide) (hasTy_add (by decide) (hasTy_add (by decide) (hasTy_add (by decide) (hasTy_add (by decide) rfl))))) (fun _ => rfl) (fun _ _ => loth_no (by decide) (by decide) (by decide))
  rw [List.append_nil] at h8
  simp only [Bool.not_true, Bool.and_false, addF_off, List.append_nil, List.nil_append] at h8 ⊢
  rw [h8, ljRun]
  simp
theorem ends_judge {pf af mg : Bool} {acc : List Int} {mm magic maxf : Int} {o : OS} (h : Ends o acc mm) :
    ljudgeF ⟨acc.length, pf, af, mg⟩ acc mm magic maxf 0 (optionsF o) = if badF ⟨acc.length, pf, af, mg⟩ o ≠ [] then (4, badF ⟨acc.length, pf, af, mg⟩ o) else (2, optionsF o) := by
  unfold ljudgeF
  rw [ends_run h]
  simp
theorem rej_bad (D : LC) (o : OS) : (badF D o).foldl (fun o p => rejU o p.1) o = keepF D o := by
  obtain ⟨mru, accm, auth, mgc, pfc, acfc⟩ := o
  obtain ⟨an, pf, af, mg⟩ := D
  unfold badF keepF
  simp only
  by_cases hm : mgc = 0
  · subst hm
    rcases pf with _ | _ <;> rcases af with _ | _ <;> rcases mg with _ | _ <;> rcases pfc with _ | _ <;> rcases acfc with _ | _ <;> rfl
  · have hm' : (mgc != 0) = true := by simpa using hm
    rw [hm']
    rcases pf with _ | _ <;> rcases af with _ | _ <;> rcases mg with _ | _ <;> rcases pfc with _ | _ <;> rcases acfc with _ | _ <;> rfl
theorem bad_keep (D : LC) (o : OS) : badF D (keepF D o) = [] := by
  obtain ⟨mru, accm, auth, mgc, pfc, acfc⟩ := o
  obtain ⟨an, pf, af, mg⟩ := D
  unfold badF keepF
  rcases pf with _ | _ <;> rcases af with _ | _ <;> rcases mg with _ | _ <;> rcases pfc with _ | _ <;> rcases acfc with _ | _ <;> simp [addF]
theorem bad_types (D : LC) (o : OS) : ∀ p ∈ badF D o, p.1 = 5 ∨ p.1 = 7 ∨ p.1 = 8 := by
  intro p hp
  unfold badF at hp
  rw [List.mem_append, List.mem_append] at hp
  rcases hp with (hp | hp) | hp
  all_goals
    unfold addF at hp
    split at hp
    · rw [List.mem_singleton] at hp
      subst hp
      simp
    · cases hp
theorem Ends.keep {o : OS} {acc : List Int} {mm : Int} {D : LC} (h : Ends o acc mm) : Ends (keepF D o) acc mm := by
  obtain ⟨mru, accm, auth, mgc, pfc, acfc⟩ := o
  obtain ⟨an, pf, af, mg⟩ := D
  obtain ⟨hm, ha, hu, hg, hne, hk⟩ := h
  rcases mg with _ | _
  · exact ⟨hm, ha, hu, ⟨Int.le_refl _, by show (0 : Int) < 4294967296; decide⟩, fun h => absurd rfl h, hk⟩
  · exact ⟨hm, ha, hu, hg, hne, hk⟩
theorem rej_vs {us : List OV} {D : LC} {o : OS} (h : us.map OV.opt = badF D o) : us.foldl (fun o v => rejU o v.t) o = keepF D o := by
  rw [← rej_bad D o, ← h, List.foldl_map]
  rfl
theorem vs_types {us : List OV} {D : LC} {o : OS} (h : us.map OV.opt = badF D o) : ∀ v ∈ us, v.t = 5 ∨ v.t = 7 ∨ v.t = 8 := by
  intro v hv
  have h1 := bad_types D o v.opt (by rw [← h]; exact List.mem_map.2 ⟨v, hv, rfl⟩)
  exact h1
end Go.Proofs.Ytodibldfolognaa
