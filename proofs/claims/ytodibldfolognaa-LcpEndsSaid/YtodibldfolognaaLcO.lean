/-
  lcp: what Judge tells fits the request, and what it acknowledges is read and borne. No condition.
-/
import Derived.Test.YtodibldfolognaaLcF
import Derived.Test.YtodibldfolognaaLcN
import Derived.Test.YtodibldfolognaaOptSub
namespace Go.Proofs.Ytodibldfolognaa
open Go.RowKit
set_option linter.unusedVariables false
set_option linter.unusedSimpArgs false

def JInv (os : OL) (k : Nat) (s : OL × OL × OL) : Prop :=
  s.1.Sublist (os.take k) ∧ s.2.2.Sublist (os.take k) ∧ (∀ o ∈ s.2.1, 0 ≤ placeF os o.1 ∧ placeF os o.1 < k) ∧ s.2.1.Pairwise (fun a b => placeF os a.1 ≤ placeF os b.1) ∧ (s.2.2 = [] → s.2.1 = [])
theorem not_hasTy {os : OL} {t : Int} (h : hasTy os t = false) : ∀ x ∈ os, x.1 ≠ t := by
  intro x hx he
  unfold hasTy at h
  rw [List.any_eq_false] at h
  exact h x hx (by simpa using he)
theorem lothF_type {acc : List Int} {mm magic : Int} {o y : Int × List Int} (h : lothF acc mm magic o = some y) : y.1 = o.1 := by
  unfold lothF at h
  split at h
  · rename_i h1
    injection h with h
    rw [← h]
    exact h1.1.symm
  split at h
  · rename_i h1
    injection h with h
    rw [← h]
    exact h1.1.symm
  split at h
  · rename_i h1
    injection h with h
    rw [← h]
    exact h1.1.symm
  split at h
  · rename_i h1
    injection h with h
    rw [← h]
    exact h1.1.symm
  cases h
theorem lok_hasTy {C : LC} {pre : OL} {o : Int × List Int} (h : lokF C pre o = true) : hasTy pre o.1 = false := by
  unfold lokF at h
  rw [Bool.and_eq_true] at h
  simpa using h.2
theorem jInv_step {C : LC} {acc : List Int} {mm magic : Int} {os : OL} {k : Nat} {s : OL × OL × OL} {o : Int × List Int} (h : JInv os k s) (ho : os[k]? = some o) : JInv os (k + 1) (ljUpd C acc mm magic (os.take k) o s) := by
  obtain ⟨h1, h2, h3, h4, h5⟩ := h
  have ht : os.take (k + 1) = os.take k ++ [o] := take_snoc ho
  have hm : (os.take k).Sublist (os.take (k + 1)) := by rw [ht]; exact List.sublist_append_left _ _
  have h3' : ∀ x ∈ s.2.1, 0 ≤ placeF os x.1 ∧ placeF os x.1 < ((k + 1 : Nat) : Int) := fun x hx => by have := h3 x hx; omega
  rcases hb : lokF C (os.take k) o with _ | _
  · rw [ljUpd_bad hb]
    exact ⟨by rw [ht]; exact List.Sublist.append h1 (List.Sublist.refl _), h2.trans hm, h3', h4, h5⟩
  · rcases hy : lothF acc mm magic o with _ | y
    · rw [ljUpd_ok hb hy]
      exact ⟨h1.trans hm, h2.trans hm, h3', h4, h5⟩
    · rw [ljUpd_oth hb hy]
      have hp : placeF os y.1 = k := placeF_at (by rw [lothF_type hy]; exact not_hasTy (lok_hasTy hb)) ho (lothF_type hy).symm
      refine ⟨h1.trans hm, by rw [ht]; exact List.Sublist.append h2 (List.Sublist.refl _), ?_, ?_, fun h => by simp at h⟩
      · intro x hx
        rcases List.mem_append.1 hx with hx | hx
        · exact h3' x hx
        · rw [List.mem_singleton.1 hx, hp]
          omega
      · rw [List.pairwise_append]
        refine ⟨h4, List.pairwise_singleton _ _, fun a ha b hb => ?_⟩
        rw [List.mem_singleton.1 hb, hp]
        have := h3 a ha
        omega
theorem jInv_run {C : LC} {acc : List Int} {mm magic : Int} {os : OL} : ∀ (m k : Nat) (s : OL × OL × OL), os.length - k = m → JInv os k s → JInv os os.length (ljRun C acc mm magic (os.take k) (os.drop k) s)
  | 0, k, s, hm, h => by
    have hk : os.length ≤ k := by omega
    rw [List.drop_of_length_le hk, ljRun]
    obtain ⟨h1, h2, h3, h4, h5⟩ := h
    rw [List.take_of_length_le hk] at h1 h2
    refine ⟨by rw [List.take_length]; exact h1, by rw [List.take_length]; exact h2, fun o ho => ⟨(h3 o ho).1, ?_⟩, h4, h5⟩
    have hlo := h3 o ho
    unfold placeF at hlo ⊢
    split
    · rename_i i hi
      have := (List.findIdx?_eq_some_iff_getElem.1 hi).1
      omega
    · rename_i hi
      rw [hi] at hlo
      simp only at hlo
      omega
  | m + 1, k, s, hm, h => by
    have hk : k < os.length := by omega
    have ho : os[k]? = some os[k] := List.getElem?_eq_getElem hk
    rw [drop_at ho, ljRun, ← take_snoc ho]
    exact jInv_run m (k + 1) _ (by omega) (jInv_step h ho)
theorem nakG_up {req : OL} : ∀ (L : OL) (last : Int), (∀ o ∈ L, 0 ≤ placeF req o.1 ∧ last ≤ placeF req o.1) → L.Pairwise (fun a b => placeF req a.1 ≤ placeF req b.1) → nakG req last false L = true
  | [], _, _, _ => rfl
  | o :: L, last, h, hp => by
    have h0 := h o (by simp)
    rw [List.pairwise_cons] at hp
    rw [nakG, if_neg (by omega), if_neg (by rintro (h | h); cases h; omega)]
    exact nakG_up L _ (fun x hx => ⟨(h x (by simp [hx])).1, hp.1 x hx⟩) hp.2
theorem ljudge_fits (C : LC) (acc : List Int) (mm magic maxf naks : Int) (os : OL) : fitsF (ljudgeF C acc mm magic maxf naks os).1 os (ljudgeF C acc mm magic maxf naks os).2 = (true, 0) := by
  have h := jInv_run (C := C) (acc := acc) (mm := mm) (magic := magic) (os := os) os.length 0 ([], [], []) rfl ⟨by simp, by simp, by simp, List.Pairwise.nil, fun _ => rfl⟩
  simp only [List.take_zero, List.drop_zero] at h
  unfold ljudgeF
  obtain ⟨R, hR⟩ : ∃ R, ljRun C acc mm magic [] os ([], [], []) = R := ⟨_, rfl⟩
  rw [hR] at h
  simp only [hR]
  obtain ⟨h1, h2, h3, h4, h5⟩ := h
  rw [List.take_length] at h1 h2
  by_cases hb : R.1 ≠ []
  · rw [if_pos hb]
    show fitsF 4 os R.1 = _
    unfold fitsF
    rw [if_neg (by decide), if_pos rfl, subB_of_sublist h1, decide_eq_true (List.length_pos_iff.2 hb)]
    rfl
  · rw [if_neg hb]
    by_cases ho : R.2.1 ≠ []
    · rw [if_pos ho]
      by_cases hn : naks < maxf
      · rw [if_pos hn]
        show fitsF 3 os R.2.1 = _
        unfold fitsF
        rw [if_neg (by decide), if_neg (by decide), if_pos rfl, decide_eq_true (List.length_pos_iff.2 ho), nakG_up _ _ (fun o hx => ⟨(h3 o hx).1, by have := (h3 o hx).1; omega⟩) h4]
        rfl
      · rw [if_neg hn]
        show fitsF 4 os R.2.2 = _
        unfold fitsF
        rw [if_neg (by decide), if_pos rfl, subB_of_sublist h2, decide_eq_true (List.length_pos_iff.2 (fun hz => ho (h5 hz)))]
        rfl
    · rw [if_neg ho]
      show fitsF 2 os os = _
      unfold fitsF
      rw [if_pos rfl]
      simp [sameB]
theorem ljUpd_len {C : LC} {acc : List Int} {mm magic : Int} {pre : OL} {o : Int × List Int} {s : OL × OL × OL} {k : Nat} (h : s.2.1.length ≤ k) : (ljUpd C acc mm magic pre o s).2.1.length ≤ k + 1 := by
  unfold ljUpd
  split
  · show s.2.1.length ≤ _
    omega
  · split
    · simp; omega
    · omega
theorem ljRun_oth {C : LC} {acc : List Int} {mm magic : Int} : ∀ (rest pre : OL) (s : OL × OL × OL), (ljRun C acc mm magic pre rest s).2.1.length ≤ s.2.1.length + rest.length
  | [], _, s => by rw [ljRun]; simp
  | o :: rest, pre, s => by
    rw [ljRun]
    have h1 := ljRun_oth (C := C) (acc := acc) (mm := mm) (magic := magic) rest (pre ++ [o]) (ljUpd C acc mm magic pre o s)
    have h2 := ljUpd_len (C := C) (acc := acc) (mm := mm) (magic := magic) (pre := pre) (o := o) (s := s) (Nat.le_refl _)
    rw [List.length_cons]
    omega
theorem ljudge_len (C : LC) (acc : List Int) (mm magic maxf naks : Int) (os : OL) : (ljudgeF C acc mm magic maxf naks os).2.length ≤ os.length := by
  have h := jInv_run (C := C) (acc := acc) (mm := mm) (magic := magic) (os := os) os.length 0 ([], [], []) rfl ⟨by simp, by simp, by simp, List.Pairwise.nil, fun _ => rfl⟩
  simp only [List.take_zero, List.drop_zero] at h
  have h1 := h.1.length_le
  have h3 := h.2.1.length_le
  rw [List.take_length] at h1 h3
  have h2 := ljRun_oth (C := C) (acc := acc) (mm := mm) (magic := magic) os [] ([], [], [])
  unfold ljudgeF
  simp only
  split
  · exact h1
  · split
    · split
      · simpa using h2
      · exact h3
    · exact Nat.le_refl _
/-! what is acknowledged -/
theorem ljUpd_keep {C : LC} {acc : List Int} {mm magic : Int} {pre : OL} {o : Int × List Int} {s : OL × OL × OL} (h1 : (ljUpd C acc mm magic pre o s).1 = []) (h2 : (ljUpd C acc mm magic pre o s).2.1 = []) :
    s.1 = [] ∧ s.2.1 = [] ∧ lokF C pre o = true ∧ lothF acc mm magic o = none := by
  rcases hb : lokF C pre o with _ | _
  · rw [ljUpd_bad hb] at h1
    simp at h1
  · rcases hy : lothF acc mm magic o with _ | y
    · rw [ljUpd_ok hb hy] at h1 h2
      exact ⟨h1, h2, rfl, rfl⟩
    · rw [ljUpd_oth hb hy] at h2
      simp at h2
theorem ljRun_keep {C : LC} {acc : List Int} {mm magic : Int} : ∀ (rest pre : OL) (s : OL × OL × OL), (ljRun C acc mm magic pre rest s).1 = [] → (ljRun C acc mm magic pre rest s).2.1 = [] → s.1 = [] ∧ s.2.1 = []
  | [], pre, s, h1, h2 => ⟨h1, h2⟩
  | o :: rest, pre, s, h1, h2 => by
    rw [ljRun] at h1 h2
    have h := ljRun_keep rest _ _ h1 h2
    have h' := ljUpd_keep h.1 h.2
    exact ⟨h'.1, h'.2.1⟩
def AInv (C : LC) (acc : List Int) (mm : Int) (o : OS) : Prop :=
  (o.pfc = true → C.pf = true) ∧ (o.acfc = true → C.af = true) ∧ (o.magic ≠ 0 → C.mg = true ∧ o.magic ≠ mm) ∧ (o.auth = 0 ∨ hasK acc o.auth = true)
theorem ack_set {C : LC} {acc : List Int} {mm magic : Int} {o : OS} {t : Int} {xs : List Int} (hb : Byt xs) (h : AInv C acc mm o) (h1 : lborneF C t xs.length = true) (h2 : lothF acc mm magic (t, xs) = none) : ∃ o', setF o t xs = some o' ∧ AInv C acc mm o' := by
  obtain ⟨a1, a2, a3, a4⟩ := h
  unfold lborneF at h1
  split at h1
  · cases h1
  rename_i hs
  have hs1 : ¬ lsize t = -1 := fun e => hs (.inl e)
  have hs2 : 0 ≤ lsize t → lsize t = xs.length := fun e => Classical.byContradiction fun e' => hs (.inr (.inl ⟨e, e'⟩))
  have hs3 : lsize t = -2 → 2 ≤ xs.length := fun e => Classical.byContradiction fun e' => hs (.inr (.inr ⟨e, by omega⟩))
  clear hs
  have hN := numF_bd xs
  by_cases t7 : t = 7
  · subst t7
    have hl : xs.length = 0 := by have := hs2 (by decide); rw [show lsize 7 = 0 from rfl] at this; omega
    exact ⟨_, setF_7y hl, fun _ => h1, a2, a3, a4⟩
  rw [if_neg t7] at h1
  by_cases t8 : t = 8
  · subst t8
    have hl : xs.length = 0 := by have := hs2 (by decide); rw [show lsize 8 = 0 from rfl] at this; omega
    exact ⟨_, setF_8y hl, a1, fun _ => h1, a3, a4⟩
  rw [if_neg t8] at h1
  by_cases t5 : t = 5
  · subst t5
    have hl : xs.length = 4 := by have := hs2 (by decide); rw [show lsize 5 = 4 from rfl] at this; omega
    have hb4 := numF_lt4 hb hl
    have hn0 : ¬ numF xs = 0 := fun e => by rw [loth_5y rfl (.inl e)] at h2; cases h2
    have hn1 : ¬ numF xs % 4294967296 = mm := fun e => by rw [loth_5y rfl (.inr e)] at h2; cases h2
    rw [Int.emod_eq_of_lt hN.1 hb4] at hn1
    exact ⟨_, setF_5y hl rfl hn0, a1, a2, fun _ => ⟨h1, hn1⟩, a4⟩
  rw [if_neg t5] at h1
  by_cases t3 : t = 3
  · subst t3
    have hn0 : ¬ methF xs = 0 := fun e => by rw [loth_3y rfl (.inl e)] at h2; cases h2
    have hn1 : hasK acc (methF xs) = true := by
      rcases hk : hasK acc (methF xs) with _ | _
      · rw [loth_3y rfl (.inr hk)] at h2
        cases h2
      · rfl
    exact ⟨_, setF_3y rfl hn0, a1, a2, a3, .inr hn1⟩
  by_cases t1 : t = 1
  · subst t1
    have hl : xs.length = 2 := by have := hs2 (by decide); rw [show lsize 1 = 2 from rfl] at this; omega
    have hn0 : ¬ numF xs < 64 := fun e => by rw [loth_1a rfl e] at h2; cases h2
    have hn1 : ¬ 16384 < numF xs := fun e => by rw [loth_1b rfl hn0 e] at h2; cases h2
    exact ⟨_, setF_1y hl rfl hn0 hn1, a1, a2, a3, a4⟩
  by_cases t2 : t = 2
  · subst t2
    have hl : xs.length = 4 := by have := hs2 (by decide); rw [show lsize 2 = 4 from rfl] at this; omega
    exact ⟨_, setF_2y hl rfl, a1, a2, a3, a4⟩
  exfalso
  apply hs1
  unfold lsize
  rw [if_neg t1, if_neg (by omega), if_neg (by omega), if_neg t3]
theorem ack_run {C : LC} {acc : List Int} {mm magic : Int} : ∀ (rest pre : OL) (s : OL × OL × OL) (o : OS), (∀ x ∈ rest, Byt x.2) → (ljRun C acc mm magic pre rest s).1 = [] → (ljRun C acc mm magic pre rest s).2.1 = [] → AInv C acc mm o → ∃ o', rdF pre rest o = some o' ∧ AInv C acc mm o'
  | [], pre, s, o, _, _, _, h => ⟨o, rfl, h⟩
  | x :: rest, pre, s, o, hB, h1, h2, h => by
    rw [ljRun] at h1 h2
    have hk := ljRun_keep rest _ _ h1 h2
    obtain ⟨_, _, hok, hno⟩ := ljUpd_keep hk.1 hk.2
    have hT := lok_hasTy hok
    unfold lokF at hok
    rw [Bool.and_eq_true] at hok
    obtain ⟨o1, hs1, hA1⟩ := ack_set (t := x.1) (xs := x.2) (hB x (by simp)) h hok.1 hno
    obtain ⟨o2, hs2, hA2⟩ := ack_run rest (pre ++ [x]) _ o1 (fun y hy => hB y (by simp [hy])) h1 h2 hA1
    refine ⟨o2, ?_, hA2⟩
    rw [rdF, if_neg (by simp [hT]), hs1]
    exact hs2
theorem ack_reads {C : LC} {acc : List Int} {mm magic maxf naks : Int} {os : OL} (hB : ∀ x ∈ os, Byt x.2) (h : (ljudgeF C acc mm magic maxf naks os).1 = 2) : ∃ o, readF os = (o, 0) ∧ AInv C acc mm o := by
  unfold ljudgeF at h
  obtain ⟨R, hR⟩ : ∃ R, ljRun C acc mm magic [] os ([], [], []) = R := ⟨_, rfl⟩
  simp only [hR] at h
  by_cases hb : R.1 ≠ []
  · rw [if_pos hb] at h
    cases h
  rw [if_neg hb] at h
  by_cases ho : R.2.1 ≠ []
  · rw [if_pos ho] at h
    by_cases hn : naks < maxf
    · rw [if_pos hn] at h
      cases h
    · rw [if_neg hn] at h
      cases h
  rw [ne_eq, Classical.not_not] at hb ho
  obtain ⟨o, h1, h2⟩ := ack_run (C := C) (acc := acc) (mm := mm) (magic := magic) os [] ([], [], []) OS.dflt hB (by rw [hR]; exact hb) (by rw [hR]; exact ho) ⟨(fun h => by cases h), (fun h => by cases h), (fun h => absurd rfl h), .inl rfl⟩
  refine ⟨o, ?_, h2⟩
  unfold readF
  rw [h1]
  rfl
end Go.Proofs.Ytodibldfolognaa
