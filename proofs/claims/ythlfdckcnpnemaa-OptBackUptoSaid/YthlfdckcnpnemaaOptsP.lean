/-
  Plain laws of packets and options: what is written is read again. No program in sight.
-/
import Derived.Test.YthlfdckcnpnemaaOptB
import Derived.Test.YthlfdckcnpnemaaUnpack
namespace Go.Proofs.Ythlfdckcnpnemaa
set_option linter.unusedVariables false
set_option linter.unusedSimpArgs false

theorem optsF_tells : ∀ (n : Nat) (acc : List (Int × List Int)) (bs : List Int), bs.length ≤ n → Byt bs → acc.all optOk = true → acc.length ≤ 32 → (optsF acc bs).2 = 0 →
    (optsF acc bs).1.all optOk = true ∧ (optsF acc bs).1.length ≤ 32 ∧ optBs (optsF acc bs).1 = optBs acc ++ bs
  | n, acc, bs, hn, hb, ha, hl, h0 => by
    by_cases h1 : bs.length = 0
    · rw [optsF_done h1] at *
      have : bs = [] := List.eq_nil_of_length_eq_zero h1
      subst this
      exact ⟨ha, hl, by simp⟩
    by_cases h2 : 32 ≤ acc.length
    · rw [optsF_full h1 h2] at h0
      exact absurd h0 (by decide)
    by_cases h3 : bs.length < 2
    · rw [optsF_short h1 h2 h3] at h0
      exact absurd h0 (by decide)
    by_cases h4 : bs.getD 1 0 < 2
    · rw [optsF_opt h2 h3 h4] at h0
      exact absurd h0 (by decide)
    by_cases h5 : (bs.length : Int) < bs.getD 1 0
    · rw [optsF_cut h2 h3 h4 h5] at h0
      exact absurd h0 (by decide)
    match n with
    | 0 => omega
    | n + 1 =>
    have hb0 := hb.getD 0
    have hb1 := hb.getD 1
    rcases bs with _ | ⟨t, _ | ⟨l, rest⟩⟩
    · simp at h3
    · simp at h3
    · simp only [List.getD_cons_zero, List.getD_cons_succ] at hb0 hb1 h4 h5
      have hd : (t :: l :: rest).drop l.toNat = rest.drop (l.toNat - 2) := by
        rw [show l.toNat = (l.toNat - 2) + 1 + 1 by omega]
        rfl
      rw [optsF_step h2 (by simp) (by simpa using h4) (by simpa using h5)] at h0 ⊢
      simp only [List.getD_cons_zero, List.getD_cons_succ, List.drop_succ_cons, List.drop_zero] at h0 ⊢
      rw [hd] at h0 ⊢
      simp only [List.length_cons] at h5 hn
      have hlen : (rest.take (l.toNat - 2)).length = l.toNat - 2 := by rw [List.length_take]; omega
      have hok : optOk (t, rest.take (l.toNat - 2)) = true := by
        simp only [optOk, hlen, Bool.and_eq_true, decide_eq_true_eq]
        omega
      have ih := optsF_tells n (acc ++ [(t, rest.take (l.toNat - 2))]) (rest.drop (l.toNat - 2)) (by rw [List.length_drop]; omega) (hb.tail.tail.drop _) (by rw [List.all_append, ha]; simp [hok]) (by simp; omega) h0
      refine ⟨ih.1, ih.2.1, ?_⟩
      rw [ih.2.2, optBs_snoc]
      simp only [hlen]
      have hl : ((l.toNat - 2 : Nat) : Int) + 2 = l := by omega
      rw [hl, List.append_assoc, List.append_assoc, List.take_append_drop]
      rfl
theorem optsF_back : ∀ (os acc : List (Int × List Int)), os.all optOk = true → acc.length + os.length ≤ 32 → optsF acc (optBs os) = (acc ++ os, 0)
  | [], acc, _, _ => by rw [optsF_done (by simp [optBs])]; simp
  | o :: os, acc, h, hl => by
    simp only [List.all_cons, Bool.and_eq_true] at h
    obtain ⟨t, d⟩ := o
    have h2 := h.1
    unfold optOk at h2
    simp only [Bool.and_eq_true, decide_eq_true_eq] at h2
    simp only [List.length_cons] at hl
    have e : optBs ((t, d) :: os) = t :: ((d.length : Int) + 2) :: (d ++ optBs os) := rfl
    rw [e, optsF_step (by omega) (by simp) (by simp only [List.getD_cons_zero, List.getD_cons_succ]; omega) (by simp only [List.getD_cons_zero, List.getD_cons_succ, List.length_cons, List.length_append]; omega)]
    simp only [List.getD_cons_zero, List.getD_cons_succ, List.drop_succ_cons, List.drop_zero]
    have e1 : ((d.length : Int) + 2).toNat = d.length + 1 + 1 := by omega
    rw [e1]
    simp only [List.drop_succ_cons, show d.length + 1 + 1 - 2 = d.length by omega, List.take_left, List.drop_left]
    rw [optsF_back os (acc ++ [(t, d)]) h.2 (by simp; omega), List.append_assoc]
    rfl
theorem bytesE_ok {os : List (Int × List Int)} (h : bytesE os = 0) : os.all optOk = true ∧ os.length ≤ 32 := by
  unfold bytesE at h
  split at h
  · exact absurd h (by decide)
  split at h
  · exact absurd h (by decide)
  · rename_i h1 h2
    exact ⟨by simpa using h1, by omega⟩
theorem bytesE_of {os : List (Int × List Int)} (h : os.all optOk = true) (hl : os.length ≤ 32) : bytesE os = 0 := by
  unfold bytesE
  rw [if_neg (by rw [h]; decide), if_neg (by omega)]
theorem bytesL_ok {os : List (Int × List Int)} (h : bytesE os = 0) : bytesL os = optBs os := by unfold bytesL; rw [if_pos h]
/-- Options are read again as they were. -/
theorem opts_back {os : List (Int × List Int)} (h : bytesE os = 0) : optsF [] (bytesL os) = (os, 0) := by
  obtain ⟨h1, h2⟩ := bytesE_ok h
  rw [bytesL_ok h, optsF_back os [] h1 (by simpa using h2)]
  rfl
theorem optBs_byt : ∀ (os : List (Int × List Int)), os.all optOk = true → (∀ o ∈ os, Byt o.2) → Byt (optBs os)
  | [], _, _ => Byt.nil_
  | o :: os, h, hb => by
    simp only [List.all_cons, Bool.and_eq_true] at h
    have h2 := h.1
    unfold optOk at h2
    simp only [Bool.and_eq_true, decide_eq_true_eq] at h2
    exact Byt.cons (by omega) (by omega) (Byt.cons (by omega) (by omega) ((hb o (by simp)).append (optBs_byt os h.2 fun x hx => hb x (by simp [hx]))))
/-- Bytes that are options are written again as they were. -/
theorem opts_forth {bs : List Int} (hb : Byt bs) (h : (optsF [] bs).2 = 0) : bytesE (optsF [] bs).1 = 0 ∧ bytesL (optsF [] bs).1 = bs := by
  obtain ⟨h1, h2, h3⟩ := optsF_tells bs.length [] bs (Nat.le_refl _) hb rfl (by simp) h
  have h4 := bytesE_of h1 h2
  exact ⟨h4, by rw [bytesL_ok h4, h3]; rfl⟩

theorem packE_ok {code id : Int} {xs : List Int} (h : packE code id xs = 0) : (octB code ∧ octB id) ∧ xs.length ≤ 16380 ∧ packL code id xs = [code, id] ++ be ((xs.length : Int) + 4) 2 ++ xs := by
  unfold packE at h
  split at h
  · exact absurd h (by decide)
  split at h
  · exact absurd h (by decide)
  · rename_i h1 h2
    refine ⟨by simpa using h1, by omega, ?_⟩
    unfold packL
    rw [if_neg h1, if_neg h2]
theorem packL_len {code id : Int} {xs : List Int} (h : packE code id xs = 0) : (packL code id xs).length = xs.length + 4 := by
  rw [(packE_ok h).2.2]
  simp [be_length]
  omega
theorem unpack_head {code id : Int} {xs more : List Int} {k : Nat} (h : packE code id xs = 0) (hk : 4 ≤ k) : getN ((((packL code id xs ++ more).take k).drop 2).take 2) = (xs.length : Int) + 4 := by
  obtain ⟨h1, h2, h3⟩ := packE_ok h
  have e : ((((packL code id xs ++ more).take k).drop 2).take 2) = be ((xs.length : Int) + 4) 2 := by
    rw [h3, show k = (k - 4) + 1 + 1 + 1 + 1 by omega]
    rfl
  rw [e, getN_be 2 _ (by omega)]
  simp only [Int.reducePow]
  omega
/-- A packet is read again as it was, whatever stands behind. -/
theorem unpack_back {code id : Int} {xs more : List Int} (h : packE code id xs = 0) : unpackF (packL code id xs ++ more) = (code, id, xs, 0) := by
  have hl := packL_len h
  have hh := unpack_head (more := more) (k := (packL code id xs ++ more).length) h (by rw [List.length_append]; omega)
  rw [List.take_length] at hh
  obtain ⟨h1, h2, h3⟩ := packE_ok h
  unfold unpackF
  rw [if_neg (by rw [List.length_append]; omega), hh, if_neg (by omega), if_neg (by rw [List.length_append]; omega)]
  have e0 : (packL code id xs ++ more).getD 0 0 = code := by rw [h3]; rfl
  have e1 : (packL code id xs ++ more).getD 1 0 = id := by rw [h3]; rfl
  have e4 : ((packL code id xs ++ more).drop 4).take (((xs.length : Int) + 4).toNat - 4) = xs := by
    rw [show ((xs.length : Int) + 4).toNat - 4 = xs.length by omega, h3]
    show ((xs ++ more).take xs.length) = xs
    exact List.take_left
  rw [e0, e1, e4]
/-- A packet that is cut short is told. -/
theorem unpack_cut {code id : Int} {xs : List Int} {k : Nat} (h : packE code id xs = 0) (hk : k < (packL code id xs).length) : unpackF ((packL code id xs).take k) = (0, 0, [], 8) := by
  have hl := packL_len h
  by_cases h4 : k < 4
  · unfold unpackF
    rw [if_pos (by rw [List.length_take]; omega)]
  · have hh := unpack_head (more := []) h (show 4 ≤ k by omega)
    rw [List.append_nil] at hh
    obtain ⟨h1, h2, h3⟩ := packE_ok h
    unfold unpackF
    rw [if_neg (by rw [List.length_take]; omega), hh, if_neg (by omega), if_pos (by rw [List.length_take]; omega)]
end Go.Proofs.Ythlfdckcnpnemaa
