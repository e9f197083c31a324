/-
  ccp: a round of two ends. No condition.
-/
import Derived.Test.YtnhmpmibkpoipaaCcW
import Derived.Test.YtnhmpmibkpoipaaCcU
import Derived.Test.YtnhmpmibkpoipaaCcQ
namespace Go.Proofs.Ytnhmpmibkpoipaa
open Go.RowKit
set_option linter.unusedVariables false
set_option linter.unusedSimpArgs false

def canD (d : Int) : Prop := d = 0 ∨ (8 ≤ d ∧ d ≤ 15)
def canB (b : Int) : Prop := b = 0 ∨ (9 ≤ b ∧ b ≤ 15)
abbrev o26 (d : Int) : Int × List Int := (26, [dflB d, 0])
abbrev o21 (b : Int) : Int × List Int := (21, [cmpB b])
theorem j26 {td tb od : Int} (h : 8 ≤ od ∧ od ≤ 15) (s : OL × OL × OL) : jUpd td tb [] (o26 od) s = if td = 0 then (s.1 ++ [o26 od], s.2.1, s.2.2) else if td < od then (s.1, s.2.1 ++ [o26 td], s.2.2 ++ [o26 od]) else s := by
  have hb : borneF td tb [] (o26 od) = decide (td ≠ 0) := by rw [borneF_26 (by rfl)]; simp
  have hs := says_dfl h
  by_cases h0 : td = 0
  · rw [if_pos h0, jUpd_bad (by rw [hb]; simp [h0])]
  · rw [if_neg h0]
    by_cases h1 : td < od
    · rw [if_pos h1, jUpd_oth (by rw [hb]; simp [h0]) (othF_26 rfl hs (.inr h1))]
    · rw [if_neg h1, jUpd_ok (by rw [hb]; simp [h0]) (othF_26n rfl hs (by omega))]
theorem j21 {td tb ob : Int} {pre : OL} (hp : hasT pre 21 = false) (h : 9 ≤ ob ∧ ob ≤ 15) (s : OL × OL × OL) : jUpd td tb pre (o21 ob) s = if tb = 0 then (s.1 ++ [o21 ob], s.2.1, s.2.2) else if tb < ob then (s.1, s.2.1 ++ [o21 tb], s.2.2 ++ [o21 ob]) else s := by
  have hb : borneF td tb pre (o21 ob) = decide (tb ≠ 0) := by rw [borneF_21 hp]; simp
  have hs := says_cmp h
  by_cases h0 : tb = 0
  · rw [if_pos h0, jUpd_bad (by rw [hb]; simp [h0])]
  · rw [if_neg h0]
    by_cases h1 : tb < ob
    · rw [if_pos h1, jUpd_oth (by rw [hb]; simp [h0]) (othF_21 rfl hs (.inr h1))]
    · rw [if_neg h1, jUpd_ok (by rw [hb]; simp [h0]) (othF_21n rfl hs (by omega))]
theorem n26 {d : Int} (h : canD d) (h0 : d ≠ 0) (s : Int × Int) : nakU s (o26 d) = (d, s.2) := by
  have h1 := says_dfl (h.resolve_left h0)
  unfold nakU
  rw [h1, if_neg h0]
  unfold rdU
  rw [if_pos rfl, h1]
theorem n21 {b : Int} (h : canB b) (h0 : b ≠ 0) (s : Int × Int) : nakU s (o21 b) = (s.1, b) := by
  have h1 := says_cmp (h.resolve_left h0)
  unfold nakU
  rw [h1, if_neg h0]
  unfold rdU
  rw [if_neg (by simp), h1]
def Fine (td tb od ob : Int) : Prop := od ≤ td ∧ ob ≤ tb
def NoBad (td tb od ob : Int) : Prop := (td = 0 → od = 0) ∧ (tb = 0 → ob = 0)
def RoundOk (td tb od ob : Int) (J : Int × OL) : Prop :=
  (J.1 = 2 ∧ Fine td tb od ob) ∨
  (¬ Fine td tb od ob ∧ J.1 = 3 ∧ ∃ d b, nakF22 od ob (J.2.foldl nakU (0, 0)) = ((d, b), true) ∧ canD d ∧ canB b ∧ Fine td tb d b) ∨
  (¬ Fine td tb od ob ∧ J.1 = 4 ∧ ∃ d b, J.2.foldl rejU (od, ob) = (d, b) ∧ canD d ∧ canB b ∧ ((¬ NoBad td tb od ob ∧ NoBad td tb d b) ∨ Fine td tb d b))
theorem lowF_z (d : Int) : lowF d 0 = d := lowF_no (fun h => h.2.1 rfl)
theorem ends_round {td tb od ob : Int} (maxf naks : Int) (htd : canD td) (htb : canB tb) (hod : canD od) (hob : canB ob) : RoundOk td tb od ob (judgeC td tb maxf naks (optsC od ob)) := by
  have g1 : 0 ≤ td ∧ 0 ≤ tb := by unfold canD canB at *; omega
  have c0 : canD 0 := .inl rfl
  have b0 : canB 0 := .inl rfl
  rcases hod with hd | hd
  · subst hd
    rcases hob with hb | hb
    · subst hb
      have he : optsC 0 0 = [] := rfl
      rw [he]
      exact .inl ⟨rfl, g1⟩
    · have he : optsC 0 ob = [o21 ob] := by unfold optsC; rw [isB_yes hb]; rfl
      rw [he]
      simp only [judgeC, jRun, j21 (pre := []) rfl hb, List.nil_append]
      by_cases h0 : tb = 0
      · rw [if_pos h0]
        refine .inr (.inr ⟨by unfold Fine; omega, rfl, 0, 0, by simp [rejU], c0, b0, .inr ⟨g1.1, g1.2⟩⟩)
      · rw [if_neg h0]
        by_cases h1 : tb < ob
        · rw [if_pos h1]
          by_cases hn : naks < maxf
          · refine .inr (.inl ⟨by unfold Fine; omega, by simp [hn], 0, tb, ?_, c0, htb, ⟨g1.1, Int.le_refl _⟩⟩)
            have hl : lowF ob tb = tb := lowF_yes (by omega) h0 h1
            simp [hn, n21 htb h0, nakF22, lowF_z, hl]
            omega
          · refine .inr (.inr ⟨by unfold Fine; omega, by simp [hn], 0, 0, by simp [hn, rejU], c0, b0, .inr ⟨g1.1, g1.2⟩⟩)
        · rw [if_neg h1]
          exact .inl ⟨by simp, g1.1, by omega⟩
  · rcases hob with hb | hb
    · subst hb
      have he : optsC od 0 = [o26 od] := by unfold optsC; rw [isD_yes hd]; rfl
      rw [he]
      simp only [judgeC, jRun, j26 hd, List.nil_append]
      by_cases h0 : td = 0
      · rw [if_pos h0]
        refine .inr (.inr ⟨by unfold Fine; omega, rfl, 0, 0, by simp [rejU], c0, b0, .inr ⟨g1.1, g1.2⟩⟩)
      · rw [if_neg h0]
        by_cases h1 : td < od
        · rw [if_pos h1]
          by_cases hn : naks < maxf
          · refine .inr (.inl ⟨by unfold Fine; omega, by simp [hn], td, 0, ?_, htd, b0, ⟨Int.le_refl _, g1.2⟩⟩)
            have hl : lowF od td = td := lowF_yes (by omega) h0 h1
            simp [hn, n26 htd h0, nakF22, lowF_z, hl]
            omega
          · refine .inr (.inr ⟨by unfold Fine; omega, by simp [hn], 0, 0, by simp [hn, rejU], c0, b0, .inr ⟨g1.1, g1.2⟩⟩)
        · rw [if_neg h1]
          exact .inl ⟨by simp, by omega, g1.2⟩
    · have he : optsC od ob = [o26 od, o21 ob] := by unfold optsC; rw [isD_yes hd, isB_yes hb]; rfl
      have hp : hasT ([o26 od] : OL) 21 = false := by simp [hasT]
      rw [he]
      simp only [judgeC, jRun, j26 hd, List.nil_append, j21 hp hb]
      have cod : canD od := .inr hd
      have cob : canB ob := .inr hb
      by_cases h0 : td = 0
      · rw [if_pos h0]
        by_cases k0 : tb = 0
        · rw [if_pos k0]
          refine .inr (.inr ⟨by unfold Fine; omega, rfl, 0, 0, by simp [rejU], c0, b0, .inr ⟨g1.1, g1.2⟩⟩)
        · rw [if_neg k0]
          by_cases k1 : tb < ob
          · rw [if_pos k1]
            refine .inr (.inr ⟨by unfold Fine; omega, rfl, 0, ob, by simp [rejU], c0, cob, .inl ⟨by unfold NoBad; omega, by unfold NoBad; omega⟩⟩)
          · rw [if_neg k1]
            refine .inr (.inr ⟨by unfold Fine; omega, rfl, 0, ob, by simp [rejU], c0, cob, .inl ⟨by unfold NoBad; omega, by unfold NoBad; omega⟩⟩)
      · rw [if_neg h0]
        by_cases k0 : tb = 0
        · rw [if_pos k0]
          refine .inr (.inr ⟨by unfold Fine; omega, ?_, od, 0, ?_, cod, b0, .inl ⟨by unfold NoBad; omega, by unfold NoBad; omega⟩⟩)
          · split <;> simp
          · split <;> simp [rejU]
        · rw [if_neg k0]
          by_cases h1 : td < od
          · rw [if_pos h1]
            have hl : lowF od td = td := lowF_yes (by omega) h0 h1
            by_cases k1 : tb < ob
            · rw [if_pos k1]
              have kl : lowF ob tb = tb := lowF_yes (by omega) k0 k1
              by_cases hn : naks < maxf
              · refine .inr (.inl ⟨by unfold Fine; omega, by simp [hn], td, tb, ?_, htd, htb, ⟨Int.le_refl _, Int.le_refl _⟩⟩)
                simp [hn, n26 htd h0, n21 htb k0, nakF22, hl, kl]
                omega
              · refine .inr (.inr ⟨by unfold Fine; omega, by simp [hn], 0, 0, by simp [hn, rejU], c0, b0, .inr ⟨g1.1, g1.2⟩⟩)
            · rw [if_neg k1]
              by_cases hn : naks < maxf
              · refine .inr (.inl ⟨by unfold Fine; omega, by simp [hn], td, ob, ?_, htd, cob, ⟨Int.le_refl _, by omega⟩⟩)
                simp [hn, n26 htd h0, nakF22, hl, lowF_z]
                omega
              · refine .inr (.inr ⟨by unfold Fine; omega, by simp [hn], 0, ob, by simp [hn, rejU], c0, cob, .inr ⟨g1.1, by omega⟩⟩)
          · rw [if_neg h1]
            by_cases k1 : tb < ob
            · rw [if_pos k1]
              have kl : lowF ob tb = tb := lowF_yes (by omega) k0 k1
              by_cases hn : naks < maxf
              · refine .inr (.inl ⟨by unfold Fine; omega, by simp [hn], od, tb, ?_, cod, htb, ⟨by omega, Int.le_refl _⟩⟩)
                simp [hn, n21 htb k0, nakF22, kl, lowF_z]
                omega
              · refine .inr (.inr ⟨by unfold Fine; omega, by simp [hn], od, 0, by simp [hn, rejU], cod, b0, .inr ⟨by omega, g1.2⟩⟩)
            · rw [if_neg k1]
              exact .inl ⟨by simp, by omega, by omega⟩
end Go.Proofs.Ytnhmpmibkpoipaa
