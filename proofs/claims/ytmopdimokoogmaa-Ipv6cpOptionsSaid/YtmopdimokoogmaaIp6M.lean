/-
  What Judge tells, as a plain law. Conditions: the list is no longer than the model's memory.
-/
import Derived.Test.YtmopdimokoogmaaIp6D
namespace Go.Proofs.Ytmopdimokoogmaa
open Go.RowKit
set_option linter.unusedVariables false
set_option linter.unusedSimpArgs false

abbrev JSt := List (Int × List Int) × Bool × Int
def jBad (mine : Int) (M : Bool) (o : Int × List Int) : Bool := !idOk o || M || (decide (idN o = 0) && decide (mine = 0))
def jStep (mine : Int) (s : JSt) (o : Int × List Int) : JSt := (if jBad mine s.2.1 o then s.1 ++ [o] else s.1, s.2.1 || decide (o.1 = 1), if jBad mine s.2.1 o then s.2.2 else idN o)
def jF (mine : Int) (os : List (Int × List Int)) : JSt := os.foldl (jStep mine) ([], false, 0)
theorem jF_snoc (mine : Int) (os : List (Int × List Int)) (o : Int × List Int) : jF mine (os ++ [o]) = jStep mine (jF mine os) o := by simp [jF]
theorem jF_len (mine : Int) : ∀ os : List (Int × List Int), (jF mine os).1.length ≤ os.length := by
  have h : ∀ (os : List (Int × List Int)) (s : JSt), (os.foldl (jStep mine) s).1.length ≤ s.1.length + os.length := by
    intro os
    induction os with
    | nil => intro s; simp
    | cons o os ih =>
      intro s
      have h1 := ih (jStep mine s o)
      have h2 : (jStep mine s o).1.length ≤ s.1.length + 1 := by
        unfold jStep
        simp only
        split <;> simp
      simp only [List.foldl_cons, List.length_cons]
      omega
  intro os
  simpa [jF] using h os ([], false, 0)
theorem jBad_met (mine : Int) (o : Int × List Int) : jBad mine true o = true := by unfold jBad; simp
theorem jF_bad_mono (mine : Int) (os : List (Int × List Int)) (s : JSt) (h : s.1 ≠ []) : (os.foldl (jStep mine) s).1 ≠ [] := by
  induction os generalizing s with
  | nil => exact h
  | cons o os ih =>
    refine ih _ ?_
    unfold jStep
    simp only
    split
    · simp
    · exact h
/-- Where nothing is bad there is nothing, or one identifier. -/
theorem jF_fine {mine : Int} {os : List (Int × List Int)} (h : (jF mine os).1 = []) : os = [] ∧ jF mine os = ([], false, 0) ∨ ∃ o, os = [o] ∧ idOk o = true ∧ (idN o ≠ 0 ∨ mine ≠ 0) ∧ jF mine os = ([], true, idN o) := by
  match os with
  | [] => exact .inl ⟨rfl, rfl⟩
  | o :: os =>
    right
    have e : jF mine (o :: os) = os.foldl (jStep mine) (jStep mine ([], false, 0) o) := rfl
    rw [e] at h
    rcases hb : jBad mine false o with _ | _
    · have hok : idOk o = true ∧ (idN o ≠ 0 ∨ mine ≠ 0) := by
        unfold jBad at hb
        simp at hb
        refine ⟨hb.1, ?_⟩
        by_cases h0 : idN o = 0
        · exact .inr (hb.2 h0)
        · exact .inl h0
      have ht : o.1 = 1 := by
        have := hok.1
        unfold idOk at this
        simp at this
        exact this.1
      have hs : jStep mine ([], false, 0) o = ([], true, idN o) := by simp [jStep, hb, ht]
      match os with
      | [] => exact ⟨o, rfl, hok.1, hok.2, by rw [e, hs]; rfl⟩
      | p :: os =>
        exfalso
        refine jF_bad_mono mine os _ ?_ h
        rw [hs]
        unfold jStep
        rw [jBad_met]
        simp
    · exfalso
      refine jF_bad_mono mine os _ ?_ h
      unfold jStep
      rw [hb]
      simp
def judgeF (mine naks maxf draw : Int) (os : List (Int × List Int)) : Int × List (Int × List Int) :=
  if (jF mine os).1 ≠ [] then (4, (jF mine os).1) else if (jF mine os).2.1 = false then (if naks = 0 then (3, [(1, be (givF draw mine) 8)]) else (2, os))
  else if (jF mine os).2.2 ≠ 0 ∧ (jF mine os).2.2 ≠ mine then (2, os) else if naks < maxf then (3, [(1, be (givF draw mine) 8)]) else (4, os)
def JudgeTells (r : Int × List (Int × List Int)) (w : World) (e : Ending) (w' : World) : Prop :=
  ∃ v us, e = .returned (.tuple #[.int .i64 r.1, v]) ∧ OptsOwn w' w.heap.size v us ∧ us.map OV.opt = r.2 ∧ Below w.heap.size w w'

theorem judge_of {r : Int × List (Int × List Int)} {i : Int} {os : List (Int × List Int)} {w w' : World} {v : Value} {us : List OV} (h : r = (i, os)) (ho : OptsOwn w' w.heap.size v us) (hu : us.map OV.opt = os) (hb : Below w.heap.size w w') : JudgeTells r w (.returned (.tuple #[.int .i64 i, v])) w' :=
  ⟨v, us, by rw [h], ho, by rw [h]; exact hu, hb⟩
end Go.Proofs.Ytmopdimokoogmaa
