/-
  What opt.Subset tells. No condition beyond sizes.
-/
import Derived.Test.YtodibldfolognaaOptW
import Derived.Deep.RegionWith
namespace Go.Proofs.Ytodibldfolognaa
open Go.RowKit
set_option linter.unusedVariables false
set_option linter.unusedSimpArgs false

def subStep (a : List (Int × List Int)) (x : Int × List Int) : List (Int × List Int) :=
  match a with
  | [] => []
  | y :: a' => if oneB y x = true then a' else y :: a'
def subF (a l : List (Int × List Int)) : List (Int × List Int) := l.foldl subStep a
def subB (a l : List (Int × List Int)) : Bool := (subF a l).isEmpty
theorem subF_snoc (a l : List (Int × List Int)) (x : Int × List Int) : subF a (l ++ [x]) = subStep (subF a l) x := by simp [subF]
theorem subF_of_sublist : ∀ (l a : List (Int × List Int)), a.Sublist l → subF a l = []
  | [], a, h => by
    have : a = [] := by simpa using h
    subst this
    rfl
  | x :: l, a, h => by
    show subF (subStep a x) l = []
    apply subF_of_sublist l
    match a, h with
    | [], _ => exact List.nil_sublist _
    | y :: a', h =>
      unfold subStep
      simp only
      split
      · rename_i he
        cases h with
        | cons _ h => exact (List.sublist_cons_self _ _).trans h
        | cons_cons _ h => exact h
      · rename_i he
        cases h with
        | cons _ h => exact h
        | cons_cons _ h => simp [oneB] at he
theorem subB_of_sublist {a l : List (Int × List Int)} (h : a.Sublist l) : subB a l = true := by unfold subB; rw [subF_of_sublist l a h]; rfl

theorem flat_drop_one (vs : List OV) : (flat vs).drop (1 * 2) = flat vs.tail := by
  cases vs with
  | nil => rfl
  | cons v vs => rw [flat_cons]; rfl
end Go.Proofs.Ytodibldfolognaa
