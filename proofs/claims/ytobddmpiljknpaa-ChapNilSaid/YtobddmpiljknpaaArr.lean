/-
  Two arrays of numbers that are the same are found equal. No condition.
-/
import Derived.Test.YtobddmpiljknpaaCopy
import Derived.Laws.StructEq
namespace Go.Proofs.Ytobddmpiljknpaa
open Go.RowKit
theorem run_part {P : Program} (w : World) {e : TypeId} {k : IntKind} {xs : List Int} {j : Nat} (he : P.underlying e = some (.int k)) (hj : j < xs.length) : (part e (nums k xs).toArray (j * 1)).run P w = .ok (.int k (xs.getD j 0)) w := by
  have h1 : (nums k xs).toArray[j]? = some (.int k (xs.getD j 0)) := by simpa using nums_get k xs j hj
  simp [part, isAgg, run_underlying he, h1]
theorem run_equalIn_self {P : Program} (w : World) (d : Nat) (t e : TypeId) (n : Nat) (k : IntKind) (xs : List Int) (i0 : TypeInfo) (ht : P.underlying t = some (.array n e)) (he : P.underlying e = some (.int k)) (hi : P.info? e = some i0) (hs : i0.size = 1) (hl : xs.length = n) :
    (Op.equalIn (d + 2) t (.agg (nums k xs).toArray) (.agg (nums k xs).toArray)).run P w = .ok true w := by
  rw [Op.equalIn]
  have key : ∀ (l : List Nat), (∀ j ∈ l, j < xs.length) → (forIn l ((none, ()) : Option Bool × Unit) fun i __s => do
              let __do_lift ← part e (nums k xs).toArray (i * 1)
              let __do_lift_1 ← part e (nums k xs).toArray (i * 1)
              let __do_lift ← Op.equalIn (d + 1) e __do_lift __do_lift_1
              if (!__do_lift) = true then pure (ForInStep.done (some false, ())) else pure (ForInStep.yield (none, ()))).run P w = Result.ok (none, ()) w := by
    intro l
    induction l with
    | nil => intro _; simp
    | cons j l ih =>
      intro hl
      have h1 := run_part (P := P) (k := k) (xs := xs) (j := j) w he (hl j (by simp))
      rw [List.forIn_cons]
      simp only [Sem.run_bind, h1, Result.andThen_ok, run_equalIn_int w d e k k _ _ he, beq_self_eq_true, Bool.not_true, Bool.false_eq_true, if_false, Sem.run_pure]
      exact ih fun x hx => hl x (by simp [hx])
  simp only [Sem.run_bind, run_underlying ht, Result.andThen_ok, sizeOf, typeInfo, run_program, hi, hs, Sem.run_pure, Std.Legacy.Range.forIn_eq_forIn_range', Std.Legacy.Range.size]
  rw [key _ (by intro j hj; simp at hj; omega)]
  rfl
end Go.Proofs.Ytobddmpiljknpaa
