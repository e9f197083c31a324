/-
  md5.Sum: the digest of bytes. Conditions: they are no longer than the model's memory.
-/
import Derived.Test.YtobddmpiljknpaaMdE
namespace Go.Proofs.Ytobddmpiljknpaa
open Go.RowKit
set_option linter.unusedVariables false
set_option linter.unusedSimpArgs false

theorem wok_begin : WOk beginW := by
  intro j
  match j with
  | 0 => decide
  | 1 => decide
  | 2 => decide
  | 3 => decide
  | j + 4 => simp [wl]
theorem wok_block (s : W4) (bs : List Int) : WOk (mdBlock s bs) := by
  have h : ∀ x : Int, 0 ≤ x % 4294967296 := fun x => Int.emod_nonneg _ (by decide)
  intro j
  match j with
  | 0 => exact h _
  | 1 => exact h _
  | 2 => exact h _
  | 3 => exact h _
  | j + 4 => simp [wl]
theorem wok_run {s : W4} (hs : WOk s) (L : List Int) : ∀ j, WOk (mdN s L j)
  | 0 => hs
  | j + 1 => wok_block _ _
/-- The digest of bytes. -/
def digest (ys : List Int) : List Int := sumS (mdN beginW ys (ys.length / 64)) (ys.drop (64 * (ys.length / 64))) ys.length
theorem digest_len (ys : List Int) : (digest ys).length = 16 := toldS_len _ _
end Go.Proofs.Ytobddmpiljknpaa
