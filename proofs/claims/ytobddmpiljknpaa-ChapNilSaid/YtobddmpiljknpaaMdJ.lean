/-
  md5: what is told of blocks in a row, at once or one behind the other. No condition.
-/
import Derived.Test.YtobddmpiljknpaaMdF
namespace Go.Proofs.Ytobddmpiljknpaa
open Go.RowKit
set_option linter.unusedVariables false

theorem ldF_ext {as' bs : List Int} (h : ∀ k < 64, as'.getD k 0 = bs.getD k 0) : ∀ k, k ≤ 64 → ldF as' k = ldF bs k
  | 0, _ => rfl
  | k + 1, hk => by rw [ldF, ldF, ldStep, ldStep, ldF_ext h k (by omega), h k (by omega)]
theorem mdBlock_ext {as' bs : List Int} (s : W4) (h : ∀ k < 64, as'.getD k 0 = bs.getD k 0) : mdBlock s as' = mdBlock s bs := by
  unfold mdBlock
  rw [ldF_ext h 64 (Nat.le_refl _)]
/-- What stands behind the whole blocks makes no difference. -/
theorem mdN_append (s : W4) (A B : List Int) : ∀ j, 64 * j ≤ A.length → mdN s (A ++ B) j = mdN s A j
  | 0, _ => rfl
  | j + 1, hj => by
    rw [mdN, mdN, mdN_append s A B j (by omega)]
    refine mdBlock_ext _ fun k hk => ?_
    rw [List.drop_append_of_le_length (by omega)]
    simp only [List.getD_eq_getElem?_getD]
    rw [List.getElem?_append_left (by rw [List.length_drop]; omega)]
/-- Blocks one behind the other. -/
theorem mdN_split (s : W4) (L : List Int) (i : Nat) : ∀ j, mdN s L (i + j) = mdN (mdN s L i) (L.drop (64 * i)) j
  | 0 => rfl
  | j + 1 => by
    rw [← Nat.add_assoc, mdN, mdN, mdN_split s L i j, List.drop_drop, Nat.mul_add]
theorem padL_drop (ys : List Int) (n : Int) (q : Nat) (hq : 64 * q ≤ ys.length) : (padL ys n).drop (64 * q) = padL (ys.drop (64 * q)) n := by
  have hz : padZ (ys.drop (64 * q)).length = padZ ys.length := by
    rw [List.length_drop]
    unfold padZ
    omega
  unfold padL
  rw [hz, List.append_assoc, List.append_assoc, List.drop_append_of_le_length hq, List.append_assoc, List.append_assoc]
/-- The digest, all bytes at once. -/
theorem digest_eq (ys : List Int) : digest ys = toldS (mdN beginW (padL ys ys.length) ((padL ys ys.length).length / 64)) 16 := by
  have hq : 64 * (ys.length / 64) ≤ ys.length := by omega
  have hd := padL_drop ys ys.length _ hq
  have hl : (padL ys ys.length).length / 64 = ys.length / 64 + (padL (ys.drop (64 * (ys.length / 64))) ys.length).length / 64 := by
    rw [← hd, List.length_drop, padL_len]
    omega
  unfold digest sumS
  rw [hl, mdN_split, hd]
  congr 2
  unfold padL
  rw [List.append_assoc, List.append_assoc, mdN_append _ _ _ _ hq]
end Go.Proofs.Ytobddmpiljknpaa
