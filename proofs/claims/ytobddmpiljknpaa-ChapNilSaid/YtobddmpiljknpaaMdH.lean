/-
  md5: sixteen words out of 64 bytes, two ways. No condition.
-/
import Derived.Test.YtobddmpiljknpaaMdG
import Derived.Lib.EndianBits
namespace Go.Proofs.Ytobddmpiljknpaa
open Go.RowKit
set_option linter.unusedVariables false
set_option linter.unusedSimpArgs false

def partF (bs : List Int) (j : Nat) : Nat → Int
  | 0 => 0
  | m + 1 => partF bs j m + bs.getD (4 * j + m) 0 * 256 ^ m
theorem partF_bd {bs : List Int} (hb : Byt bs) (j : Nat) : ∀ m, 0 ≤ partF bs j m ∧ partF bs j m < 256 ^ m
  | 0 => by simp [partF]
  | m + 1 => by
    have h := partF_bd hb j m
    have hx := hb.getD (4 * j + m)
    obtain ⟨x, hxe⟩ : ∃ x, bs.getD (4 * j + m) 0 = x := ⟨_, rfl⟩
    obtain ⟨p, hp⟩ : ∃ p : Int, (256 : Int) ^ m = p := ⟨_, rfl⟩
    rw [partF, Int.pow_succ, hxe, hp]
    rw [hxe] at hx
    rw [hp] at h
    have h1 : 0 ≤ x * p := Int.mul_nonneg hx.1 (by omega)
    have h2 : x * p ≤ 255 * p := Int.mul_le_mul_of_nonneg_right (by omega) (by omega)
    omega
theorem u32_wrap (n : Int) (h₀ : 0 ≤ n) (h₁ : n < 2 ^ 32) : IntKind.u32.wrap n = n := by rw [IntKind.wrap_u32']; omega
theorem or_0 {y x : Int} (hy0 : 0 ≤ y) (hy : y < 1) (hx0 : 0 ≤ x) (hx : x < 256) : bits .or .u32 y (x * 1 % 4294967296) = y + x := by
  rw [bits_join_low .u32 32 (by decide) u32_wrap 0 y (x * 1 % 4294967296) hy0 (by omega) (by omega) (by omega) (by omega) (by omega)]
  omega
theorem or_1 {y x : Int} (hy0 : 0 ≤ y) (hy : y < 256) (hx0 : 0 ≤ x) (hx : x < 256) : bits .or .u32 y (x * 256 % 4294967296) = y + x * 256 := by
  rw [bits_join_low .u32 32 (by decide) u32_wrap 8 y (x * 256 % 4294967296) hy0 (by omega) (by omega) (by omega) (by omega) (by omega)]
  omega
theorem or_2 {y x : Int} (hy0 : 0 ≤ y) (hy : y < 65536) (hx0 : 0 ≤ x) (hx : x < 256) : bits .or .u32 y (x * 65536 % 4294967296) = y + x * 65536 := by
  rw [bits_join_low .u32 32 (by decide) u32_wrap 16 y (x * 65536 % 4294967296) hy0 (by omega) (by omega) (by omega) (by omega) (by omega)]
  omega
theorem or_3 {y x : Int} (hy0 : 0 ≤ y) (hy : y < 16777216) (hx0 : 0 ≤ x) (hx : x < 256) : bits .or .u32 y (x * 16777216 % 4294967296) = y + x * 16777216 := by
  rw [bits_join_low .u32 32 (by decide) u32_wrap 24 y (x * 16777216 % 4294967296) hy0 (by omega) (by omega) (by omega) (by omega) (by omega)]
  omega
theorem or_part {y x : Int} {r : Nat} (hr : r < 4) (hy0 : 0 ≤ y) (hy : y < 256 ^ r) (hx0 : 0 ≤ x) (hx : x < 256) : bits .or .u32 y (x * 2 ^ (8 * r) % 4294967296) = y + x * 256 ^ r := by
  have e0 : (2 : Int) ^ (8 * 0) = 1 := by decide
  have e1 : (2 : Int) ^ (8 * 1) = 256 := by decide
  have e2 : (2 : Int) ^ (8 * 2) = 65536 := by decide
  have e3 : (2 : Int) ^ (8 * 3) = 16777216 := by decide
  have f0 : (256 : Int) ^ 0 = 1 := by decide
  have f1 : (256 : Int) ^ 1 = 256 := by decide
  have f2 : (256 : Int) ^ 2 = 65536 := by decide
  have f3 : (256 : Int) ^ 3 = 16777216 := by decide
  have hd : r = 0 ∨ r = 1 ∨ r = 2 ∨ r = 3 := by omega
  rcases hd with h | h | h | h
  · rw [h, f0] at hy
    rw [h, e0, f0, or_0 hy0 hy hx0 hx, Int.mul_one]
  · rw [h, f1] at hy
    rw [h, e1, f1, or_1 hy0 hy hx0 hx]
  · rw [h, f2] at hy
    rw [h, e2, f2, or_2 hy0 hy hx0 hx]
  · rw [h, f3] at hy
    rw [h, e3, f3, or_3 hy0 hy hx0 hx]
theorem ldF_part {bs : List Int} (hb : Byt bs) : ∀ (k : Nat), k ≤ 64 → ∀ j < 16, (ldF bs k).getD j 0 = partF bs j (min 4 (k - 4 * j))
  | 0, _, j, hj => by
    rw [ldF, show min 4 (0 - 4 * j) = 0 by omega, partF]
    rw [List.getD_eq_getElem?_getD, List.getElem?_replicate]
    split <;> rfl
  | k + 1, hk, j, hj => by
    have ih := ldF_part hb k (by omega)
    rw [ldF, ldStep]
    by_cases hjq : j = k / 4
    · subst hjq
      have hold := ih (k / 4) hj
      rw [show min 4 (k - 4 * (k / 4)) = k % 4 by omega] at hold
      rw [show min 4 (k + 1 - 4 * (k / 4)) = k % 4 + 1 by omega, partF, show 4 * (k / 4) + k % 4 = k by omega]
      have hbd := partF_bd hb (k / 4) (k % 4)
      have hx := hb.getD k
      rw [hold, or_part (by omega) hbd.1 hbd.2 hx.1 hx.2]
      rw [List.getD_eq_getElem?_getD, List.getElem?_set_self (by rw [ldF_len]; exact hj)]
      rfl
    · have hu : (((ldF bs k).set (k / 4) (bits .or .u32 ((ldF bs k).getD (k / 4) 0) (bs.getD k 0 * 2 ^ (8 * (k % 4)) % 4294967296))).getD j 0) = (ldF bs k).getD j 0 := by
        simp only [List.getD_eq_getElem?_getD]
        rw [List.getElem?_set_ne (by omega)]
      rw [hu, ih j hj]
      congr 1
      omega
/-- The sixteen words. -/
theorem ldF_word {bs : List Int} (hb : Byt bs) {j : Nat} (hj : j < 16) : (ldF bs 64).getD j 0 = wordF (bs.getD (4 * j) 0) (bs.getD (4 * j + 1) 0) (bs.getD (4 * j + 2) 0) (bs.getD (4 * j + 3) 0) := by
  rw [ldF_part hb 64 (by omega) j hj, show min 4 (64 - 4 * j) = 4 by omega]
  simp only [partF, wordF, Nat.add_zero]
  simp only [show (256 : Int) ^ 0 = 1 by decide, show (256 : Int) ^ 1 = 256 by decide, show (256 : Int) ^ 2 = 65536 by decide, show (256 : Int) ^ 3 = 16777216 by decide]
  omega
end Go.Proofs.Ytobddmpiljknpaa
