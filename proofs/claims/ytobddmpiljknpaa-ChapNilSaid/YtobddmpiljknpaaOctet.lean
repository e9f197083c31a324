/-
  What octet.Get, octet.Put and the reference's twins tell. Conditions: the list is no longer than the model's memory, its bytes are bytes.
-/
import Derived.Test.YtobddmpiljknpaaRef01
import Derived.Test.YtobddmpiljknpaaMath
namespace Go.Proofs.Ytobddmpiljknpaa
open Go.RowKit
set_option linter.unusedVariables false
set_option linter.unusedSimpArgs false

def getF (xs : List Int) (i size : Int) : Int × Int :=
  if size < 1 ∨ 8 < size ∨ i < 0 ∨ (xs.length : Int) < i then (0, 1) else if (xs.length : Int) - i < size then (0, 8) else (getN ((xs.drop i.toNat).take size.toNat), 0)
theorem getF_arg {xs : List Int} {i size : Int} (h : size < 1 ∨ 8 < size ∨ i < 0 ∨ (xs.length : Int) < i) : getF xs i size = (0, 1) := by unfold getF; rw [if_pos h]
theorem getF_short {xs : List Int} {i size : Int} (h : ¬ (size < 1 ∨ 8 < size ∨ i < 0 ∨ (xs.length : Int) < i)) (k : (xs.length : Int) - i < size) : getF xs i size = (0, 8) := by unfold getF; rw [if_neg h, if_pos k]
theorem getF_ok {xs : List Int} {i size : Int} (h : ¬ (size < 1 ∨ 8 < size ∨ i < 0 ∨ (xs.length : Int) < i)) (k : ¬ (xs.length : Int) - i < size) : getF xs i size = (getN ((xs.drop i.toNat).take size.toNat), 0) := by unfold getF; rw [if_neg h, if_neg k]

set_option maxHeartbeats 400000 in
theorem get_any (A : Option Addr) (n c : Nat) (i size : Int) (xs : List Int) (hn : xs.length = n) (hn' : n ≤ 140737488355200) (hc : n ≤ c) (hi : -9223372036854775808 ≤ i) (hi' : i ≤ 9223372036854775807) (hs : -9223372036854775808 ≤ size) (hs' : size ≤ 9223372036854775807)
    (w : World) (hx : Cells w A (nums .u8 xs)) (hb : Byt xs) :
    Calls Try.prog 130 #[.slice A n c, .int .i64 i, .int .i64 size] w fun e w' => e = .returned (.tuple #[.int .u64 (getF xs i size).1, .int .i64 (getF xs i size).2]) ∧ Drawn w w' := by
  by_cases h1 : size < 1
  · rw [getF_arg (by omega)]
    go_enter Try.func130, Try.ntmps130
    go_wp2
    go_ret2
    exact ⟨rfl, Drawn.refl _⟩
  by_cases h2 : 8 < size
  · rw [getF_arg (by omega)]
    go_enter Try.func130, Try.ntmps130
    go_wp2
    go_ret2
    exact ⟨rfl, Drawn.refl _⟩
  by_cases h3 : i < 0
  · rw [getF_arg (by omega)]
    go_enter Try.func130, Try.ntmps130
    go_wp2
    go_ret2
    exact ⟨rfl, Drawn.refl _⟩
  by_cases h4 : (n : Int) < i
  · rw [getF_arg (by omega)]
    go_enter Try.func130, Try.ntmps130
    go_wp2
    go_ret2
    exact ⟨rfl, Drawn.refl _⟩
  by_cases h5 : (n : Int) - i < size
  · rw [getF_short (by omega) (by omega)]
    go_enter Try.func130, Try.ntmps130
    go_wp2
    go_ret2
    exact ⟨rfl, Drawn.refl _⟩
  rw [getF_ok (by omega) (by omega)]
  obtain ⟨i, rfl⟩ := Int.eq_ofNat_of_zero_le (Int.not_lt.mp h3)
  obtain ⟨size, rfl⟩ := Int.eq_ofNat_of_zero_le (show 0 ≤ size by omega)
  obtain ⟨ad, rfl, hcell⟩ := hx (by rw [nums_length]; omega)
  simp only [Int.toNat_natCast]
  obtain ⟨ys, hys⟩ : ∃ ys, ys = (xs.drop i).take size := ⟨_, rfl⟩
  rw [← hys]
  have hyl : ys.length = size := by rw [hys]; simp; omega
  have hyb : Byt ys := by rw [hys]; exact (hb.drop _).take _
  have hyc : ∀ k, k < size → w.cell? ((ad.add i).add k) = some (.int .u8 (ys.getD k 0)) := by
    intro k hk
    have := hcell (i + k) _ (nums_get _ _ _ (by omega))
    rw [add_of_add, this, hys]
    simp [List.getD_eq_getElem?_getD, List.getElem?_take, hk]
  have HL := Lib.hid hyl
  have HB := Lib.hid hyb
  have HC := Lib.hid hyc
  clear hys hyl hyb hb hcell hyc hx hn
  go_enter Try.func130, Try.ntmps130
  go_wp2
  go_loop [8, 10, 40] (fun v _ j => ∃ k : Nat, j = .int .i64 k ∧ k ≤ size ∧ v = .int .u64 (getN (ys.take k))) (fun _ _ j => size - (intOf j).toNat)
  case atStart => exact ⟨0, rfl, by omega, rfl⟩
  case round =>
    obtain ⟨k, rfl, hk, rfl⟩ := hrel
    by_cases hlt : k < size
    · have hc1 := HC.out k hlt
      have hx1 := HB.out.getD k
      have hg1 := getN_bound 7 (ys.take k) (HB.out.take k) (by simp; omega)
      have HG2 : Hid (getN (ys.take (k + 1)) = getN (ys.take k) * 256 + ys.getD k 0) := by rw [take_succ_getD (by rw [HL.out]; exact hlt), getN_snoc]; rfl
      generalize getN (ys.take k) = N at *
      generalize ys.getD k 0 = X at *
      go_wp2
      go_round
      case rel => exact ⟨k + 1, by go_num, by omega, by rw [HG2.out, or_u64_byte hg1.1 hg1.2 hx1.1 hx1.2]⟩
      case measure => simp [intOf]; omega
    · obtain rfl : k = size := by omega
      have HT : Hid (ys.take k = ys) := List.take_of_length_le (by rw [HL.out]; omega)
      go_wp2
      go_ret2
      exact ⟨by rw [HT.out]; rfl, Drawn.refl _⟩

end Go.Proofs.Ytobddmpiljknpaa
