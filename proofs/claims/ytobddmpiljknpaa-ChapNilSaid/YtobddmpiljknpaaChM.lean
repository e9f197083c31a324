/-
  md5.Equal, and that digests are bytes (as XMdM has them, without what law04 alone needs). Conditions: the lists are no longer than the model's memory.
-/
import Derived.Test.YtobddmpiljknpaaMdP
import Derived.Lib.SlBytesConst
namespace Go.Proofs.Ytobddmpiljknpaa
open Go.RowKit
set_option linter.unusedVariables false
set_option linter.unusedSimpArgs false

theorem told_byt (s : W4) : ∀ k, Byt (toldS s k)
  | 0 => by
    intro x hx
    rw [List.eq_of_mem_replicate (show x ∈ List.replicate 16 0 from hx)]
    omega
  | k + 1 => by
    intro x hx
    rw [toldS] at hx
    rcases List.mem_or_eq_of_mem_set hx with h | rfl
    · exact told_byt s k x h
    · exact ⟨Int.emod_nonneg _ (by decide), Int.emod_lt_of_pos _ (by decide)⟩
theorem digest_byt (xs : List Int) : Byt (digest xs) := told_byt _ _
theorem or_xor_zero {D X Y : Int} (h0 : 0 ≤ D) (h1 : D < 256) (k0 : 0 ≤ X) (k1 : X < 256) (l0 : 0 ≤ Y) (l1 : Y < 256) :
    (bits .or .u8 D (bits .xor .u8 X Y) = 0 ↔ D = 0 ∧ X = Y) ∧ 0 ≤ bits .or .u8 D (bits .xor .u8 X Y) ∧ bits .or .u8 D (bits .xor .u8 X Y) < 256 := by
  obtain ⟨d, rfl⟩ := Int.eq_ofNat_of_zero_le h0
  obtain ⟨x, rfl⟩ := Int.eq_ofNat_of_zero_le k0
  obtain ⟨y, rfl⟩ := Int.eq_ofNat_of_zero_le l0
  have hx : bits .xor .u8 (x : Int) (y : Int) = ((x ^^^ y : Nat) : Int) := by
    have hlt : x ^^^ y < 2 ^ 8 := Nat.xor_lt_two_pow (by omega) (by omega)
    simp only [bits, BitVec.ofInt_natCast, BitVec.toNat_xor, BitVec.toNat_ofNat]
    rw [show IntKind.u8.bits = 8 from rfl, Nat.mod_eq_of_lt (show x < 2 ^ 8 by omega), Nat.mod_eq_of_lt (show y < 2 ^ 8 by omega)]
    exact wraps_u8 _ (by omega) (by exact_mod_cast hlt)
  have hlt : x ^^^ y < 2 ^ 8 := Nat.xor_lt_two_pow (by omega) (by omega)
  rw [hx, (bits_nat .u8 8 (by decide) wraps_u8 d (x ^^^ y) (by omega) hlt).2]
  have ho : d ||| (x ^^^ y) < 2 ^ 8 := Nat.or_lt_two_pow (by omega) hlt
  refine ⟨?_, by omega, by omega⟩
  have hxy : x ^^^ y = 0 ↔ x = y := by
    constructor
    · intro h
      have h2 : (x ^^^ y) ^^^ y = x := by rw [Nat.xor_assoc, Nat.xor_self, Nat.xor_zero]
      rw [h, Nat.zero_xor] at h2
      exact h2.symm
    · rintro rfl
      exact Nat.xor_self _
  rw [Int.natCast_eq_zero, Nat.or_eq_zero_iff, hxy]
  omega
set_option maxHeartbeats 1000000 in
theorem equal4_any (A B : Option Addr) (n m c d : Nat) (xs ys : List Int) (hn : xs.length = n) (hm : ys.length = m) (hn' : n ≤ 9223372036854775807) (hm' : m ≤ 9223372036854775807) (hbx : Byt xs) (hby : Byt ys)
    (w : World) (hx : Cells w A (nums .u8 xs)) (hy : Cells w B (nums .u8 ys)) :
    Calls Try.prog 69 #[.slice A n c, .slice B m d] w fun e w' => e = .returned (.bool (decide (xs = ys))) ∧ Drawn w w' := by
  by_cases h : n = m
  · subst h
    have Hn := Lib.hid hn
    have Hm := Lib.hid hm
    have HBX := Lib.hid hbx
    have HBY := Lib.hid hby
    clear hn hm hbx hby
    go_enter Try.func69, Try.ntmps69
    go_wp2
    go_loopw [5, 14] (fun v i wr => ∃ (k : Nat) (D : Int), i = .int .i64 k ∧ v = .int .u8 D ∧ k ≤ n ∧ 0 ≤ D ∧ D < 256 ∧ Hid (D = 0 ↔ xs.take k = ys.take k) ∧ Hid (Drawn w wr)) (fun _ i _ => n - (intOf i).toNat)
    case atStart => exact ⟨0, 0, rfl, rfl, by omega, by omega, by omega, (by unfold Hid; simp), Drawn.refl _⟩
    case round =>
      obtain ⟨k, D, rfl, rfl, hk, hD0, hD1, hT, hD⟩ := hrel
      by_cases hlt : k < n
      · obtain ⟨ad, rfl, hc⟩ := (hx.drawn hD.out).num (by rw [Hn.out]; exact hlt)
        obtain ⟨bd, rfl, hd⟩ := (hy.drawn hD.out).num (by rw [Hm.out]; exact hlt)
        have HX0 := HBX.out.getD k
        have HY0 := HBY.out.getD k
        generalize hX : xs.getD k 0 = X at *
        generalize hY : ys.getD k 0 = Y at *
        have HX := Lib.hid hX
        have HY := Lib.hid hY
        have HZ := Lib.hid (or_xor_zero hD0 hD1 HX0.1 HX0.2 HY0.1 HY0.2)
        clear hX hY HX0 HY0
        go_wp2
        go_quiet (fail)
        go_wp2
        go_roundw
        case rel =>
          refine ⟨k + 1, _, by go_num, rfl, by omega, HZ.out.2.1, HZ.out.2.2, ?_, hD.out.drewN _⟩
          unfold Hid
          rw [HZ.out.1, hT.out]
          constructor
          · rintro ⟨h1, h2⟩
            exact take_eq_succ h1 (by rw [Hn.out]; exact hlt) (by rw [Hm.out]; exact hlt) (by rw [HX.out, HY.out, h2])
          · intro h1
            have h2 := congrArg (List.take k) h1
            rw [List.take_take, List.take_take, Nat.min_eq_left (Nat.le_succ k)] at h2
            refine ⟨h2, ?_⟩
            have h3 := congrArg (fun l => l.getD k 0) h1
            simp only [List.getD_eq_getElem?_getD, List.getElem?_take, Nat.lt_succ_self, if_true] at h3
            rw [← HX.out, ← HY.out, List.getD_eq_getElem?_getD, List.getD_eq_getElem?_getD]
            exact h3
        case measure => simp [intOf]; omega
      · obtain rfl : k = n := by omega
        have hT := hT.out
        rw [List.take_of_length_le (by rw [Hn.out]; omega), List.take_of_length_le (by rw [Hm.out]; omega)] at hT
        have HT := Lib.hid hT
        clear hT
        go_wp2
        go_ret
        refine ⟨ret_bool ?_, hD.out⟩
        by_cases h : D = 0
        · rw [decide_eq_true (HT.out.1 h)]
          simp [h]
        · rw [decide_eq_false (fun e => h (HT.out.2 e))]
          simp [h]
  · have hne : ((n : Int) != (m : Int)) = true := by simp only [bne_iff_ne, ne_eq]; omega
    go_enter Try.func69, Try.ntmps69
    go_wp2
    go_ret
    refine ⟨?_, 0, rfl⟩
    rw [decide_eq_false]
    · rfl
    rintro rfl
    omega
end Go.Proofs.Ytobddmpiljknpaa
