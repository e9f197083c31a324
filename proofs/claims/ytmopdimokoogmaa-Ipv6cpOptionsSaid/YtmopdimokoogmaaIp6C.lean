/-
  What asked.id tells. No condition.
-/
import Derived.Test.YtmopdimokoogmaaOptW
namespace Go.Proofs.Ytmopdimokoogmaa
open Go.RowKit
set_option linter.unusedVariables false
set_option linter.unusedSimpArgs false
def idOk (o : Int × List Int) : Bool := decide (o.1 = 1) && decide (o.2.length = 8)
def idN (o : Int × List Int) : Int := if idOk o then getN o.2 else 0
theorem idOk_type {t : Int} {xs : List Int} (h : t ≠ 1) : idOk (t, xs) = false := by simp [idOk, h]
theorem idOk_len {t : Int} {xs : List Int} (h : xs.length ≠ 8) : idOk (t, xs) = false := by simp [idOk, h]
theorem idOk_yes {xs : List Int} (h : xs.length = 8) : idOk (1, xs) = true := by simp [idOk, h]
theorem idN_no {o : Int × List Int} (h : idOk o = false) : idN o = 0 := by unfold idN; rw [h]; rfl
theorem idN_yes {o : Int × List Int} (h : idOk o = true) : idN o = getN o.2 := by unfold idN; rw [h]; rfl
def IdTells (o : Int × List Int) (w : World) (e : Ending) (w' : World) : Prop := e = .returned (.tuple #[.int .u64 (idN o), .bool (idOk o)]) ∧ Below w.heap.size w w'
theorem idTells_no {o : Int × List Int} {w w' : World} (h : idOk o = false) (hb : Below w.heap.size w w') : IdTells o w (.returned (.tuple #[.int .u64 0, .bool false])) w' := ⟨by rw [idN_no h, h], hb⟩
theorem idTells_yes {o : Int × List Int} {w w' : World} (h : idOk o = true) (hb : Below w.heap.size w w') : IdTells o w (.returned (.tuple #[.int .u64 (getN o.2), .bool true])) w' := ⟨by rw [idN_yes h, h], hb⟩
set_option maxHeartbeats 1000000 in
theorem askedId_any (t : Int) (A : Option Addr) (n c : Nat) (xs : List Int) (hn : xs.length = n) (hb : Byt xs) (w : World) (hx : Cells w A (nums .u8 xs)) :
    Calls Try.prog 58 #[.agg #[.int .i64 t, .slice A n c]] w (IdTells (t, xs) w) := by
  by_cases ht : t = 1
  · subst ht
    by_cases h8 : n = 8
    · subst h8
      have HI := Lib.hid (idOk_yes hn)
      have Hn := Lib.hid hn
      have HB := Lib.hid hb
      have HX := Lib.hid hx
      clear hn hb hx
      go_enter Try.func58, Try.ntmps58
      go_wp2
      go_loop [4, 6, 22] (fun v _ j => ∃ k : Nat, j = .int .i64 k ∧ k ≤ 8 ∧ v = .int .u64 (getN (xs.take k))) (fun _ _ j => 8 - (intOf j).toNat)
      case atStart => exact ⟨0, rfl, by omega, rfl⟩
      case round =>
        obtain ⟨k, rfl, hk, rfl⟩ := hrel
        by_cases hlt : k < 8
        · obtain ⟨ad, rfl, hc1⟩ := (HX.out.alloc (.cells #[.int .i64 1, .slice A 8 c] 78)).num (i := k) (by rw [Hn.out]; exact hlt)
          have hx1 := HB.out.getD k
          have hg1 := getN_bound 7 (xs.take k) (HB.out.take k) (by simp; omega)
          have HG2 : Hid (getN (xs.take (k + 1)) = getN (xs.take k) * 256 + xs.getD k 0) := by rw [take_succ_getD (by rw [Hn.out]; exact hlt), getN_snoc]; rfl
          generalize getN (xs.take k) = N at *
          generalize xs.getD k 0 = X at *
          go_wp2
          go_round
          case rel => exact ⟨k + 1, by go_num, by omega, by rw [HG2.out, or_u64_byte hg1.1 hg1.2 hx1.1 hx1.2]⟩
          case measure => simp [intOf]; omega
        · obtain rfl : k = 8 := by omega
          have HT : Hid (xs.take 8 = xs) := List.take_of_length_le (by rw [Hn.out]; omega)
          go_wp2
          go_ret2
          rw [HT.out]
          exact idTells_yes HI.out Ext.out
    · have h8' : ((n : Int) != 8) = true := by simp only [bne_iff_ne, ne_eq]; omega
      have HI := Lib.hid (idOk_len (t := 1) (xs := xs) (by omega))
      clear hn
      go_enter Try.func58, Try.ntmps58
      go_wp2
      go_ret2
      exact idTells_no HI.out Ext.out
  · have ht' : (t != 1) = true := by simpa using ht
    have HI := Lib.hid (idOk_type (xs := xs) ht)
    clear ht hn
    go_enter Try.func58, Try.ntmps58
    go_wp2
    go_ret2
    exact idTells_no HI.out Ext.out
set_option maxHeartbeats 1000000 in
theorem number17_any (t : Int) (A : Option Addr) (n c : Nat) (xs : List Int) (hn : xs.length = n) (h8 : n = 8) (hb : Byt xs) (w : World) (hx : Cells w A (nums .u8 xs)) :
    Calls Try.prog 61 #[.agg #[.int .i64 t, .slice A n c]] w fun e w' => e = .returned (.int .u64 (getN xs)) ∧ Below w.heap.size w w' := by
  subst h8
  have Hn := Lib.hid hn
  have HB := Lib.hid hb
  have HX := Lib.hid hx
  clear hn hb hx
  go_enter Try.func61, Try.ntmps61
  go_wp2
  go_loop [3, 4] (fun v j => ∃ k : Nat, j = .int .i64 k ∧ k ≤ 8 ∧ v = .int .u64 (getN (xs.take k))) (fun _ j => 8 - (intOf j).toNat)
  case atStart => exact ⟨0, rfl, by omega, rfl⟩
  case round =>
    obtain ⟨k, rfl, hk, rfl⟩ := hrel
    by_cases hlt : k < 8
    · obtain ⟨ad, rfl, hc1⟩ := (HX.out.alloc (.cells #[.int .i64 t, .slice A 8 c] 76)).num (i := k) (by rw [Hn.out]; exact hlt)
      have hx1 := HB.out.getD k
      have hg1 := getN_bound 7 (xs.take k) (HB.out.take k) (by simp; omega)
      have HG2 : Hid (getN (xs.take (k + 1)) = getN (xs.take k) * 256 + xs.getD k 0) := by rw [take_succ_getD (by rw [Hn.out]; exact hlt), getN_snoc]; rfl
      generalize getN (xs.take k) = N at *
      generalize xs.getD k 0 = X at *
      go_wp2
      go_round
      case rel => exact ⟨k + 1, by go_num, by omega, by rw [HG2.out, or_u64_byte hg1.1 hg1.2 hx1.1 hx1.2]⟩
      case measure => simp [intOf]; omega
    · obtain rfl : k = 8 := by omega
      have HT : Hid (xs.take 8 = xs) := List.take_of_length_le (by rw [Hn.out]; omega)
      go_wp2
      go_ret
      exact ⟨by rw [HT.out]; rfl, Ext.out⟩
end Go.Proofs.Ytmopdimokoogmaa
