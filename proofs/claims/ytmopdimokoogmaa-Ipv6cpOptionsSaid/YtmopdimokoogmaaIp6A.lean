/-
  ipv6cp's data and options. No condition.
-/
import Derived.Test.YtmopdimokoogmaaOptW
namespace Go.Proofs.Ytmopdimokoogmaa
open Go.RowKit
set_option linter.unusedVariables false
set_option linter.unusedSimpArgs false

theorem fill_step (ys : List Value) (k m : Nat) (z v : Value) (h : ys.length = m) (hk : k < m) (hv : ys[k]? = some v) : ((ys.take k ++ List.replicate (m - k) z).toArray.setIfInBounds k v) = (ys.take (k + 1) ++ List.replicate (m - (k + 1)) z).toArray := by
  apply Array.toList_inj.1
  rw [Array.toList_setIfInBounds]
  simp only
  rw [List.set_append_right _ _ (by rw [List.length_take]; omega), take_snoc hv, List.length_take, show k - min k ys.length = 0 by omega, show m - k = m - (k + 1) + 1 by omega, List.replicate_succ, List.set_cons_zero, List.append_assoc]
  rfl
set_option maxHeartbeats 1000000 in
theorem data_any (n : Int) (h0 : 0 ≤ n) (h0' : n < 18446744073709551616) (w : World) :
    Calls Try.prog 66 #[.int .u64 n] w fun e w' => ∃ A, e = .returned (.slice A 8 8) ∧ w'.ownsRow w.heap.size 5 1 (.slice A 8 8) 8 (nums .u8 (be n 8)) ∧ Below w.heap.size w w' := by
  have HZ : Hid (∀ W : World, W.heap[w.heap.size]? = some (.cells (List.replicate 8 (Value.int .u8 0)).toArray 5 (0, 0)) → W.heap[w.heap.size]? = some (.cells ((nums .u8 (be n 8)).take 0 ++ List.replicate (8 - 0) (Value.int .u8 0)).toArray 5 (0, 0))) := fun W h => h
  go_enter Try.func66, Try.ntmps66
  go_wp2_with
    (at_make
     refine wp_make (w0 := w) w.heap.size rfl (.const (.int .i64 8)) (.const (.int .i64 8)) 42 5 (.int .u8 0) 1 rfl Try.underlying42 info_u8 rfl (by decide) .i64 .i64 8 8 rfl rfl (by omega) (by omega) (Below.refl _ _) (Nat.le_refl _) ?_
     intro w1 hw1 hb1 hg1 hz1
     have HW := Lib.hid (HZ.out _ hw1)
     have HB := Lib.hid hb1
     clear hw1 hb1 hg1 hz1)
  go_loopw [4, 8] (fun _ i wr => ∃ k : Nat, i = .int .i64 k ∧ k ≤ 8 ∧ Hid (wr.heap[w.heap.size]? = some (.cells ((nums .u8 (be n 8)).take k ++ List.replicate (8 - k) (Value.int .u8 0)).toArray 5 (0, 0))) ∧ Hid (Below w.heap.size w wr)) (fun _ i _ => 8 - (intOf i).toNat)
  case atStart => exact ⟨0, rfl, by omega, HW.out, HB.out⟩
  case round =>
    obtain ⟨k, rfl, hk, HR, HB⟩ := hrel
    have X0 : Ext w wr := ⟨HB.out⟩
    by_cases hlt : k < 8
    · have hd : k = 0 ∨ k = 1 ∨ k = 2 ∨ k = 3 ∨ k = 4 ∨ k = 5 ∨ k = 6 ∨ k = 7 := by omega
      rcases hd with rfl | rfl | rfl | rfl | rfl | rfl | rfl | rfl
      ·
        have hc : wr.cell? ⟨w.heap.size, 0, none⟩ = some (.int .u8 0) := at_cell HR.out 0
        have hf := at_frozen HR.out 0
        go_wp2
        refine ⟨⟨0 + 1, rfl, by omega, ?_, Ext.out⟩, by simp [intOf]⟩
        have hv : (nums .u8 (be n 8))[0]? = some (.int .u8 (n / 256 ^ 7 % 256)) := rfl
        simp only [Int.reducePow, Int.ediv_one] at hv
        try rw [show n / 72057594037927936 % 256 = n / 72057594037927936 from by omega] at hv
        exact (at_set HR.out 0 _).trans (by rw [fill_step _ 0 8 _ _ (by rw [nums_length, be_length]) (by omega) hv])
      ·
        have hc : wr.cell? ⟨w.heap.size, 1, none⟩ = some (.int .u8 0) := at_cell HR.out 1
        have hf := at_frozen HR.out 1
        go_wp2
        refine ⟨⟨1 + 1, rfl, by omega, ?_, Ext.out⟩, by simp [intOf]⟩
        have hv : (nums .u8 (be n 8))[1]? = some (.int .u8 (n / 256 ^ 6 % 256)) := rfl
        simp only [Int.reducePow, Int.ediv_one] at hv
        try rw [show n / 72057594037927936 % 256 = n / 72057594037927936 from by omega] at hv
        exact (at_set HR.out 1 _).trans (by rw [fill_step _ 1 8 _ _ (by rw [nums_length, be_length]) (by omega) hv])
      ·
        have hc : wr.cell? ⟨w.heap.size, 2, none⟩ = some (.int .u8 0) := at_cell HR.out 2
        have hf := at_frozen HR.out 2
        go_wp2
        refine ⟨⟨2 + 1, rfl, by omega, ?_, Ext.out⟩, by simp [intOf]⟩
        have hv : (nums .u8 (be n 8))[2]? = some (.int .u8 (n / 256 ^ 5 % 256)) := rfl
        simp only [Int.reducePow, Int.ediv_one] at hv
        try rw [show n / 72057594037927936 % 256 = n / 72057594037927936 from by omega] at hv
        exact (at_set HR.out 2 _).trans (by rw [fill_step _ 2 8 _ _ (by rw [nums_length, be_length]) (by omega) hv])
      ·
        have hc : wr.cell? ⟨w.heap.size, 3, none⟩ = some (.int .u8 0) := at_cell HR.out 3
        have hf := at_frozen HR.out 3
        go_wp2
        refine ⟨⟨3 + 1, rfl, by omega, ?_, Ext.out⟩, by simp [intOf]⟩
        have hv : (nums .u8 (be n 8))[3]? = some (.int .u8 (n / 256 ^ 4 % 256)) := rfl
        simp only [Int.reducePow, Int.ediv_one] at hv
        try rw [show n / 72057594037927936 % 256 = n / 72057594037927936 from by omega] at hv
        exact (at_set HR.out 3 _).trans (by rw [fill_step _ 3 8 _ _ (by rw [nums_length, be_length]) (by omega) hv])
      ·
        have hc : wr.cell? ⟨w.heap.size, 4, none⟩ = some (.int .u8 0) := at_cell HR.out 4
        have hf := at_frozen HR.out 4
        go_wp2
        refine ⟨⟨4 + 1, rfl, by omega, ?_, Ext.out⟩, by simp [intOf]⟩
        have hv : (nums .u8 (be n 8))[4]? = some (.int .u8 (n / 256 ^ 3 % 256)) := rfl
        simp only [Int.reducePow, Int.ediv_one] at hv
        try rw [show n / 72057594037927936 % 256 = n / 72057594037927936 from by omega] at hv
        exact (at_set HR.out 4 _).trans (by rw [fill_step _ 4 8 _ _ (by rw [nums_length, be_length]) (by omega) hv])
      ·
        have hc : wr.cell? ⟨w.heap.size, 5, none⟩ = some (.int .u8 0) := at_cell HR.out 5
        have hf := at_frozen HR.out 5
        go_wp2
        refine ⟨⟨5 + 1, rfl, by omega, ?_, Ext.out⟩, by simp [intOf]⟩
        have hv : (nums .u8 (be n 8))[5]? = some (.int .u8 (n / 256 ^ 2 % 256)) := rfl
        simp only [Int.reducePow, Int.ediv_one] at hv
        try rw [show n / 72057594037927936 % 256 = n / 72057594037927936 from by omega] at hv
        exact (at_set HR.out 5 _).trans (by rw [fill_step _ 5 8 _ _ (by rw [nums_length, be_length]) (by omega) hv])
      ·
        have hc : wr.cell? ⟨w.heap.size, 6, none⟩ = some (.int .u8 0) := at_cell HR.out 6
        have hf := at_frozen HR.out 6
        go_wp2
        refine ⟨⟨6 + 1, rfl, by omega, ?_, Ext.out⟩, by simp [intOf]⟩
        have hv : (nums .u8 (be n 8))[6]? = some (.int .u8 (n / 256 ^ 1 % 256)) := rfl
        simp only [Int.reducePow, Int.ediv_one] at hv
        try rw [show n / 72057594037927936 % 256 = n / 72057594037927936 from by omega] at hv
        exact (at_set HR.out 6 _).trans (by rw [fill_step _ 6 8 _ _ (by rw [nums_length, be_length]) (by omega) hv])
      ·
        have hc : wr.cell? ⟨w.heap.size, 7, none⟩ = some (.int .u8 0) := at_cell HR.out 7
        have hf := at_frozen HR.out 7
        go_wp2
        refine ⟨⟨7 + 1, rfl, by omega, ?_, Ext.out⟩, by simp [intOf]⟩
        have hv : (nums .u8 (be n 8))[7]? = some (.int .u8 (n / 256 ^ 0 % 256)) := rfl
        simp only [Int.reducePow, Int.ediv_one] at hv
        try rw [show n / 72057594037927936 % 256 = n / 72057594037927936 from by omega] at hv
        exact (at_set HR.out 7 _).trans (by rw [fill_step _ 7 8 _ _ (by rw [nums_length, be_length]) (by omega) hv])
    · obtain rfl : k = 8 := by omega
      have hfin := HR.out
      rw [List.take_of_length_le (by rw [nums_length, be_length]; omega), Nat.sub_self, List.replicate_zero, List.append_nil] at hfin
      have HO : Hid (wr.ownsRow w.heap.size 5 1 (.slice (some ⟨w.heap.size, 0, none⟩) 8 8) 8 (nums .u8 (be n 8))) := by
        have h2 := own_of_block (n := 8) (cap := 8) (size := 1) hfin (Nat.le_refl _) (by omega) (by omega) (by rw [nums_length, be_length])
        rwa [List.take_of_length_le (by rw [nums_length, be_length]; omega)] at h2
      clear hfin
      go_wp2
      go_ret
      exact ⟨_, rfl, HO.out, HB.out⟩
end Go.Proofs.Ytmopdimokoogmaa
