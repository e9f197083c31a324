/-
  ipv6cp.Options, the reference's, Want. No condition.
-/
import Derived.Test.YtmopdimokoogmaaIp6A
import Derived.Test.YtmopdimokoogmaaIp6B
import Derived.Test.YtmopdimokoogmaaIp6C
namespace Go.Proofs.Ytmopdimokoogmaa
open Go.RowKit
set_option linter.unusedVariables false
set_option linter.unusedSimpArgs false

theorem OptsOwn.one_ {w : World} {B n c : Nat} {A : Option Addr} {t : Int} {d : List Int} (ho : w.ownsRow B 5 1 (.slice A n c) n (nums .u8 d)) (hB : B ≤ w.heap.size) (hd : d.length = n ∧ n ≤ 140737488355300 ∧ Byt d) :
    OptsOwn (w.alloc (.cells #[.int .i64 t, .slice A n c] 76)) B (.slice (some ⟨w.heap.size, 0, none⟩) 1 1) [⟨t, A, n, c, d⟩] := by
  refine ⟨?_, ?_, ?_, List.pairwise_singleton _ _, ?_⟩
  · exact own_box w B w.heap.size rfl hB [.int .i64 t, .slice A n c] 1 2 rfl (by omega) 76
  · intro u hu
    simp at hu
    subst hu
    exact ho.alloc _
  · intro u hu b hb he
    simp at hu
    subst hu
    have h1 := own_lt ho b hb
    injection he with he
    have he : w.heap.size = b := he
    omega
  · intro u hu
    simp at hu
    subst hu
    exact hd
def OptsTells (os : List (Int × List Int)) (w : World) (e : Ending) (w' : World) : Prop :=
  ∃ v us, e = .returned v ∧ OptsOwn w' w.heap.size v us ∧ us.map OV.opt = os ∧ Below w.heap.size w w'
theorem opts17_any (n : Int) (h0 : 0 ≤ n) (h0' : n < 18446744073709551616) (w : World) :
    Calls Try.prog 21 #[.int .u64 n] w (OptsTells [(1, be n 8)] w) := by
  go_enter Try.func21, Try.ntmps21
  go_wp2_with fail
  refine (data_any n h0 h0' w).mono ?_
  rintro e w1 ⟨A1, rfl, ho1, hb1⟩
  have S1 : Step w1 _ := ⟨hb1⟩
  have HO : Hid (OptsOwn (w1.alloc (.cells #[.int .i64 1, .slice A1 8 8] 76)) w.heap.size (.slice (some ⟨w1.heap.size, 0, none⟩) 1 1) [⟨1, A1, 8, 8, be n 8⟩]) := OptsOwn.one_ ho1 hb1.size ⟨be_length _ _, by omega, be_byt _ _⟩
  clear ho1 hb1
  go_wp2
  go_ret
  exact ⟨_, _, rfl, HO.out, rfl, Ext.out⟩
set_option maxHeartbeats 1000000 in
theorem ropts17_any (n : Int) (h0 : 0 ≤ n) (h0' : n < 18446744073709551616) (w : World) :
    Calls Try.prog 22 #[.int .u64 n] w (OptsTells [(1, be n 8)] w) := by
  go_enter Try.func22, Try.ntmps22
  go_wp2
  go_loopw [3, 4] (fun b i wr => ∃ k : Nat, i = .int .i64 (7 - (k : Int)) ∧ k ≤ 8 ∧ Hid (wr.ownsRow w.heap.size 5 1 b k (nums .u8 ((be n 8).take k))) ∧ Hid (Below w.heap.size w wr)) (fun _ i _ => (intOf i + 1).toNat)
  case atStart => exact ⟨0, rfl, by omega, own_nil _ _ _ _, Below.refl _ _⟩
  case round =>
    obtain ⟨k, rfl, hk, HR, HB⟩ := hrel
    have X0 : Ext w wr := ⟨HB.out⟩
    have hsz := HB.out.size
    obtain ⟨L, cl, rfl, hcl⟩ := own_slice HR.out
    by_cases hlt : k < 8
    · have hd : k = 0 ∨ k = 1 ∨ k = 2 ∨ k = 3 ∨ k = 4 ∨ k = 5 ∨ k = 6 ∨ k = 7 := by omega
      rcases hd with rfl | rfl | rfl | rfl | rfl | rfl | rfl | rfl
      ·
        go_wp2_with
          (at_builtin
           refine wp_append_box (w0 := w) w.heap.size rfl (.tmp 9) (.tmp 16) 42 5 (.int .u8 0) 1 1 1 rfl Try.underlying42 info_u8 rfl (by decide) (by decide) _ _ _ [_] rfl rfl rfl (one_int _ _) (by exact HR.out) HB.out hsz ?_ ?_
           · omega
           intro v2 w2 ho2 hb2 _ _
           have HO2 := Lib.hid ho2
           have HB2 := Lib.hid hb2
           clear ho2 hb2)
        refine ⟨⟨0 + 1, rfl, by omega, ?_, HB2.out⟩, by simp [intOf]⟩
        have hv : (be n 8)[0]? = some (n / 256 ^ 7 % 256) := rfl
        simp only [Int.reducePow, Int.ediv_one] at hv
        try rw [show n / 72057594037927936 % 256 = n / 72057594037927936 from by omega] at hv
        show World.ownsRow _ _ _ _ _ _ _
        rw [take_snoc hv, nums_append]
        exact HO2.out
      ·
        go_wp2_with
          (at_builtin
           refine wp_append_box (w0 := w) w.heap.size rfl (.tmp 9) (.tmp 16) 42 5 (.int .u8 0) 1 1 1 rfl Try.underlying42 info_u8 rfl (by decide) (by decide) _ _ _ [_] rfl rfl rfl (one_int _ _) (by exact HR.out) HB.out hsz ?_ ?_
           · omega
           intro v2 w2 ho2 hb2 _ _
           have HO2 := Lib.hid ho2
           have HB2 := Lib.hid hb2
           clear ho2 hb2)
        refine ⟨⟨1 + 1, rfl, by omega, ?_, HB2.out⟩, by simp [intOf]⟩
        have hv : (be n 8)[1]? = some (n / 256 ^ 6 % 256) := rfl
        simp only [Int.reducePow, Int.ediv_one] at hv
        try rw [show n / 72057594037927936 % 256 = n / 72057594037927936 from by omega] at hv
        show World.ownsRow _ _ _ _ _ _ _
        rw [take_snoc hv, nums_append]
        exact HO2.out
      ·
        go_wp2_with
          (at_builtin
           refine wp_append_box (w0 := w) w.heap.size rfl (.tmp 9) (.tmp 16) 42 5 (.int .u8 0) 1 1 1 rfl Try.underlying42 info_u8 rfl (by decide) (by decide) _ _ _ [_] rfl rfl rfl (one_int _ _) (by exact HR.out) HB.out hsz ?_ ?_
           · omega
           intro v2 w2 ho2 hb2 _ _
           have HO2 := Lib.hid ho2
           have HB2 := Lib.hid hb2
           clear ho2 hb2)
        refine ⟨⟨2 + 1, rfl, by omega, ?_, HB2.out⟩, by simp [intOf]⟩
        have hv : (be n 8)[2]? = some (n / 256 ^ 5 % 256) := rfl
        simp only [Int.reducePow, Int.ediv_one] at hv
        try rw [show n / 72057594037927936 % 256 = n / 72057594037927936 from by omega] at hv
        show World.ownsRow _ _ _ _ _ _ _
        rw [take_snoc hv, nums_append]
        exact HO2.out
      ·
        go_wp2_with
          (at_builtin
           refine wp_append_box (w0 := w) w.heap.size rfl (.tmp 9) (.tmp 16) 42 5 (.int .u8 0) 1 1 1 rfl Try.underlying42 info_u8 rfl (by decide) (by decide) _ _ _ [_] rfl rfl rfl (one_int _ _) (by exact HR.out) HB.out hsz ?_ ?_
           · omega
           intro v2 w2 ho2 hb2 _ _
           have HO2 := Lib.hid ho2
           have HB2 := Lib.hid hb2
           clear ho2 hb2)
        refine ⟨⟨3 + 1, rfl, by omega, ?_, HB2.out⟩, by simp [intOf]⟩
        have hv : (be n 8)[3]? = some (n / 256 ^ 4 % 256) := rfl
        simp only [Int.reducePow, Int.ediv_one] at hv
        try rw [show n / 72057594037927936 % 256 = n / 72057594037927936 from by omega] at hv
        show World.ownsRow _ _ _ _ _ _ _
        rw [take_snoc hv, nums_append]
        exact HO2.out
      ·
        go_wp2_with
          (at_builtin
           refine wp_append_box (w0 := w) w.heap.size rfl (.tmp 9) (.tmp 16) 42 5 (.int .u8 0) 1 1 1 rfl Try.underlying42 info_u8 rfl (by decide) (by decide) _ _ _ [_] rfl rfl rfl (one_int _ _) (by exact HR.out) HB.out hsz ?_ ?_
           · omega
           intro v2 w2 ho2 hb2 _ _
           have HO2 := Lib.hid ho2
           have HB2 := Lib.hid hb2
           clear ho2 hb2)
        refine ⟨⟨4 + 1, rfl, by omega, ?_, HB2.out⟩, by simp [intOf]⟩
        have hv : (be n 8)[4]? = some (n / 256 ^ 3 % 256) := rfl
        simp only [Int.reducePow, Int.ediv_one] at hv
        try rw [show n / 72057594037927936 % 256 = n / 72057594037927936 from by omega] at hv
        show World.ownsRow _ _ _ _ _ _ _
        rw [take_snoc hv, nums_append]
        exact HO2.out
      ·
        go_wp2_with
          (at_builtin
           refine wp_append_box (w0 := w) w.heap.size rfl (.tmp 9) (.tmp 16) 42 5 (.int .u8 0) 1 1 1 rfl Try.underlying42 info_u8 rfl (by decide) (by decide) _ _ _ [_] rfl rfl rfl (one_int _ _) (by exact HR.out) HB.out hsz ?_ ?_
           · omega
           intro v2 w2 ho2 hb2 _ _
           have HO2 := Lib.hid ho2
           have HB2 := Lib.hid hb2
           clear ho2 hb2)
        refine ⟨⟨5 + 1, rfl, by omega, ?_, HB2.out⟩, by simp [intOf]⟩
        have hv : (be n 8)[5]? = some (n / 256 ^ 2 % 256) := rfl
        simp only [Int.reducePow, Int.ediv_one] at hv
        try rw [show n / 72057594037927936 % 256 = n / 72057594037927936 from by omega] at hv
        show World.ownsRow _ _ _ _ _ _ _
        rw [take_snoc hv, nums_append]
        exact HO2.out
      ·
        go_wp2_with
          (at_builtin
           refine wp_append_box (w0 := w) w.heap.size rfl (.tmp 9) (.tmp 16) 42 5 (.int .u8 0) 1 1 1 rfl Try.underlying42 info_u8 rfl (by decide) (by decide) _ _ _ [_] rfl rfl rfl (one_int _ _) (by exact HR.out) HB.out hsz ?_ ?_
           · omega
           intro v2 w2 ho2 hb2 _ _
           have HO2 := Lib.hid ho2
           have HB2 := Lib.hid hb2
           clear ho2 hb2)
        refine ⟨⟨6 + 1, rfl, by omega, ?_, HB2.out⟩, by simp [intOf]⟩
        have hv : (be n 8)[6]? = some (n / 256 ^ 1 % 256) := rfl
        simp only [Int.reducePow, Int.ediv_one] at hv
        try rw [show n / 72057594037927936 % 256 = n / 72057594037927936 from by omega] at hv
        show World.ownsRow _ _ _ _ _ _ _
        rw [take_snoc hv, nums_append]
        exact HO2.out
      ·
        go_wp2_with
          (at_builtin
           refine wp_append_box (w0 := w) w.heap.size rfl (.tmp 9) (.tmp 16) 42 5 (.int .u8 0) 1 1 1 rfl Try.underlying42 info_u8 rfl (by decide) (by decide) _ _ _ [_] rfl rfl rfl (one_int _ _) (by exact HR.out) HB.out hsz ?_ ?_
           · omega
           intro v2 w2 ho2 hb2 _ _
           have HO2 := Lib.hid ho2
           have HB2 := Lib.hid hb2
           clear ho2 hb2)
        refine ⟨⟨7 + 1, rfl, by omega, ?_, HB2.out⟩, by simp [intOf]⟩
        have hv : (be n 8)[7]? = some (n / 256 ^ 0 % 256) := rfl
        simp only [Int.reducePow, Int.ediv_one] at hv
        try rw [show n / 72057594037927936 % 256 = n / 72057594037927936 from by omega] at hv
        show World.ownsRow _ _ _ _ _ _ _
        rw [take_snoc hv, nums_append]
        exact HO2.out
    · obtain rfl : k = 8 := by omega
      have hfin := HR.out
      rw [List.take_of_length_le (by rw [be_length]; omega)] at hfin
      have HO : Hid (OptsOwn (wr.alloc (.cells #[.int .i64 1, .slice L 8 cl] 76)) w.heap.size (.slice (some ⟨wr.heap.size, 0, none⟩) 1 1) [⟨1, L, 8, cl, be n 8⟩]) := OptsOwn.one_ hfin HB.out.size ⟨be_length _ _, by omega, be_byt _ _⟩
      clear hfin
      go_wp2
      go_ret
      exact ⟨_, _, rfl, HO.out, rfl, Ext.out⟩
end Go.Proofs.Ytmopdimokoogmaa
