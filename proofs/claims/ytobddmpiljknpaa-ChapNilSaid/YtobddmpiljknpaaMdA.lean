/-
  md5: the tables and the words at the beginning. No condition.
-/
import Derived.Test.YtobddmpiljknpaaArr
import Derived.Test.YtobddmpiljknpaaReg
import Derived.Test.YtobddmpiljknpaaBytes
namespace Go.Proofs.Ytobddmpiljknpaa
open Go.RowKit
set_option linter.unusedVariables false
set_option linter.unusedSimpArgs false

def ksL : List Int := [0xd76aa478, 0xe8c7b756, 0x242070db, 0xc1bdceee, 0xf57c0faf, 0x4787c62a, 0xa8304613, 0xfd469501,
  0x698098d8, 0x8b44f7af, 0xffff5bb1, 0x895cd7be, 0x6b901122, 0xfd987193, 0xa679438e, 0x49b40821,
  0xf61e2562, 0xc040b340, 0x265e5a51, 0xe9b6c7aa, 0xd62f105d, 0x02441453, 0xd8a1e681, 0xe7d3fbc8,
  0x21e1cde6, 0xc33707d6, 0xf4d50d87, 0x455a14ed, 0xa9e3e905, 0xfcefa3f8, 0x676f02d9, 0x8d2a4c8a,
  0xfffa3942, 0x8771f681, 0x6d9d6122, 0xfde5380c, 0xa4beea44, 0x4bdecfa9, 0xf6bb4b60, 0xbebfbc70,
  0x289b7ec6, 0xeaa127fa, 0xd4ef3085, 0x04881d05, 0xd9d4d039, 0xe6db99e5, 0x1fa27cf8, 0xc4ac5665,
  0xf4292244, 0x432aff97, 0xab9423a7, 0xfc93a039, 0x655b59c3, 0x8f0ccc92, 0xffeff47d, 0x85845dd1,
  0x6fa87e4f, 0xfe2ce6e0, 0xa3014314, 0x4e0811a1, 0xf7537e82, 0xbd3af235, 0x2ad7d2bb, 0xeb86d391]
def turnsL : List Int := [7, 12, 17, 22, 5, 9, 14, 20, 4, 11, 16, 23, 6, 10, 15, 21]
def beginL : List Int := [0x67452301, 0xefcdab89, 0x98badcfe, 0x10325476]
abbrev zero64 : Obj := .cells (nums .u32 (List.replicate 64 0)).toArray 187
set_option maxRecDepth 100000 in
set_option maxHeartbeats 1000000 in
theorem ks4_any (w : World) : Calls Try.prog 126 #[] w fun e w' => e = .returned (.agg (nums .u32 ksL).toArray) ∧ Below w.heap.size w w' := by
  have HZ := Lib.hid (at_new w zero64)
  have HY : Hid (Ext w (w.alloc zero64)) := (inferInstance : Ext w _)
  go_enter Try.func126, Try.ntmps126
  go_wp2_with
    (refine wpList_store_row rfl 187 (.tmp 0) (.tmp 1) rfl w.heap.size (nums .u32 ksL).toArray rfl rfl 187 (nums .u32 (List.replicate 64 0)).toArray HZ.out (by kernel_rfl) rfl (one_all _ _) ?_)
  exact bodyPost_ret (results_cell_row Try.results126 _ _ w.heap.size 187 _ (0, 0) _ rfl (setRow_heap _ _ _ _ _ _ HZ.out) Try.underlying187 rfl (by kernel_rfl)) rfl ⟨rfl, (Ext.setRow_ HY.out (Nat.le_refl _) _).out⟩
set_option maxRecDepth 100000 in
set_option maxHeartbeats 1000000 in
theorem turns4_any (w : World) : Calls Try.prog 127 #[] w fun e w' => e = .returned (.agg (nums .i64 turnsL).toArray) ∧ Below w.heap.size w w' := by
  have HZ := Lib.hid (at_new w (.cells (nums .i64 (List.replicate 16 0)).toArray 190))
  have HY : Hid (Ext w (w.alloc (.cells (nums .i64 (List.replicate 16 0)).toArray 190))) := (inferInstance : Ext w _)
  go_enter Try.func127, Try.ntmps127
  go_wp2_with
    (refine wpList_store_row rfl 190 (.tmp 0) (.tmp 5) rfl w.heap.size (nums .i64 turnsL).toArray rfl rfl 190 (nums .i64 (List.replicate 16 0)).toArray HZ.out (by kernel_rfl) rfl (one_all _ _) ?_)
  exact bodyPost_ret (results_cell_row Try.results127 _ _ w.heap.size 190 _ (0, 0) _ rfl (setRow_heap _ _ _ _ _ _ HZ.out) Try.underlying190 rfl (by kernel_rfl)) rfl ⟨rfl, (Ext.setRow_ HY.out (Nat.le_refl _) _).out⟩
theorem begin4_any (w : World) : Calls Try.prog 109 #[] w fun e w' => e = .returned (.agg (nums .u32 beginL).toArray) ∧ Below w.heap.size w w' := by
  go_enter Try.func109, Try.ntmps109
  go_wp2
  exact bodyPost_ret (v := .agg (nums .u32 beginL).toArray) (by simp [results, Try.results109, go_sem, nums, beginL]) rfl ⟨rfl, Ext.out⟩
end Go.Proofs.Ytobddmpiljknpaa
