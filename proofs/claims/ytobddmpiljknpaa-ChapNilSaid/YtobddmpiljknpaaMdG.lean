/-
  The reference's leaves (md5): Ks, turns, Begin, word. No condition.
-/
import Derived.Test.YtobddmpiljknpaaMdB
import Derived.Test.YtobddmpiljknpaaOpt
namespace Go.Proofs.Ytobddmpiljknpaa
open Go.RowKit
set_option linter.unusedVariables false
set_option linter.unusedSimpArgs false

set_option maxRecDepth 100000 in
set_option maxHeartbeats 1000000 in
theorem rks4_any (w : World) : Calls Try.prog 122 #[] w fun e w' => ∃ A, e = .returned (.slice A 64 64) ∧ Cells w' A (nums .u32 ksL) ∧ Below w.heap.size w w' := by
  go_enter Try.func122, Try.ntmps122
  go_wp2
  go_ret
  exact ⟨_, rfl, cells_box w w.heap.size rfl (nums .u32 ksL) _, Ext.out⟩
theorem rbegin4_any (w : World) : Calls Try.prog 103 #[] w fun e w' => e = .returned (.agg (nums .u32 beginL).toArray) ∧ Below w.heap.size w w' := by
  go_enter Try.func103, Try.ntmps103
  go_wp2
  exact bodyPost_ret (v := .agg (nums .u32 beginL).toArray) (by simp [results, Try.results103, go_sem, nums, beginL]) rfl ⟨rfl, Ext.out⟩
set_option maxRecDepth 100000 in
theorem rturns4_any (k : Nat) (hk : k < 64) (w : World) : Calls Try.prog 124 #[.int .i64 k] w fun e w' => e = .returned (.int .u64 (turnsL.getD (k / 16 * 4 + k % 4) 0)) ∧ Below w.heap.size w w' := by
  have hk0 : (0 : Int) ≤ (k : Int) := by omega
  have hkI : (k : Int) < 64 := by omega
  have hq : k / 16 * 4 + k % 4 < 16 := by omega
  have hc : (w.alloc (.cells (nums .u64 turnsL).toArray 158)).cell? ⟨w.heap.size, k / 16 * 4 + k % 4, none⟩ = some (.int .u64 (turnsL.getD (k / 16 * 4 + k % 4) 0)) := by
    rw [at_cell (at_new w _)]
    simpa using nums_get .u64 turnsL (k / 16 * 4 + k % 4) (by show _ < 16; omega)
  have HC := Lib.hid hc
  have HT : Hid (∃ x, turnsL.getD (k / 16 * 4 + k % 4) 0 = x) := ⟨_, rfl⟩
  obtain ⟨x, hx⟩ := HT.out
  rw [hx] at HC ⊢
  have hc2 : (w.alloc (.cells #[.int .u64 7, .int .u64 12, .int .u64 17, .int .u64 22, .int .u64 5, .int .u64 9, .int .u64 14, .int .u64 20, .int .u64 4, .int .u64 11, .int .u64 16, .int .u64 23, .int .u64 6, .int .u64 10, .int .u64 15, .int .u64 21] 158)).cell? ⟨w.heap.size, k / 16 * 4 + k % 4, none⟩ = some (.int .u64 x) := HC.out
  clear hc hx
  go_enter Try.func124, Try.ntmps124
  go_wp2
  go_ret
  exact ⟨rfl, Ext.out⟩
def wordF (a b c d : Int) : Int := a + b * 256 + c * 65536 + d * 16777216
set_option maxRecDepth 100000 in
set_option maxHeartbeats 1000000 in
theorem rword4_any (ad : Addr) (n c : Nat) (x0 x1 x2 x3 : Int) (hn : 4 ≤ n) (w : World) (h0 : w.cell? ad = some (.int .u8 x0)) (h1 : w.cell? ⟨ad.block, ad.off + 1, none⟩ = some (.int .u8 x1)) (h2 : w.cell? ⟨ad.block, ad.off + 2, none⟩ = some (.int .u8 x2)) (h3 : w.cell? ⟨ad.block, ad.off + 3, none⟩ = some (.int .u8 x3))
    (b0 : 0 ≤ x0 ∧ x0 < 256) (b1 : 0 ≤ x1 ∧ x1 < 256) (b2 : 0 ≤ x2 ∧ x2 < 256) (b3 : 0 ≤ x3 ∧ x3 < 256) :
    Calls Try.prog 123 #[.slice (some ad) n c] w fun e w' => e = .returned (.int .u32 (wordF x0 x1 x2 x3)) ∧ Below w.heap.size w w' := by
  have hnI : (4 : Int) ≤ (n : Int) := by omega
  have hn0 : 0 < n := by omega
  have hn1 : 1 < n := by omega
  have hn2 : 2 < n := by omega
  have hn3 : 3 < n := by omega
  have hn0I : (0 : Int) < (n : Int) := by omega
  have hn1I : (1 : Int) < (n : Int) := by omega
  have hn2I : (2 : Int) < (n : Int) := by omega
  have hn3I : (3 : Int) < (n : Int) := by omega
  obtain ⟨b00, b01⟩ := b0
  obtain ⟨b10, b11⟩ := b1
  obtain ⟨b20, b21⟩ := b2
  obtain ⟨b30, b31⟩ := b3
  go_enter Try.func123, Try.ntmps123
  go_wp2
  go_quiet (fail)
  go_wp2
  go_ret
  exact ⟨rfl, Ext.out⟩
end Go.Proofs.Ytobddmpiljknpaa
