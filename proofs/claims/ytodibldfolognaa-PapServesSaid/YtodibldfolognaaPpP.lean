/-
  ref12.Same; a peer that is not there. No condition beyond sizes.
-/
import Derived.Test.YtodibldfolognaaPpO
import Derived.Test.YtodibldfolognaaSeat
import Derived.Test.YtodibldfolognaaArgs
namespace Go.Proofs.Ytodibldfolognaa
open Go.RowKit
set_option linter.unusedVariables false
set_option linter.unusedSimpArgs false

set_option maxRecDepth 100000 in
set_option maxHeartbeats 2000000 in
theorem same12_any (c1 i1 c2 i2 : Int) (A B : Option Addr) (n m c d : Nat) (xs ys : List Int) (hn : xs.length = n) (hm : ys.length = m) (hbx : Byt xs) (hby : Byt ys) (w : World) (hx : Cells w A (nums .u8 xs)) (hy : Cells w B (nums .u8 ys)) :
    Calls Try.prog 54 #[.agg #[.int .i64 c1, .int .i64 i1, .slice A n c], .agg #[.int .i64 c2, .int .i64 i2, .slice B m d]] w fun e w' => e = .returned (.bool (pkSame c1 i1 xs c2 i2 ys)) ∧ Below w.heap.size w w' := by
  by_cases h1 : c1 = c2
  · by_cases h2 : i1 = i2
    · obtain ⟨s1, hs1⟩ : ∃ s, strOfNums xs = s := ⟨_, rfl⟩
      obtain ⟨s2, hs2⟩ : ∃ s, strOfNums ys = s := ⟨_, rfl⟩
      have HE : Hid (pkSame c1 i1 xs c2 i2 ys = (s1.toList == s2.toList)) := by unfold Hid pkSame; rw [← hs1, ← hs2, str_eq hbx hby]; simp [h1, h2]
      subst h1 h2
      have hcv1 : ∀ W, Ext w W → (convert 41 9 (.slice A n c)).run Try.prog W = .ok (.string s1) W := fun W hW => conv8 hn (hx.ext (w' := W)) hs1
      have hcv2 : ∀ W, Ext w W → (convert 41 9 (.slice B m d)).run Try.prog W = .ok (.string s2) W := fun W hW => conv8 hm (hy.ext (w' := W)) hs2
      obtain ⟨wq, hwq⟩ : ∃ wq, (w.alloc (.cells #[.int .i64 c1, .int .i64 i1, .slice A n c] 43)).alloc (.cells #[.int .i64 c1, .int .i64 i1, .slice B m d] 43) = wq := ⟨_, rfl⟩
      have Sq : Step wq w := ⟨by rw [← hwq]; exact Ext.out⟩
      have hv1 := hcv1 wq inferInstance
      have hv2 := hcv2 wq inferInstance
      have HP1 : Hid (wq.heap[w.heap.size]? = some (.cells #[.int .i64 c1, .int .i64 i1, .slice A n c] 43 (0, 0))) := by unfold Hid; rw [← hwq]; exact at_ext (at_new w _)
      have HP2 : Hid (wq.heap[w.heap.size + 1]? = some (.cells #[.int .i64 c1, .int .i64 i1, .slice B m d] 43 (0, 0))) := by unfold Hid; rw [← hwq]; exact at_new1 (by simp)
      clear hcv1 hcv2 hx hy hs1 hs2 hn hm hbx hby
      go_enter Try.func54, Try.ntmps54
      go_upto_region 1 with fail
      try rw [hwq]
      clear hwq
      have a0 : wq.cell? ⟨w.heap.size, 0, none⟩ = some (.int .i64 c1) := at_cell HP1.out 0
      have a1 : wq.cell? ⟨w.heap.size, 1, none⟩ = some (.int .i64 i1) := at_cell HP1.out 1
      have a2 : wq.cell? ⟨w.heap.size, 2, none⟩ = some (.slice A n c) := at_cell HP1.out 2
      have b0 : wq.cell? ⟨w.heap.size + 1, 0, none⟩ = some (.int .i64 c1) := at_cell HP2.out 0
      have b1 : wq.cell? ⟨w.heap.size + 1, 1, none⟩ = some (.int .i64 i1) := at_cell HP2.out 1
      have b2 : wq.cell? ⟨w.heap.size + 1, 2, none⟩ = some (.slice B m d) := at_cell HP2.out 2
      go_wp2
      go_ret
      exact ⟨by rw [HE.out]; rfl, Ext.out⟩
    · have h2' : (i1 == i2) = false := by simpa using h2
      have HE : Hid (pkSame c1 i1 xs c2 i2 ys = false) := by unfold Hid pkSame; simp [h2]
      subst h1
      clear hn hm hx hy h2
      go_enter Try.func54, Try.ntmps54
      go_wp2
      go_ret
      exact ⟨by rw [HE.out]; rfl, Ext.out⟩
  · have h1' : (c1 == c2) = false := by simpa using h1
    have HE : Hid (pkSame c1 i1 xs c2 i2 ys = false) := by unfold Hid pkSame; simp [h1]
    clear hn hm hx hy h1
    go_enter Try.func54, Try.ntmps54
    go_wp2
    go_ret
    exact ⟨by rw [HE.out]; rfl, Ext.out⟩
theorem psend_nil (w : World) : Calls Try.prog 68 #[.pointer none] w fun e w' => e = .returned (.tuple #[.agg #[.int .i64 0, .int .i64 0, .slice none 0 0], .bool false, .int .i64 2]) ∧ Below w.heap.size w w' := by
  go_enter Try.func68, Try.ntmps68
  go_wp2
  refine bodyPost_ret (results_cell_row3 Try.results68 _ _ w.heap.size 43 #[.int .i64 0, .int .i64 0, .slice none 0 0] (0, 0) _ (.bool false) (.int .i64 2) rfl rfl rfl (at_new w zPk) Try.underlying43 rfl (by kernel_rfl)) rfl ?_
  exact ⟨rfl, Ext.out⟩
theorem ptake_nil (code id : Int) (A : Option Addr) (n c : Nat) (w : World) : Calls Try.prog 69 #[.pointer none, .agg #[.int .i64 code, .int .i64 id, .slice A n c]] w fun e w' => e = .returned (.tuple #[.bool false, .int .i64 2]) ∧ Below w.heap.size w w' := by
  go_enter Try.func69, Try.ntmps69
  go_wp2
  go_ret2
  exact ⟨rfl, Ext.out⟩
theorem pstate_nil (w : World) : Calls Try.prog 70 #[.pointer none] w fun e w' => e = .returned (.int .i64 0) ∧ w = w' := by
  go_enter Try.func70, Try.ntmps70
  go_wp2
  go_ret
  exact ⟨rfl, rfl⟩
theorem pmessage_nil (w : World) : Calls Try.prog 76 #[.pointer none] w fun e w' => e = .returned (.string ⟨#[]⟩) ∧ w = w' := by
  go_enter Try.func76, Try.ntmps76
  go_wp2
  go_ret
  exact ⟨rfl, rfl⟩
theorem preset_nil (w : World) : Calls Try.prog 74 #[.pointer none] w fun e w' => e = .returned (.tuple #[]) ∧ w = w' := by
  go_enter Try.func74, Try.ntmps74
  go_wp2
  go_end0
  exact ⟨rfl, rfl⟩
end Go.Proofs.Ytodibldfolognaa
