/-
  eap: Peer.Take whole; ref12.Same. Conditions: sizes.
-/
import Derived.Test.YtobddmpiljknpaaEcD
import Derived.Test.YtobddmpiljknpaaEcE
namespace Go.Proofs.Ytobddmpiljknpaa
open Go.RowKit
set_option linter.unusedVariables false
set_option linter.unusedSimpArgs false

theorem ptake4_any (B T : Nat) (nm : ByteArray) (st : Int) (nt : ByteArray) (us : List SV) (code id : Int) (A : Option Addr) (n c : Nat) (xs : List Int) (hn : xs.length = n) (hn' : n ≤ 140737488355000) (hnc : n ≤ c) (hb : Byt xs) (w : World) (hx : Cells w A (nums .u8 xs)) (hE : EPeer w B T nm st nt us) :
    Calls Try.prog 55 #[.pointer (some ⟨B, 0, none⟩), .agg #[.int .i64 code, .int .i64 id, .slice A n c]] w (PtTells B T nm us (peerR nm us st nt code id xs) w) := by
  obtain ⟨⟨⟨mc, mi, mt, mv, ms⟩, me⟩, hrd⟩ : ∃ F, rdE code id xs = F := ⟨_, rfl⟩
  by_cases z0 : me = 0
  case neg => exact ptake_b1 B T nm st nt us code id A n c xs hn hn' hnc hb w hx hE mc mi mt mv ms me hrd z0
  subst z0
  by_cases z2 : mc = 2
  · subst z2
    exact ptake_b2 B T nm st nt us code id A n c xs hn hn' hnc hb w hx hE mi mt mv ms hrd
  by_cases z3 : mc = 3
  · subst z3
    by_cases zs : st = 2
    · exact ptake_b4 B T nm st nt us code id A n c xs hn hn' hnc hb w hx hE mi mt mv ms hrd zs
    · exact ptake_b3 B T nm st nt us code id A n c xs hn hn' hnc hb w hx hE mi mt mv ms hrd zs
  by_cases z4 : mc = 4
  · subst z4
    exact ptake_b5 B T nm st nt us code id A n c xs hn hn' hnc hb w hx hE mi mt mv ms hrd
  by_cases t1 : mt = 1
  · subst t1
    exact ptake_c1 B T nm st nt us code id A n c xs hn hn' hnc hb w hx hE mc mi mv ms hrd z2 z3 z4
  by_cases t2 : mt = 2
  · subst t2
    exact ptake_c2 B T nm st nt us code id A n c xs hn hn' hnc hb w hx hE mc mi mv ms hrd z2 z3 z4
  by_cases t4 : mt = 4
  case neg => exact ptake_c3 B T nm st nt us code id A n c xs hn hn' hnc hb w hx hE mc mi mt mv ms hrd z2 z3 z4 t1 t2 t4
  subst t4
  rcases hq : findF (strB nm) ms us with _ | u
  · exact ptake_d1 B T nm st nt us code id A n c xs hn hn' hnc hb w hx hE mc mi mv ms hrd z2 z3 z4 hq
  · by_cases hu : u.d.toList = []
    · exact ptake_d2 B T nm st nt us code id A n c xs hn hn' hnc hb w hx hE mc mi mv ms hrd z2 z3 z4 u hq hu
    · exact ptake_d3 B T nm st nt us code id A n c xs hn hn' hnc hb w hx hE mc mi mv ms hrd z2 z3 z4 u hq hu
theorem conv12 {w : World} {A : Option Addr} {n c : Nat} {xs : List Int} {s : ByteArray} (hn : xs.length = n) (hx : Cells w A (nums .u8 xs)) (hs : strOfNums xs = s) : (convert 22 9 (.slice A n c)).run Try.prog w = .ok (.string s) w := by
  rw [← hs]
  exact conv_cells (P := Try.prog) (c := c) 22 5 9 Try.underlying22 Try.underlying5 Try.underlying9 hn hx
set_option maxRecDepth 100000 in
set_option maxHeartbeats 2000000 in
theorem same12_any (c1 i1 c2 i2 : Int) (A B : Option Addr) (n m c d : Nat) (xs ys : List Int) (hn : xs.length = n) (hm : ys.length = m) (hbx : Byt xs) (hby : Byt ys) (w : World) (hx : Cells w A (nums .u8 xs)) (hy : Cells w B (nums .u8 ys)) :
    Calls Try.prog 36 #[.agg #[.int .i64 c1, .int .i64 i1, .slice A n c], .agg #[.int .i64 c2, .int .i64 i2, .slice B m d]] w fun e w' => e = .returned (.bool (pkSame c1 i1 xs c2 i2 ys)) ∧ Below w.heap.size w w' := by
  by_cases h1 : c1 = c2
  · by_cases h2 : i1 = i2
    · obtain ⟨s1, hs1⟩ : ∃ s, strOfNums xs = s := ⟨_, rfl⟩
      obtain ⟨s2, hs2⟩ : ∃ s, strOfNums ys = s := ⟨_, rfl⟩
      have HE : Hid (pkSame c1 i1 xs c2 i2 ys = (s1.toList == s2.toList)) := by unfold Hid pkSame; rw [← hs1, ← hs2, str_eq hbx hby]; simp [h1, h2]
      subst h1 h2
      have hcv1 : ∀ W, Ext w W → (convert 22 9 (.slice A n c)).run Try.prog W = .ok (.string s1) W := fun W hW => conv12 hn (hx.ext (w' := W)) hs1
      have hcv2 : ∀ W, Ext w W → (convert 22 9 (.slice B m d)).run Try.prog W = .ok (.string s2) W := fun W hW => conv12 hm (hy.ext (w' := W)) hs2
      obtain ⟨wq, hwq⟩ : ∃ wq, (w.alloc (.cells #[.int .i64 c1, .int .i64 i1, .slice A n c] 24)).alloc (.cells #[.int .i64 c1, .int .i64 i1, .slice B m d] 24) = wq := ⟨_, rfl⟩
      have Sq : Step wq w := ⟨by rw [← hwq]; exact Ext.out⟩
      have hv1 := hcv1 wq inferInstance
      have hv2 := hcv2 wq inferInstance
      have HP1 : Hid (wq.heap[w.heap.size]? = some (.cells #[.int .i64 c1, .int .i64 i1, .slice A n c] 24 (0, 0))) := by unfold Hid; rw [← hwq]; exact at_ext (at_new w _)
      have HP2 : Hid (wq.heap[w.heap.size + 1]? = some (.cells #[.int .i64 c1, .int .i64 i1, .slice B m d] 24 (0, 0))) := by unfold Hid; rw [← hwq]; exact at_new1 (by simp)
      clear hcv1 hcv2 hx hy hs1 hs2 hn hm hbx hby
      go_enter Try.func36, Try.ntmps36
      go_upto_region 1 with fail
      try rw [hwq]
      clear hwq
      have a0 : wq.cell? ⟨w.heap.size, 0, none⟩ = some (.int .i64 c1) := at_cell HP1.out 0
      have a1 : wq.cell? ⟨w.heap.size, 1, none⟩ = some (.int .i64 i1) := at_cell HP1.out 1
      have a2 : wq.cell? ⟨w.heap.size, 2, none⟩ = some (.slice A n c) := at_cell HP1.out 2
      have b0 : wq.cell? ⟨w.heap.size + 1, 0, none⟩ = some (.int .i64 c1) := at_cell HP2.out 0
      have b1 : wq.cell? ⟨w.heap.size + 1, 1, none⟩ = some (.int .i64 i1) := at_cell HP2.out 1
      have b2 : wq.cell? ⟨w.heap.size + 1, 2, none⟩ = some (.slice B m d) := at_cell HP2.out 2
      go_wp2
      go_ret
      exact ⟨by rw [HE.out]; rfl, Ext.out⟩
    · have h2' : (i1 == i2) = false := by simpa using h2
      have HE : Hid (pkSame c1 i1 xs c2 i2 ys = false) := by unfold Hid pkSame; simp [h2]
      subst h1
      clear hn hm hx hy h2
      go_enter Try.func36, Try.ntmps36
      go_wp2
      go_ret
      exact ⟨by rw [HE.out]; rfl, Ext.out⟩
  · have h1' : (c1 == c2) = false := by simpa using h1
    have HE : Hid (pkSame c1 i1 xs c2 i2 ys = false) := by unfold Hid pkSame; simp [h1]
    clear hn hm hx hy h1
    go_enter Try.func36, Try.ntmps36
    go_wp2
    go_ret
    exact ⟨by rw [HE.out]; rfl, Ext.out⟩
end Go.Proofs.Ytobddmpiljknpaa
