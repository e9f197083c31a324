/-
  octet.Hex and the reference's. Conditions: what comes in is no longer than a part of the model's memory; the table of digits is as the program lays it.
-/
import Derived.Test.YthlfdckcnpnemaaDoorDgB
import Derived.Test.YthlfdckcnpnemaaDoorOpt
import Derived.Deep.RegionWith
namespace Go.Proofs.YthlfdckcnpnemaaDoor
open Go.RowKit
set_option linter.unusedVariables false
set_option linter.unusedSimpArgs false

/-- The table of digits, as it is laid. -/
def Table (w : World) : Prop := ∀ d : Int, 0 ≤ d → d < 16 → w.cell? ⟨0, d.toNat, none⟩ = some (.int .u8 (hexD d))
set_option maxHeartbeats 1000000 in
theorem rhex1_any (A : Option Addr) (n c : Nat) (xs : List Int) (hn : xs.length = n) (hn' : n ≤ 70368744177664) (hbx : Byt xs) (w : World) (hx : Cells w A (nums .u8 xs)) :
    Calls Tryd.prog 8 #[.slice A n c] w fun e w' => e = .returned (.string (strOfNums (hexL xs))) ∧ Below w.heap.size w w' := by
  have Hn := Lib.hid hn
  have HBX := Lib.hid hbx
  have HX := Lib.hid hx
  clear hn hbx hx
  go_enter Tryd.func8, Tryd.ntmps8
  go_wp2
  go_loopw [3, 4] (fun v i wr => ∃ (k : Nat) (L : Option Addr) (cl : Nat), i = .int .i64 k ∧ k ≤ n ∧ v = .slice L (2 * k) cl ∧ Hid (wr.ownsRow w.heap.size 5 1 (.slice L (2 * k) cl) (2 * k) (nums .u8 (hexL (xs.take k)))) ∧ Hid (Ext w wr)) (fun _ i _ => n - (intOf i).toNat)
  case atStart => exact ⟨0, none, 0, rfl, by omega, rfl, own_nil _ _ _ _, (inferInstance : Ext w w)⟩
  case round =>
    obtain ⟨k, L, cl, rfl, hk, rfl, HO, HE⟩ := hrel
    have XE : Ext w wr := HE.out
    by_cases hlt : k < n
    · have HC : Hid (Cells wr A (nums .u8 xs)) := HX.out.ext
      obtain ⟨ad, rfl, hc⟩ := HC.out.num (by rw [Hn.out]; exact hlt)
      have HX0 := HBX.out.getD k
      have HS := Lib.hid (hexL_succ (xs := xs) (k := k) (by rw [Hn.out]; exact hlt))
      generalize hX : xs.getD k 0 = X at *
      have hx0 := HX0.1
      have hx1 := HX0.2
      have hq0 : 0 ≤ X / 16 := by omega
      have hq1 : X / 16 < 16 := by omega
      have hr0 : 0 ≤ X % 16 := by omega
      have hr1 : X % 16 < 16 := by omega
      clear hX HX0
      have hms : bits .and .u8 X 15 = X % 16 := bits_mask .u8 8 (by decide) wraps_u8 4 (by decide) X hx0 (by omega)
      have hqd : IntKind.u8.wrap (X.tdiv 16) = X / 16 := by rw [Int.tdiv_eq_ediv_of_nonneg hx0]; exact wraps_u8 _ (by omega) (by omega)
      have hrm : X.tmod 16 = X % 16 := Int.tmod_eq_emod_of_nonneg hx0
      have g1 := dig_get hq0 hq1
      have g2 := dig_get hr0 hr1
      go_wp2
      go_region_law
        (refine step_append w.heap.size rfl (.tmp 11) (.tmp 24) 22 5 (.int .u8 0) 1 1 rfl Tryd.underlying22 info_u8 rfl (by decide) (by decide) (.slice L (2 * k) cl) (2 * k) (nums .u8 (hexL (xs.take k))) _ 2 2 [.int .u8 (hexD (X / 16)), .int .u8 (hexD (X % 16))] rfl rfl rfl ?d1 ?d0 ?d2 ?d3 ?d4 ?_
         (case d1 => intro u hu; simp at hu; rcases hu with rfl | rfl <;> rfl)
         (case d0 => exact own_ext HO.out)
         (case d2 => exact cells_box _ _ (by simp) [.int .u8 (hexD (X / 16)), .int .u8 (hexD (X % 16))] _)
         (case d3 => have := XE.out.size; simp; omega)
         (case d4 => omega)
         intro v1 w1 ho1 hg1 hat1
         obtain ⟨A1, c1, rfl, hc1⟩ := own_slice ho1
         have HO1 := Lib.hid ho1
         have HB1 : Hid (Ext w w1) := ⟨below_grown (Ext.out (w := w) (w' := World.drew _)) (Ext.out (w := w) (w' := World.drew _)).size hg1 (own_base HO.out)⟩
         clear ho1 hg1 hat1)
      all_goals go_wp2
      all_goals
        refine ⟨⟨k + 1, A1, c1, by go_num, by omega, rfl, ?_, ?_⟩, by simp [intOf]; omega⟩
        · show World.ownsRow _ _ _ _ _ _ _
          rw [HS.out, nums_append]
          exact HO1.out
        · exact HB1.out
    · obtain rfl : k = n := by omega
      have HO2 := HO
      rw [List.take_of_length_le (by rw [Hn.out]; exact Nat.le_refl _)] at HO2
      have k1 : (convert 22 9 (.slice L (2 * k) cl)).run Tryd.prog wr = .ok (.string (strOfNums (hexL xs))) wr := conv4 (by rw [hexL_len, Hn.out]) (own_cells HO2.out) rfl
      go_wp2
      go_ret
      exact ⟨rfl, Ext.out⟩
set_option maxHeartbeats 1000000 in
theorem hex1_any (A : Option Addr) (n c : Nat) (xs : List Int) (hn : xs.length = n) (hn' : n ≤ 70368744177664) (hbx : Byt xs) (w : World) (hx : Cells w A (nums .u8 xs)) (ht : Table w) :
    Calls Tryd.prog 5 #[.slice A n c] w fun e w' => e = .returned (.string (strOfNums (hexL xs))) ∧ Below w.heap.size w w' := by
  have Hn := Lib.hid hn
  have HBX := Lib.hid hbx
  have HX := Lib.hid hx
  have HT := Lib.hid ht
  clear hn hbx hx ht
  go_enter Tryd.func5, Tryd.ntmps5
  go_wp2_with
    (refine wp_make (w0 := w) w.heap.size rfl (.const (.int .i64 0)) (.tmp 8) 22 5 (.int .u8 0) 1 rfl Tryd.underlying22 info_u8 rfl (by decide) .i64 .i64 0 (2 * n) (by simp [Act.eval]) (by simp [Act.eval]) (Nat.zero_le _) (by omega) (Below.refl _ _) (Nat.le_refl _) ?_
     intro w1 hk1 hb1 hg1 hz1
     have HO1 : Hid (w1.ownsRow w.heap.size 5 1 (.slice (some ⟨w.heap.size, 0, none⟩) 0 (2 * n)) 0 (nums .u8 (hexL (xs.take 0)))) := own_of_block (n := 0) (cap := 2 * n) hk1 (Nat.le_refl _) (Nat.zero_le _) (by omega) (by simp)
     have HX1 : Hid (Ext w w1) := ⟨hb1⟩
     clear hk1 hb1 hg1)
  go_loopw [3, 12] (fun v i wr => ∃ (k : Nat) (L : Option Addr) (cl : Nat), i = .int .i64 k ∧ k ≤ n ∧ v = .slice L (2 * k) cl ∧ Hid (wr.ownsRow w.heap.size 5 1 (.slice L (2 * k) cl) (2 * k) (nums .u8 (hexL (xs.take k)))) ∧ Hid (Ext w wr)) (fun _ i _ => n - (intOf i).toNat)
  case atStart => exact ⟨0, some ⟨w.heap.size, 0, none⟩, 2 * n, rfl, by omega, rfl, HO1.out, HX1.out⟩
  case round =>
    obtain ⟨k, L, cl, rfl, hk, rfl, HO, HE⟩ := hrel
    have XE : Ext w wr := HE.out
    by_cases hlt : k < n
    · have HC : Hid (Cells wr A (nums .u8 xs)) := HX.out.ext
      obtain ⟨ad, rfl, hc⟩ := HC.out.num (by rw [Hn.out]; exact hlt)
      have HX0 := HBX.out.getD k
      have HS := Lib.hid (hexL_succ (xs := xs) (k := k) (by rw [Hn.out]; exact hlt))
      generalize hX : xs.getD k 0 = X at *
      have hx0 := HX0.1
      have hx1 := HX0.2
      have hq0 : 0 ≤ X / 16 := by omega
      have hq1 : X / 16 < 16 := by omega
      have hr0 : 0 ≤ X % 16 := by omega
      have hr1 : X % 16 < 16 := by omega
      clear hX HX0
      have hms : bits .and .u8 X 15 = X % 16 := bits_mask .u8 8 (by decide) wraps_u8 4 (by decide) X hx0 (by omega)
      have t1 : wr.cell? ⟨0, (X / 16).toNat, none⟩ = some (.int .u8 (hexD (X / 16))) := cell_ext (HT.out _ hq0 hq1)
      have t2 : wr.cell? ⟨0, (X % 16).toNat, none⟩ = some (.int .u8 (hexD (X % 16))) := cell_ext (HT.out _ hr0 hr1)
      go_wp2
      go_region_law
        (refine step_append w.heap.size rfl (.tmp 16) (.tmp 25) 22 5 (.int .u8 0) 1 1 rfl Tryd.underlying22 info_u8 rfl (by decide) (by decide) (.slice L (2 * k) cl) (2 * k) (nums .u8 (hexL (xs.take k))) _ 2 2 [.int .u8 (hexD (X / 16)), .int .u8 (hexD (X % 16))] rfl rfl rfl ?d1 ?d0 ?d2 ?d3 ?d4 ?_
         (case d1 => intro u hu; simp at hu; rcases hu with rfl | rfl <;> rfl)
         (case d0 => exact own_ext HO.out)
         (case d2 => exact cells_box _ _ (by simp) [.int .u8 (hexD (X / 16)), .int .u8 (hexD (X % 16))] _)
         (case d3 => have := XE.out.size; simp; omega)
         (case d4 => omega)
         intro v1 w1 ho1 hg1 hat1
         obtain ⟨A1, c1, rfl, hc1⟩ := own_slice ho1
         have HO1 := Lib.hid ho1
         have HB1 : Hid (Ext w w1) := ⟨below_grown (Ext.out (w := w) (w' := World.drew _)) (Ext.out (w := w) (w' := World.drew _)).size hg1 (own_base HO.out)⟩
         clear ho1 hg1 hat1)
      all_goals go_wp2
      all_goals
        refine ⟨⟨k + 1, A1, c1, by go_num, by omega, rfl, ?_, ?_⟩, by simp [intOf]; omega⟩
        · show World.ownsRow _ _ _ _ _ _ _
          rw [HS.out, nums_append]
          exact HO1.out
        · exact HB1.out
    · obtain rfl : k = n := by omega
      have HO2 := HO
      rw [List.take_of_length_le (by rw [Hn.out]; exact Nat.le_refl _)] at HO2
      have k1 : (convert 22 9 (.slice L (2 * k) cl)).run Tryd.prog wr = .ok (.string (strOfNums (hexL xs))) wr := conv4 (by rw [hexL_len, Hn.out]) (own_cells HO2.out) rfl
      go_wp2
      go_ret
      exact ⟨rfl, Ext.out⟩
end Go.Proofs.YthlfdckcnpnemaaDoor
