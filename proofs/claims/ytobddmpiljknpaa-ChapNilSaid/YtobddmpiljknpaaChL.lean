/-
  law13.known: chapter 13's example. No condition.
-/
import Derived.Test.YtobddmpiljknpaaChK
namespace Go.Proofs.Ytobddmpiljknpaa
open Go.RowKit
set_option linter.unusedVariables false
set_option linter.unusedSimpArgs false

theorem conv13 {w : World} {A : Option Addr} {n c : Nat} {xs : List Int} {s : ByteArray} (hn : xs.length = n) (hx : Cells w A (nums .u8 xs)) (hs : strOfNums xs = s) : (convert 22 9 (.slice A n c)).run Try.prog w = .ok (.string s) w := by
  rw [← hs]
  exact conv_cells (P := Try.prog) (c := c) 22 5 9 Try.underlying22 Try.underlying5 Try.underlying9 hn hx
theorem Cells.move {w w' : World} {A : Option Addr} {cs : List Value} (h : Cells w A cs) (hk : ∀ ad, A = some ad → w'.heap[ad.block]? = w.heap[ad.block]?) : Cells w' A cs :=
  h.keep fun p _ ad hv e hp => (World.cell?_of_block (by rw [hp]; exact hk ad e)).trans hv
theorem abc_cells (w : World) (o : Obj) (ho : o = .cells #[.int .u8 97, .int .u8 98, .int .u8 99] 5 (3, 4)) : Cells (w.alloc o) (some ⟨w.heap.size, 0, none⟩) (nums .u8 [97, 98, 99]) :=
  fun _ => ⟨_, rfl, fun j u hu => by rw [add_plain, ho, World.cell?_alloc_mark]; simpa [nums] using hu⟩
set_option maxRecDepth 100000 in
set_option maxHeartbeats 8000000 in
theorem known13_any (w : World) : Calls Try.prog 24 #[] w fun e w' => e = .returned (.bool true) ∧ Below w.heap.size w w' := by
  have kc := Lib.run_convert_bytes_const (P := Try.prog) w 22 5 #[.int .u8 97, .int .u8 98, .int .u8 99] 3 3 Try.underlying22 Try.underlying5
  go_enter Try.func24, Try.ntmps24
  go_wp2_with fail
  refine (make_any 1 7 (some ⟨w.heap.size, 0, none⟩) 3 3 [97, 98, 99] bMill rfl (by decide) (by decide) _ (abc_cells w _ rfl)).mono ?_
  rintro e w1 ⟨A1, c1, rfl, ho1, hb1⟩
  rw [mk_mill] at ho1 ⊢
  simp only at ho1 ⊢
  have S1 : Step w1 _ := ⟨hb1⟩
  have HO1 := Lib.hid ho1
  have HX1 : Hid (Ext w w1) := (inferInstance : Ext w w1)
  clear hb1 ho1 kc
  have p1 : ∀ o, (w1.alloc o).heap[w1.heap.size]? = some o := at_new w1
  go_wp2_with
    (refine wpList_store_row_o rfl 24 (.tmp 1) (.tmp 15) rfl w1.heap.size #[.int .i64 1, .int .i64 7, .slice A1 8 c1] rfl rfl 24 #[.int .i64 0, .int .i64 0, .slice none 0 0] (p1 _) (by kernel_rfl) rfl (by simp [Value.oneCell']) ?_
     intro w2 hr2 ho2 hz2 hb2
     have HR2 := Lib.hid hr2
     have H12 : Hid (Ext w1 w2) := ⟨hb2 _ _ (inferInstance : Ext w1 (w1.alloc _)).out (Nat.le_refl _)⟩
     clear hr2 ho2 hz2 hb2 p1)
  have X2 : Hid (Ext w w2) := Ext.trans_ HX1.out H12.out
  refine (newJ_any ⟨w2.heap.size, 0, none⟩ 1 _ (cells_box w2 _ rfl (secs [⟨bAlice, bMill, bX, none, 0, 0, []⟩]) _)).mono ?_
  rintro e w3 ⟨J, LA, lc, A', k', rfl, hJs, hJ, hLC, hLA, hb3⟩
  have hJ2 : w2.heap.size < J := by simp at hJs; omega
  have X23 : Hid (Ext w2 w3) := Ext.trans_ (inferInstance : Ext w2 (w2.alloc _)) ⟨hb3⟩
  have HJ := Lib.hid hJ
  have HJ2 := Lib.hid hJ2
  have HLC := Lib.hid hLC
  have HLA := Lib.hid hLA
  have HJL : Hid (J < w3.heap.size) := at_lt (show w3.heap[J]? = some _ from hJ)
  have HP3 : Hid (w3.heap[w1.heap.size]? = some (.cells #[.int .i64 1, .int .i64 7, .slice A1 8 c1] 24 (0, 0))) := at_ext (h := X23.out) HR2.out
  have HC3 : Hid (Cells w3 A1 (nums .u8 chX)) := (own_cells HO1.out).ext (h := H12.out) |>.ext (h := X23.out)
  have HA1 : Hid (∀ ad, A1 = some ad → ad.block < w1.heap.size) := fun ad h => by subst h; exact own_lt HO1.out _ rfl
  clear hJs hJ hJ2 hLC hLA hb3
  have kc := Lib.run_convert_bytes_const (P := Try.prog) w3 22 5 #[.int .u8 97, .int .u8 98, .int .u8 99] 3 3 Try.underlying22 Try.underlying5
  go_wp2_with fail
  refine (ask_any J bMill (by decide) LA 1 lc 7 (some ⟨w3.heap.size, 0, none⟩) 3 3 [97, 98, 99] rfl (by decide) 1 7 chX mk_mill (by decide) _ (at_ext (w := w3) HJ.out) (abc_cells w3 _ rfl)).mono ?_
  rintro e w4 ⟨A4, k4, PA, pk, rfl, hc4, hj4, hp4, hb4⟩
  have HC4 := Lib.hid hc4
  have HJ4 := Lib.hid hj4
  have HP4 := Lib.hid hp4
  have HB4 := Lib.hid hb4
  have hs3 := HX1.out.out.size
  have hs2 := H12.out.out.size
  have hs4 := X23.out.out.size
  have hJ2 := HJ2.out
  have HP4' : Hid (w4.heap[w1.heap.size]? = some (.cells #[.int .i64 1, .int .i64 7, .slice A1 8 c1] 24 (0, 0))) := hb4.at (by omega) (at_ext (w := w3) HP3.out)
  have HC14 : Hid (Cells w4 A1 (nums .u8 chX)) := HC3.out.move fun ad ha => by
    have h2 := HA1.out ad ha
    exact (hb4.block ad.block (by simp; omega) (by omega)).trans (Below.heap_alloc _ _ _ (by omega))
  have HLC4 : Hid (Cells w4 LA (secs [⟨bAlice, bMill, bX, A', 0, k', []⟩])) := HLC.out.move fun ad ha => by
    have h2 := HLA.out ad ha
    exact (hb4.block ad.block (by simp; omega) (by omega)).trans (Below.heap_alloc _ _ _ (by omega))
  clear hc4 hj4 hp4 hb4 hs3 hs2 hs4 hJ2 kc
  have X4 : Hid (Ext w w4) := HB4.out.ext (w := w) (Ext.trans_ X2.out (Ext.trans_ X23.out (inferInstance : Ext w3 (w3.alloc _)))) (by have := X2.out.out.size; have := HJ2.out; omega)
  have p1 : ∀ o, (w4.alloc o).heap[w4.heap.size]? = some o := at_new w4
  go_wp2_with
    (refine wpList_store_row_o rfl 24 (.tmp 5) (.tmp 38) rfl w4.heap.size #[.int .i64 1, .int .i64 7, .slice A4 8 k4] rfl rfl 24 #[.int .i64 0, .int .i64 0, .slice none 0 0] (p1 _) (by kernel_rfl) rfl (by simp [Value.oneCell']) ?_
     intro w5 hr5 ho5 hz5 hb5
     have HR5 := Lib.hid hr5
     have X45 : Hid (Ext w4 w5) := ⟨hb5 _ _ (inferInstance : Ext w4 (w4.alloc _)).out (Nat.le_refl _)⟩
     have j0 : w5.cell? ⟨w4.heap.size, 0, none⟩ = some (.int .i64 1) := at_cell HR5.out 0
     have j1 : w5.cell? ⟨w4.heap.size, 1, none⟩ = some (.int .i64 7) := at_cell HR5.out 1
     have j2 : w5.cell? ⟨w4.heap.size, 2, none⟩ = some (.slice A4 8 k4) := at_cell HR5.out 2
     clear hr5 ho5 hz5 hb5 p1)
  have HC5 : Hid (Cells w5 A4 (nums .u8 chX)) := HC4.out.ext (h := X45.out)
  have HAL := Lib.hid (an_mill none 0 0)
  refine (canswer_any 1 7 A4 8 k4 chX bAlice ⟨#[]⟩ (some ⟨w5.heap.size, 0, none⟩) 1 1 [⟨bAlice, bStar, bX, none, 0, 0, []⟩] rfl (by decide) (by unfold Byt; decide) (by decide) rfl (by decide) _ (HC5.out.alloc _) ⟨cells_box w5 _ rfl (secs [⟨bAlice, bStar, bX, none, 0, 0, []⟩]) _, fun u hu => by
    simp only [List.mem_singleton] at hu
    subst hu
    exact ⟨by decide, by decide, by decide, rfl, Nat.zero_le _, Nat.le_refl _, Cells.nil_ _ _⟩⟩).mono ?_
  rintro e w6 ⟨A6, c6, rfl, ho6, hb6⟩
  rw [HAL.out] at ho6 ⊢
  simp only [rsX_len] at ho6 ⊢
  have X56 : Hid (Ext w5 w6) := Ext.trans_ (inferInstance : Ext w5 (w5.alloc _)) ⟨hb6⟩
  have HO6 := Lib.hid ho6
  clear ho6 hb6 j0 j1 j2
  have p1 : ∀ o, (w6.alloc o).heap[w6.heap.size]? = some o := at_new w6
  go_wp2_with
    (refine wpList_store_row_o rfl 24 (.tmp 7) (.tmp 45) rfl w6.heap.size #[.int .i64 2, .int .i64 7, .slice A6 22 c6] rfl rfl 24 #[.int .i64 0, .int .i64 0, .slice none 0 0] (p1 _) (by kernel_rfl) rfl (by simp [Value.oneCell']) ?_
     intro w7 hr7 ho7 hz7 hb7
     have HR7 := Lib.hid hr7
     have X67 : Hid (Ext w6 w7) := ⟨hb7 _ _ (inferInstance : Ext w6 (w6.alloc _)).out (Nat.le_refl _)⟩
     have j0 : w7.cell? ⟨w6.heap.size, 0, none⟩ = some (.int .i64 2) := at_cell HR7.out 0
     have j1 : w7.cell? ⟨w6.heap.size, 1, none⟩ = some (.int .i64 7) := at_cell HR7.out 1
     have j2 : w7.cell? ⟨w6.heap.size, 2, none⟩ = some (.slice A6 22 c6) := at_cell HR7.out 2
     clear hr7 ho7 hz7 hb7 p1)
  have X47 : Hid (Ext w4 w7) := Ext.trans_ X45.out (Ext.trans_ X56.out X67.out)
  have HC7 : Hid (Cells w7 A6 (nums .u8 rsX)) := (own_cells HO6.out).ext (h := X67.out)
  have HL7 : Hid (SecsAt w7 LA [⟨bAlice, bMill, bX, A', 0, k', []⟩]) := ⟨HLC4.out.ext (h := X47.out), fun u hu => by
    simp only [List.mem_singleton] at hu
    subst hu
    exact ⟨show bAlice.size ≤ _ by decide, show bMill.size ≤ _ by decide, show bX.size ≤ _ by decide, rfl, Nat.zero_le _, Nat.zero_le _, fun h => absurd h (Nat.lt_irrefl _)⟩⟩
  have HHO := Lib.hid (ho_alice A' 0 k')
  have HJ7 : Hid (JudgeAt w7 J bMill LA 1 lc 1 ⟨#[]⟩ 1 1 7 PA 8 pk) := at_ext (h := X47.out) HJ4.out
  have HJL7 : Hid (J < w4.heap.size) := at_lt (show w4.heap[J]? = some _ from HJ4.out)
  rw [show (22 : Nat) = rsX.length from rsX_len.symm]
  refine (jtake_any J bMill LA 1 lc [⟨bAlice, bMill, bX, A', 0, k', []⟩] 1 7 PA pk chX 7 (by decide) (by decide) A6 c6 rsX bAlice rfl (by decide) (by unfold Byt; decide) (by decide) rsX_byt (by rw [rsX_len]; decide) rfl (by rw [pts_rs]) HHO.out _ HJ7.out HL7.out (HP4.out.ext (h := X47.out)) HC7.out).mono ?_
  rintro e w8 ⟨⟨A8, k8, rfl, hb8⟩, PA', pn', pk', hj8⟩
  have hw4 := X4.out.out.size
  have hw2 := X2.out.out.size
  have hw7 := X47.out.out.size
  have hJL := HJL7.out
  have hJ2 := HJ2.out
  have hs2 := H12.out.out.size
  have hP1 := at_lt HR2.out
  have HJ8 := Lib.hid hj8
  have X8 : Hid (Ext w w8) := hb8.ext (w := w) (Ext.trans_ X4.out X47.out) (by omega)
  have HP8 : Hid (w8.heap[w1.heap.size]? = some (.cells #[.int .i64 1, .int .i64 7, .slice A1 8 c1] 24 (0, 0))) := hb8.at (by omega) (at_ext (h := X47.out) HP4'.out)
  have HC8 : Hid (Cells w8 A1 (nums .u8 chX)) := HC14.out.move fun ad ha => by
    have h2 := HA1.out ad ha
    have h3 : ad.block < w4.heap.size := by omega
    exact (hb8.block ad.block (by omega) (by omega)).trans (X47.out.out.block _ h3)
  clear hb8 hj8 hw4 hw2 hw7 hJL hJ2 hs2 hP1 j0 j1 j2
  have p1 : ∀ o, (w8.alloc o).heap[w8.heap.size]? = some o := at_new w8
  go_upto_region 8 with
    (refine wpList_store_row_o rfl 24 (.tmp 9) (.tmp 51) rfl w8.heap.size #[.int .i64 3, .int .i64 7, .slice A8 7 k8] rfl rfl 24 #[.int .i64 0, .int .i64 0, .slice none 0 0] (p1 _) (by kernel_rfl) rfl (by simp [Value.oneCell']) ?_
     intro w9 hr9 ho9 hz9 hb9
     have HR9 := Lib.hid hr9
     have X89 : Hid (Ext w8 w9) := ⟨hb9 _ _ (inferInstance : Ext w8 (w8.alloc _)).out (Nat.le_refl _)⟩
     clear hr9 ho9 hz9 hb9 p1)
  have k2 : w9.cell? ⟨w1.heap.size, 2, none⟩ = some (.slice A1 8 c1) := at_cell (at_ext (h := X89.out) HP8.out) 2
  have j0 : w9.cell? ⟨w8.heap.size, 0, none⟩ = some (.int .i64 3) := at_cell HR9.out 0
  have hcv1 := conv13 (n := 8) (c := c1) (s := ⟨#[3, 97, 98, 99, 109, 105, 108, 108]⟩) rfl (HC8.out.ext (h := X89.out)) (by rfl)
  have HJ9 : Hid (JudgeAt w9 J bMill LA 1 lc 2 bAlice 1 1 7 PA' pn' pk') := at_ext (h := X89.out) HJ8.out
  go_wp2_with fail
  refine (jwho_any J bMill LA 1 lc 2 bAlice 1 1 7 PA' pn' pk' _ HJ9.out).mono ?_
  rintro e w10 ⟨rfl, rfl⟩
  go_wp2_with fail
  refine (jstate_any J bMill LA 1 lc 2 bAlice 1 1 7 PA' pn' pk' _ HJ9.out).mono ?_
  rintro e w10 ⟨rfl, rfl⟩
  go_wp2_with fail
  go_ret
  exact ⟨rfl, (Ext.trans_ X8.out X89.out).out⟩
end Go.Proofs.Ytobddmpiljknpaa
