/-
  eap: Peer.Take: what is answered without a proof. Conditions: sizes.
-/
import Derived.Test.YtobddmpiljknpaaEcB
namespace Go.Proofs.Ytobddmpiljknpaa
open Go.RowKit
set_option linter.unusedVariables false
set_option linter.unusedSimpArgs false

set_option maxRecDepth 100000 in
set_option maxHeartbeats 4000000 in
theorem ptake_c2 (B T : Nat) (nm : ByteArray) (st : Int) (nt : ByteArray) (us : List SV) (code id : Int) (A : Option Addr) (n c : Nat) (xs : List Int) (hn : xs.length = n) (hn' : n ≤ 140737488355000) (hnc : n ≤ c) (hb : Byt xs) (w : World) (hx : Cells w A (nums .u8 xs)) (hE : EPeer w B T nm st nt us) (mc mi : Int) (mv ms : List Int) (hrd : rdE code id xs = (⟨mc, mi, 2, mv, ms⟩, 0)) (z2 : mc ≠ 2) (z3 : mc ≠ 3) (z4 : mc ≠ 4) :
    Calls Try.prog 55 #[.pointer (some ⟨B, 0, none⟩), .agg #[.int .i64 code, .int .i64 id, .slice A n c]] w (PtTells B T nm us (peerR nm us st nt code id xs) w) := by
  have Hn := Lib.hid hn
  have HX := Lib.hid hx
  have HB := Lib.hid hb
  have HE := Lib.hid hE
  have HBL : Hid (B < w.heap.size) := at_lt hE.b
  have HRD := Lib.hid hrd
  have HRA := Lib.hid (rdE_all hb hrd)
  have HF0 : Hid (peerR nm us st nt code id xs = if 0 ≠ 0 then noR st nt 0 else peerM nm us st nt ⟨mc, mi, 2, mv, ms⟩) := by unfold Hid peerR; rw [hrd]; try rfl
  clear hE hn hx hb hrd
  go_enter Try.func55, Try.ntmps55
  go_upto_region 1 with fail
  obtain ⟨wb, hwb⟩ : ∃ wb, (w.alloc (.cells #[.int .i64 code, .int .i64 id, .slice A n c] 24)).alloc zPk = wb := ⟨_, rfl⟩
  have HP : Hid (wb.heap[w.heap.size]? = some (.cells #[.int .i64 code, .int .i64 id, .slice A n c] 24 (0, 0))) := by unfold Hid; rw [← hwb]; exact at_ext (at_new w _)
  have HZ : Hid (wb.heap[w.heap.size + 1]? = some zPk) := by unfold Hid; rw [← hwb]; exact at_new1 (by simp)
  have HW : Hid (Ext w wb) := by unfold Hid; rw [← hwb]; exact inferInstance
  rw [hwb]
  clear hwb
  have p0 : wb.cell? ⟨w.heap.size, 0, none⟩ = some (.int .i64 code) := at_cell HP.out 0
  have p1 : wb.cell? ⟨w.heap.size, 1, none⟩ = some (.int .i64 id) := at_cell HP.out 1
  have p2 : wb.cell? ⟨w.heap.size, 2, none⟩ = some (.slice A n c) := at_cell HP.out 2
  go_wp2_with fail
  refine (eread_any code id A n c xs Hn.out hn' hnc HB.out _ (HX.out.ext (h := HW.out))).mono ?_
  rintro e w1 ⟨A1, k1, rfl, ho1, hb1⟩
  rw [HRD.out] at ho1 ⊢
  simp only at ho1 ⊢
  obtain ⟨tb, htb⟩ : ∃ tb, strOfNums ms = tb := ⟨_, rfl⟩
  have HTB := Lib.hid htb
  rw [htb]
  have X1 : Hid (Ext wb w1) := ⟨hb1⟩
  have HO1 := Lib.hid ho1
  have pp : ∀ o, (w1.alloc o).heap[w1.heap.size]? = some o := at_new w1
  clear ho1 hb1 p0 p1 p2 htb
  go_upto_region 4 with
    (refine wpList_store_row_o rfl 52 (.tmp 7) (.tmp 19) rfl w1.heap.size #[.int .i64 mc, .int .i64 mi, .int .i64 2, .slice A1 mv.length k1, .string tb] rfl rfl 52 zMs (pp _) (by kernel_rfl) rfl (by simp [Value.oneCell']) ?_
     intro w2 hr2 ho2 hz2 hb2
     have HM2 := Lib.hid hr2
     have X12 : Hid (Ext w1 w2) := ⟨hb2 _ _ (inferInstance : Ext w1 (w1.alloc _)).out (Nat.le_refl _)⟩
     clear hr2 ho2 hz2 hb2 pp)
  have X2 : Hid (Ext w w2) := Ext.trans_ HW.out (Ext.trans_ X1.out X12.out)
  have HZ2 : Hid (w2.heap[w.heap.size + 1]? = some zPk) := at_ext (h := Ext.trans_ X1.out X12.out) HZ.out
  have HE2 := Lib.hid (HE.out.ext (h := X2.out))
  have HO2 := Lib.hid (own_ext (h := X12.out) HO1.out)
  have m0 : w2.cell? ⟨w1.heap.size, 0, none⟩ = some (.int .i64 mc) := at_cell HM2.out 0
  have m1 : w2.cell? ⟨w1.heap.size, 1, none⟩ = some (.int .i64 mi) := at_cell HM2.out 1
  have m2 : w2.cell? ⟨w1.heap.size, 2, none⟩ = some (.int .i64 2) := at_cell HM2.out 2
  have m4 : w2.cell? ⟨w1.heap.size, 4, none⟩ = some (.string tb) := at_cell HM2.out 4
  have s2 : w2.cell? ⟨B, 2, none⟩ = some (.int .i64 st) := at_cell HE2.out.b 2
  have g2 : w2.frozen? ⟨B, 2, none⟩ = false := at_frozen HE2.out.b 2
  have HF1 : Hid (peerR nm us st nt code id xs = peerM nm us st nt ⟨mc, mi, 2, mv, ms⟩) := HF0.out.trans (if_neg (by simp))
  have b2 : (mc == 2) = false := by simpa using z2
  have b3 : (mc == 3) = false := by simpa using z3
  have b4 : (mc == 4) = false := by simpa using z4
  have HF : Hid (peerR nm us st nt code id xs = sayR st tb mi 2 [] []) := HF1.out.trans (by unfold peerM; rw [if_neg z2, if_neg (fun h => z3 h.1), if_neg z3, if_neg z4, if_neg (by simp), if_pos rfl, ← HTB.out])
  clear z2 z3 z4 HF0 HF1
  have n3 : w2.cell? ⟨B, 3, none⟩ = some (.string nt) := at_cell HE2.out.b 3
  have h3 : w2.frozen? ⟨B, 3, none⟩ = false := at_frozen HE2.out.b 3
  go_upto_region 22 with fail
  obtain ⟨w3, hw3⟩ : ∃ w3, w2.setCell ⟨B, 3, none⟩ (.string tb) = w3 := ⟨_, rfl⟩
  have HE3 : Hid (EPeer w3 B T nm st tb us) := by unfold Hid; rw [← hw3]; exact HE2.out.setN tb
  have HZ3 : Hid (w3.heap[w.heap.size + 1]? = some zPk) := by unfold Hid; rw [← hw3]; exact at_other (p := ⟨B, 3, none⟩) _ HZ2.out (by have := HBL.out; show w.heap.size + 1 ≠ B; omega)
  have HM3 : Hid (w3.heap[w1.heap.size]? = some (.cells #[.int .i64 mc, .int .i64 mi, .int .i64 2, .slice A1 mv.length k1, .string tb] 52 (0, 0))) := by unfold Hid; rw [← hw3]; exact at_other (p := ⟨B, 3, none⟩) _ HM2.out (by have h1 := HBL.out; have h2 := HW.out.out.size; have h3 := X1.out.out.size; show w1.heap.size ≠ B; omega)
  have HB3 : Hid (But w w3 B) := by unfold Hid; rw [← hw3]; exact (But.of (h := X2.out)).set 3 _
  rw [hw3]
  clear hw3 s2 g2 m0 m1 m2 m4 n3 h3
  have m1 : w3.cell? ⟨w1.heap.size, 1, none⟩ = some (.int .i64 mi) := at_cell HM3.out 1
  go_wp2_with fail
  refine (say_any mi 2 none 0 0 [] noB rfl (by omega) (by decide) _ (Cells.nil_ _ _)).mono ?_
  rintro e w6 ⟨A6, k6, rfl, ho6, hb6⟩
  obtain ⟨⟨⟨ci, ii⟩, d, er⟩, hwr⟩ : ∃ F, wrE 2 mi 2 [] (strB noB) = F := ⟨_, rfl⟩
  have HR6 : Hid (sayR st tb mi 2 [] [] = ⟨st, tb, ci, ii, d, true, 0⟩) := by
    have h : wrE 2 mi 2 [] [] = ((ci, ii), d, er) := hwr
    unfold Hid sayR
    rw [h]
  rw [hwr] at ho6 ⊢
  simp only at ho6 ⊢
  have X36 : Hid (Ext w3 w6) := ⟨hb6⟩
  have HZ6 : Hid (w6.heap[w.heap.size + 1]? = some zPk) := at_ext (h := X36.out) HZ3.out
  have HO6 := Lib.hid (own_weaken ho6 HB3.out.size)
  have HE6 := Lib.hid (HE3.out.ext (h := X36.out))
  have HB6 : Hid (But w w6 B) := HB3.out.step X36.out
  have HNE : Hid ((Value.slice A6 d.length k6).ownBlock ≠ some (w.heap.size + 1)) := own_type_ne HO6.out HZ6.out (by decide)
  clear ho6 hwr
  clear hb6
  go_wp2_with
    (refine wpList_store_row rfl 24 (.tmp 4) (.tmp 88) rfl (w.heap.size + 1) #[.int .i64 ci, .int .i64 ii, .slice A6 d.length k6] rfl rfl 24 #[.int .i64 0, .int .i64 0, .slice none 0 0] HZ6.out (by kernel_rfl) rfl (by simp [Value.oneCell']) ?_)
  refine bodyPost_ret (results_cell_row3 Try.results55 _ _ (w.heap.size + 1) 24 #[.int .i64 ci, .int .i64 ii, .slice A6 d.length k6] (0, 0) _ (.bool true) (.int .i64 0) rfl rfl rfl (setRow_heap _ _ _ _ _ _ HZ6.out) Try.underlying24 rfl (by kernel_rfl)) rfl ?_
  rw [HF.out, HR6.out]
  exact ⟨A6, k6, rfl, own_setRow HO6.out HNE.out _, HE6.out.rowY (by have := HBL.out; omega) _, HB6.out.rowY (by omega) _⟩
set_option maxRecDepth 100000 in
set_option maxHeartbeats 4000000 in
theorem ptake_c3 (B T : Nat) (nm : ByteArray) (st : Int) (nt : ByteArray) (us : List SV) (code id : Int) (A : Option Addr) (n c : Nat) (xs : List Int) (hn : xs.length = n) (hn' : n ≤ 140737488355000) (hnc : n ≤ c) (hb : Byt xs) (w : World) (hx : Cells w A (nums .u8 xs)) (hE : EPeer w B T nm st nt us) (mc mi mt : Int) (mv ms : List Int) (hrd : rdE code id xs = (⟨mc, mi, mt, mv, ms⟩, 0)) (z2 : mc ≠ 2) (z3 : mc ≠ 3) (z4 : mc ≠ 4) (t1 : mt ≠ 1) (t2 : mt ≠ 2) (t4 : mt ≠ 4) :
    Calls Try.prog 55 #[.pointer (some ⟨B, 0, none⟩), .agg #[.int .i64 code, .int .i64 id, .slice A n c]] w (PtTells B T nm us (peerR nm us st nt code id xs) w) := by
  have Hn := Lib.hid hn
  have HX := Lib.hid hx
  have HB := Lib.hid hb
  have HE := Lib.hid hE
  have HBL : Hid (B < w.heap.size) := at_lt hE.b
  have HRD := Lib.hid hrd
  have HRA := Lib.hid (rdE_all hb hrd)
  have HF0 : Hid (peerR nm us st nt code id xs = if 0 ≠ 0 then noR st nt 0 else peerM nm us st nt ⟨mc, mi, mt, mv, ms⟩) := by unfold Hid peerR; rw [hrd]; try rfl
  clear hE hn hx hb hrd
  go_enter Try.func55, Try.ntmps55
  go_upto_region 1 with fail
  obtain ⟨wb, hwb⟩ : ∃ wb, (w.alloc (.cells #[.int .i64 code, .int .i64 id, .slice A n c] 24)).alloc zPk = wb := ⟨_, rfl⟩
  have HP : Hid (wb.heap[w.heap.size]? = some (.cells #[.int .i64 code, .int .i64 id, .slice A n c] 24 (0, 0))) := by unfold Hid; rw [← hwb]; exact at_ext (at_new w _)
  have HZ : Hid (wb.heap[w.heap.size + 1]? = some zPk) := by unfold Hid; rw [← hwb]; exact at_new1 (by simp)
  have HW : Hid (Ext w wb) := by unfold Hid; rw [← hwb]; exact inferInstance
  rw [hwb]
  clear hwb
  have p0 : wb.cell? ⟨w.heap.size, 0, none⟩ = some (.int .i64 code) := at_cell HP.out 0
  have p1 : wb.cell? ⟨w.heap.size, 1, none⟩ = some (.int .i64 id) := at_cell HP.out 1
  have p2 : wb.cell? ⟨w.heap.size, 2, none⟩ = some (.slice A n c) := at_cell HP.out 2
  go_wp2_with fail
  refine (eread_any code id A n c xs Hn.out hn' hnc HB.out _ (HX.out.ext (h := HW.out))).mono ?_
  rintro e w1 ⟨A1, k1, rfl, ho1, hb1⟩
  rw [HRD.out] at ho1 ⊢
  simp only at ho1 ⊢
  obtain ⟨tb, htb⟩ : ∃ tb, strOfNums ms = tb := ⟨_, rfl⟩
  have HTB := Lib.hid htb
  rw [htb]
  have X1 : Hid (Ext wb w1) := ⟨hb1⟩
  have HO1 := Lib.hid ho1
  have pp : ∀ o, (w1.alloc o).heap[w1.heap.size]? = some o := at_new w1
  clear ho1 hb1 p0 p1 p2 htb
  go_upto_region 4 with
    (refine wpList_store_row_o rfl 52 (.tmp 7) (.tmp 19) rfl w1.heap.size #[.int .i64 mc, .int .i64 mi, .int .i64 mt, .slice A1 mv.length k1, .string tb] rfl rfl 52 zMs (pp _) (by kernel_rfl) rfl (by simp [Value.oneCell']) ?_
     intro w2 hr2 ho2 hz2 hb2
     have HM2 := Lib.hid hr2
     have X12 : Hid (Ext w1 w2) := ⟨hb2 _ _ (inferInstance : Ext w1 (w1.alloc _)).out (Nat.le_refl _)⟩
     clear hr2 ho2 hz2 hb2 pp)
  have X2 : Hid (Ext w w2) := Ext.trans_ HW.out (Ext.trans_ X1.out X12.out)
  have HZ2 : Hid (w2.heap[w.heap.size + 1]? = some zPk) := at_ext (h := Ext.trans_ X1.out X12.out) HZ.out
  have HE2 := Lib.hid (HE.out.ext (h := X2.out))
  have HO2 := Lib.hid (own_ext (h := X12.out) HO1.out)
  have m0 : w2.cell? ⟨w1.heap.size, 0, none⟩ = some (.int .i64 mc) := at_cell HM2.out 0
  have m1 : w2.cell? ⟨w1.heap.size, 1, none⟩ = some (.int .i64 mi) := at_cell HM2.out 1
  have m2 : w2.cell? ⟨w1.heap.size, 2, none⟩ = some (.int .i64 mt) := at_cell HM2.out 2
  have m4 : w2.cell? ⟨w1.heap.size, 4, none⟩ = some (.string tb) := at_cell HM2.out 4
  have s2 : w2.cell? ⟨B, 2, none⟩ = some (.int .i64 st) := at_cell HE2.out.b 2
  have g2 : w2.frozen? ⟨B, 2, none⟩ = false := at_frozen HE2.out.b 2
  have HF1 : Hid (peerR nm us st nt code id xs = peerM nm us st nt ⟨mc, mi, mt, mv, ms⟩) := HF0.out.trans (if_neg (by simp))
  have b2 : (mc == 2) = false := by simpa using z2
  have b3 : (mc == 3) = false := by simpa using z3
  have b4 : (mc == 4) = false := by simpa using z4
  have HF : Hid (peerR nm us st nt code id xs = sayR st nt mi 3 [4] []) := HF1.out.trans (by unfold peerM; rw [if_neg z2, if_neg (fun h => z3 h.1), if_neg z3, if_neg z4, if_neg t1, if_neg t2, if_neg t4])
  have t1b : (mt == 1) = false := by simpa using t1
  have t2b : (mt == 2) = false := by simpa using t2
  have t4b : (mt == 4) = false := by simpa using t4
  clear z2 z3 z4 t1 t2 t4 HF0 HF1
  have HE3 := HE2
  have HZ3 := HZ2
  have HB3 : Hid (But w w2 B) := But.of (h := X2.out)
  obtain ⟨w3, rfl⟩ : ∃ w3, w3 = w2 := ⟨w2, rfl⟩
  go_wp2_with fail
  refine (say_any mi 3 (some ⟨w3.heap.size, 0, none⟩) 1 1 [4] noB rfl (by omega) (by decide) _ (cells_box w3 _ rfl (nums .u8 [4]) _)).mono ?_
  rintro e w6 ⟨A6, k6, rfl, ho6, hb6⟩
  obtain ⟨⟨⟨ci, ii⟩, d, er⟩, hwr⟩ : ∃ F, wrE 2 mi 3 [4] (strB noB) = F := ⟨_, rfl⟩
  have HR6 : Hid (sayR st nt mi 3 [4] [] = ⟨st, nt, ci, ii, d, true, 0⟩) := by
    have h : wrE 2 mi 3 [4] [] = ((ci, ii), d, er) := hwr
    unfold Hid sayR
    rw [h]
  rw [hwr] at ho6 ⊢
  simp only at ho6 ⊢
  have X36 : Hid (Ext w3 w6) := Ext.trans_ (inferInstance : Ext w3 (w3.alloc _)) ⟨hb6⟩
  have HZ6 : Hid (w6.heap[w.heap.size + 1]? = some zPk) := at_ext (h := X36.out) HZ3.out
  have HO6 := Lib.hid (own_weaken ho6 (Nat.le_trans HB3.out.size (by simp)))
  have HE6 := Lib.hid (HE3.out.ext (h := X36.out))
  have HB6 : Hid (But w w6 B) := HB3.out.step X36.out
  have HNE : Hid ((Value.slice A6 d.length k6).ownBlock ≠ some (w.heap.size + 1)) := own_type_ne HO6.out HZ6.out (by decide)
  clear ho6 hwr
  clear hb6
  go_wp2_with
    (refine wpList_store_row rfl 24 (.tmp 4) (.tmp 148) rfl (w.heap.size + 1) #[.int .i64 ci, .int .i64 ii, .slice A6 d.length k6] rfl rfl 24 #[.int .i64 0, .int .i64 0, .slice none 0 0] HZ6.out (by kernel_rfl) rfl (by simp [Value.oneCell']) ?_)
  refine bodyPost_ret (results_cell_row3 Try.results55 _ _ (w.heap.size + 1) 24 #[.int .i64 ci, .int .i64 ii, .slice A6 d.length k6] (0, 0) _ (.bool true) (.int .i64 0) rfl rfl rfl (setRow_heap _ _ _ _ _ _ HZ6.out) Try.underlying24 rfl (by kernel_rfl)) rfl ?_
  rw [HF.out, HR6.out]
  exact ⟨A6, k6, rfl, own_setRow HO6.out HNE.out _, HE6.out.rowY (by have := HBL.out; omega) _, HB6.out.rowY (by omega) _⟩
set_option maxRecDepth 100000 in
set_option maxHeartbeats 4000000 in
theorem ptake_c1 (B T : Nat) (nm : ByteArray) (st : Int) (nt : ByteArray) (us : List SV) (code id : Int) (A : Option Addr) (n c : Nat) (xs : List Int) (hn : xs.length = n) (hn' : n ≤ 140737488355000) (hnc : n ≤ c) (hb : Byt xs) (w : World) (hx : Cells w A (nums .u8 xs)) (hE : EPeer w B T nm st nt us) (mc mi : Int) (mv ms : List Int) (hrd : rdE code id xs = (⟨mc, mi, 1, mv, ms⟩, 0)) (z2 : mc ≠ 2) (z3 : mc ≠ 3) (z4 : mc ≠ 4) :
    Calls Try.prog 55 #[.pointer (some ⟨B, 0, none⟩), .agg #[.int .i64 code, .int .i64 id, .slice A n c]] w (PtTells B T nm us (peerR nm us st nt code id xs) w) := by
  have Hn := Lib.hid hn
  have HX := Lib.hid hx
  have HB := Lib.hid hb
  have HE := Lib.hid hE
  have HBL : Hid (B < w.heap.size) := at_lt hE.b
  have HRD := Lib.hid hrd
  have HRA := Lib.hid (rdE_all hb hrd)
  have HF0 : Hid (peerR nm us st nt code id xs = if 0 ≠ 0 then noR st nt 0 else peerM nm us st nt ⟨mc, mi, 1, mv, ms⟩) := by unfold Hid peerR; rw [hrd]; try rfl
  clear hE hn hx hb hrd
  go_enter Try.func55, Try.ntmps55
  go_upto_region 1 with fail
  obtain ⟨wb, hwb⟩ : ∃ wb, (w.alloc (.cells #[.int .i64 code, .int .i64 id, .slice A n c] 24)).alloc zPk = wb := ⟨_, rfl⟩
  have HP : Hid (wb.heap[w.heap.size]? = some (.cells #[.int .i64 code, .int .i64 id, .slice A n c] 24 (0, 0))) := by unfold Hid; rw [← hwb]; exact at_ext (at_new w _)
  have HZ : Hid (wb.heap[w.heap.size + 1]? = some zPk) := by unfold Hid; rw [← hwb]; exact at_new1 (by simp)
  have HW : Hid (Ext w wb) := by unfold Hid; rw [← hwb]; exact inferInstance
  rw [hwb]
  clear hwb
  have p0 : wb.cell? ⟨w.heap.size, 0, none⟩ = some (.int .i64 code) := at_cell HP.out 0
  have p1 : wb.cell? ⟨w.heap.size, 1, none⟩ = some (.int .i64 id) := at_cell HP.out 1
  have p2 : wb.cell? ⟨w.heap.size, 2, none⟩ = some (.slice A n c) := at_cell HP.out 2
  go_wp2_with fail
  refine (eread_any code id A n c xs Hn.out hn' hnc HB.out _ (HX.out.ext (h := HW.out))).mono ?_
  rintro e w1 ⟨A1, k1, rfl, ho1, hb1⟩
  rw [HRD.out] at ho1 ⊢
  simp only at ho1 ⊢
  obtain ⟨tb, htb⟩ : ∃ tb, strOfNums ms = tb := ⟨_, rfl⟩
  have HTB := Lib.hid htb
  rw [htb]
  have X1 : Hid (Ext wb w1) := ⟨hb1⟩
  have HO1 := Lib.hid ho1
  have pp : ∀ o, (w1.alloc o).heap[w1.heap.size]? = some o := at_new w1
  clear ho1 hb1 p0 p1 p2 htb
  go_upto_region 4 with
    (refine wpList_store_row_o rfl 52 (.tmp 7) (.tmp 19) rfl w1.heap.size #[.int .i64 mc, .int .i64 mi, .int .i64 1, .slice A1 mv.length k1, .string tb] rfl rfl 52 zMs (pp _) (by kernel_rfl) rfl (by simp [Value.oneCell']) ?_
     intro w2 hr2 ho2 hz2 hb2
     have HM2 := Lib.hid hr2
     have X12 : Hid (Ext w1 w2) := ⟨hb2 _ _ (inferInstance : Ext w1 (w1.alloc _)).out (Nat.le_refl _)⟩
     clear hr2 ho2 hz2 hb2 pp)
  have X2 : Hid (Ext w w2) := Ext.trans_ HW.out (Ext.trans_ X1.out X12.out)
  have HZ2 : Hid (w2.heap[w.heap.size + 1]? = some zPk) := at_ext (h := Ext.trans_ X1.out X12.out) HZ.out
  have HE2 := Lib.hid (HE.out.ext (h := X2.out))
  have HO2 := Lib.hid (own_ext (h := X12.out) HO1.out)
  have m0 : w2.cell? ⟨w1.heap.size, 0, none⟩ = some (.int .i64 mc) := at_cell HM2.out 0
  have m1 : w2.cell? ⟨w1.heap.size, 1, none⟩ = some (.int .i64 mi) := at_cell HM2.out 1
  have m2 : w2.cell? ⟨w1.heap.size, 2, none⟩ = some (.int .i64 1) := at_cell HM2.out 2
  have m4 : w2.cell? ⟨w1.heap.size, 4, none⟩ = some (.string tb) := at_cell HM2.out 4
  have s2 : w2.cell? ⟨B, 2, none⟩ = some (.int .i64 st) := at_cell HE2.out.b 2
  have g2 : w2.frozen? ⟨B, 2, none⟩ = false := at_frozen HE2.out.b 2
  have HF1 : Hid (peerR nm us st nt code id xs = peerM nm us st nt ⟨mc, mi, 1, mv, ms⟩) := HF0.out.trans (if_neg (by simp))
  have b2 : (mc == 2) = false := by simpa using z2
  have b3 : (mc == 3) = false := by simpa using z3
  have b4 : (mc == 4) = false := by simpa using z4
  have HF : Hid (peerR nm us st nt code id xs = sayR 1 nt mi 1 [] (strB nm)) := HF1.out.trans (by unfold peerM; rw [if_neg z2, if_neg (fun h => z3 h.1), if_neg z3, if_neg z4, if_pos rfl])
  clear z2 z3 z4 HF0 HF1
  go_upto_region 19 with fail
  obtain ⟨w3, hw3⟩ : ∃ w3, w2.setCell ⟨B, 2, none⟩ (.int .i64 1) = w3 := ⟨_, rfl⟩
  have HE3 : Hid (EPeer w3 B T nm 1 nt us) := by unfold Hid; rw [← hw3]; exact HE2.out.setS 1
  have HZ3 : Hid (w3.heap[w.heap.size + 1]? = some zPk) := by unfold Hid; rw [← hw3]; exact at_other (p := ⟨B, 2, none⟩) _ HZ2.out (by have := HBL.out; show w.heap.size + 1 ≠ B; omega)
  have HM3 : Hid (w3.heap[w1.heap.size]? = some (.cells #[.int .i64 mc, .int .i64 mi, .int .i64 1, .slice A1 mv.length k1, .string tb] 52 (0, 0))) := by unfold Hid; rw [← hw3]; exact at_other (p := ⟨B, 2, none⟩) _ HM2.out (by have h1 := HBL.out; have h2 := HW.out.out.size; have h3 := X1.out.out.size; show w1.heap.size ≠ B; omega)
  have HB3 : Hid (But w w3 B) := by unfold Hid; rw [← hw3]; exact (But.of (h := X2.out)).set 2 _
  rw [hw3]
  clear hw3 s2 g2 m0 m1 m2 m4
  refine wp_region_held_drew (S := fun W => W.heap[w1.heap.size]? = some (.cells #[.int .i64 mc, .int .i64 mi, .int .i64 1, .slice A1 mv.length k1, .string tb] 52 (0, 0)) ∧ W.heap[B]? = some (.cells #[.string nm, .pointer (some ⟨T, 0, none⟩), .int .i64 1, .string nt] 145 (0, 0))) (by kernel_rfl) ⟨HM3.out, HE3.out.b⟩ (fun hHeld => ?_)
  refine wpAnyH_take (i := 0) (v := ?_) rfl (by kernel_rfl) (by kernel_rfl) (by kernel_rfl) (fun _ _ _ h => h) (Yields.yieldsIf (Or.inl ⟨by rfl, ?_⟩)) hHeld ?_
  rotate_left
  · intro W
    go_simp
    try with_reducible rfl
  simp only [List.getElem_toArray, List.getElem_cons_succ, List.getElem_cons_zero, Act.put, List.setIfInBounds_toArray, List.set_cons_zero, List.set_cons_succ]
  refine wpAnyH_take (i := 1) (v := ?_) rfl (by kernel_rfl) (by kernel_rfl) (by kernel_rfl) (fun _ _ _ h => h) (Or.inl ⟨by rfl, ?_⟩) hHeld ?_
  rotate_left
  · intro W hW
    have hcl := (at_cell hW.1 1)
    go_simp
    try with_reducible rfl
  simp only [List.getElem_toArray, List.getElem_cons_succ, List.getElem_cons_zero, Act.put, List.setIfInBounds_toArray, List.set_cons_zero, List.set_cons_succ]
  refine wpAnyH_take (i := 2) (v := ?_) rfl (by kernel_rfl) (by kernel_rfl) (by kernel_rfl) (fun _ _ _ h => h) (Yields.yieldsIf (Or.inl ⟨by rfl, ?_⟩)) hHeld ?_
  rotate_left
  · intro W
    go_simp
    try with_reducible rfl
  simp only [List.getElem_toArray, List.getElem_cons_succ, List.getElem_cons_zero, Act.put, List.setIfInBounds_toArray, List.set_cons_zero, List.set_cons_succ]
  refine wpAnyH_take (i := 3) (v := ?_) rfl (by kernel_rfl) (by kernel_rfl) (by kernel_rfl) (fun _ _ _ h => h) (Yields.yieldsIf (Or.inl ⟨by rfl, ?_⟩)) hHeld ?_
  rotate_left
  · intro W
    go_simp
    try with_reducible rfl
  simp only [List.getElem_toArray, List.getElem_cons_succ, List.getElem_cons_zero, Act.put, List.setIfInBounds_toArray, List.set_cons_zero, List.set_cons_succ]
  refine wpAnyH_take (i := 4) (v := ?_) rfl (by kernel_rfl) (by kernel_rfl) (by kernel_rfl) (fun _ _ _ h => h) (Yields.yieldsIf (Or.inl ⟨by rfl, ?_⟩)) hHeld ?_
  rotate_left
  · intro W
    go_simp
    try with_reducible rfl
  simp only [List.getElem_toArray, List.getElem_cons_succ, List.getElem_cons_zero, Act.put, List.setIfInBounds_toArray, List.set_cons_zero, List.set_cons_succ]
  refine wpAnyH_take (i := 5) (v := ?_) rfl (by kernel_rfl) (by kernel_rfl) (by kernel_rfl) (fun _ _ _ h => h) (Or.inl ⟨by rfl, ?_⟩) hHeld ?_
  rotate_left
  · intro W hW
    have hcl := (at_cell hW.2 0)
    go_simp
    try with_reducible rfl
  simp only [List.getElem_toArray, List.getElem_cons_succ, List.getElem_cons_zero, Act.put, List.setIfInBounds_toArray, List.set_cons_zero, List.set_cons_succ]
  refine wpAnyH_take (i := 6) (v := ?_) rfl (by kernel_rfl) (by kernel_rfl) (by kernel_rfl) (fun _ _ _ h => h) (Yields.yieldsIf (Or.inl ⟨by rfl, ?_⟩)) hHeld ?_
  rotate_left
  · intro W
    go_simp
    try with_reducible rfl
  simp only [List.getElem_toArray, List.getElem_cons_succ, List.getElem_cons_zero, Act.put, List.setIfInBounds_toArray, List.set_cons_zero, List.set_cons_succ]
  refine wpAnyH_ready (rs := [7]) (by kernel_rfl) (by simp) ?_
  refine AllReadyH.cons rfl (fun K hK => ?_) AllReadyH.nil
  refine step_call_w (by rfl) Try.func91 (by kernel_rfl) (by kernel_rfl) #[.tmp 72] #[52] rfl #[.agg #[.int .i64 0, .int .i64 mi, .int .i64 1, .slice none 0 0, .string nm]] ?hv (say_any mi 1 none 0 0 [] nm rfl (by omega) (by have := HE.out.nml; omega) _ (Cells.nil_ _ _)) ?_
  case hv => go_simp
  rintro e w6 ⟨A6, k6, rfl, ho6, hb6⟩
  obtain ⟨⟨⟨ci, ii⟩, d, er⟩, hwr⟩ : ∃ F, wrE 2 mi 1 [] (strB nm) = F := ⟨_, rfl⟩
  have HR6 : Hid (sayR 1 nt mi 1 [] (strB nm) = ⟨1, nt, ci, ii, d, true, 0⟩) := by
    have h : wrE 2 mi 1 [] (strB nm) = ((ci, ii), d, er) := hwr
    unfold Hid sayR
    rw [h]
  rw [hwr] at ho6 ⊢
  simp only at ho6 ⊢
  have X36 : Hid (Ext w3 w6) := Ext.trans_ (inferInstance : Ext w3 w3.drew) ⟨hb6⟩
  have HZ6 : Hid (w6.heap[w.heap.size + 1]? = some zPk) := at_ext (h := X36.out) HZ3.out
  have HO6 := Lib.hid (own_weaken ho6 HB3.out.size)
  have HE6 := Lib.hid (HE3.out.ext (h := X36.out))
  have HB6 : Hid (But w w6 B) := HB3.out.step X36.out
  have HNE : Hid ((Value.slice A6 d.length k6).ownBlock ≠ some (w.heap.size + 1)) := own_type_ne HO6.out HZ6.out (by decide)
  clear ho6 hwr
  refine ⟨_, rfl, ?_⟩
  clear hb6 hHeld
  have HM6 := Lib.hid (at_ext (h := X36.out) HM3.out)
  refine hK.out _ _ ⟨HM6.out, HE6.out.b⟩ (fun hHeld => ?_)
  clear hK K
  try simp only [List.getElem_toArray, List.getElem_cons_succ, List.getElem_cons_zero, Act.put, List.setIfInBounds_toArray, List.set_cons_zero, List.set_cons_succ]
  refine wpAnyH_take (i := 8) (v := ?_) rfl (by kernel_rfl) (by kernel_rfl) (by kernel_rfl) (fun _ _ _ h => h) (Yields.yieldsIf (Or.inl ⟨by rfl, ?_⟩)) hHeld ?_
  rotate_left
  · intro W
    go_simp
    try with_reducible rfl
  simp only [List.getElem_toArray, List.getElem_cons_succ, List.getElem_cons_zero, Act.put, List.setIfInBounds_toArray, List.set_cons_zero, List.set_cons_succ]
  refine wpAnyH_take (i := 9) (v := ?_) rfl (by kernel_rfl) (by kernel_rfl) (by kernel_rfl) (fun _ _ _ h => h) (Yields.yieldsIf (Or.inl ⟨by rfl, ?_⟩)) hHeld ?_
  rotate_left
  · intro W
    go_simp
    try with_reducible rfl
  simp only [List.getElem_toArray, List.getElem_cons_succ, List.getElem_cons_zero, Act.put, List.setIfInBounds_toArray, List.set_cons_zero, List.set_cons_succ]
  refine wpAnyH_take (i := 10) (v := ?_) rfl (by kernel_rfl) (by kernel_rfl) (by kernel_rfl) (fun _ _ _ h => h) (Yields.yieldsIf (Or.inl ⟨by rfl, ?_⟩)) hHeld ?_
  rotate_left
  · intro W
    go_simp
    try with_reducible rfl
  simp only [List.getElem_toArray, List.getElem_cons_succ, List.getElem_cons_zero, Act.put, List.setIfInBounds_toArray, List.set_cons_zero, List.set_cons_succ]
  refine wpAnyH_ready (rs := [11]) (by kernel_rfl) (by simp) ?_
  refine AllReadyH.cons rfl (fun K hK => ?_) AllReadyH.nil
  refine step_store_row (by rfl) 24 (.tmp 4) (.tmp 74) rfl (w.heap.size + 1) #[.int .i64 ci, .int .i64 ii, .slice A6 d.length k6] rfl rfl 24 #[.int .i64 0, .int .i64 0, .slice none 0 0] HZ6.out (by kernel_rfl) rfl (by simp [Value.oneCell']) ?_
  have hwl := HW.out.out.size
  have hw1 := X1.out.out.size
  have hzl := at_lt HZ.out
  have hbl := HBL.out
  clear hHeld
  refine hK.out _ _ ⟨(setRow_other _ _ _ _ (by omega)).trans HM6.out, (setRow_other _ _ _ _ (by omega)).trans HE6.out.b⟩ (fun hHeld => ?_)
  clear hK K hwl hw1 hzl hbl
  try simp only [List.getElem_toArray, List.getElem_cons_succ, List.getElem_cons_zero, Act.put, List.setIfInBounds_toArray, List.set_cons_zero, List.set_cons_succ]
  refine wpAnyH_take (i := 12) (v := ?_) rfl (by kernel_rfl) (by kernel_rfl) (by kernel_rfl) (fun _ _ _ h => h) (Yields.yieldsIf (Or.inl ⟨by rfl, ?_⟩)) hHeld ?_
  rotate_left
  · intro W
    go_simp
    try with_reducible rfl
  simp only [List.getElem_toArray, List.getElem_cons_succ, List.getElem_cons_zero, Act.put, List.setIfInBounds_toArray, List.set_cons_zero, List.set_cons_succ]
  refine wpAnyH_take (i := 13) (v := ?_) rfl (by kernel_rfl) (by kernel_rfl) (by kernel_rfl) (fun _ _ _ h => h) (Yields.yieldsIf (Or.inl ⟨by rfl, ?_⟩)) hHeld ?_
  rotate_left
  · intro W
    go_simp
    try with_reducible rfl
  simp only [List.getElem_toArray, List.getElem_cons_succ, List.getElem_cons_zero, Act.put, List.setIfInBounds_toArray, List.set_cons_zero, List.set_cons_succ]
  refine wpAnyH_done (by kernel_rfl) ?_ _
  clear hHeld
  go_wp2
  refine bodyPost_ret (results_cell_row3 Try.results55 _ _ (w.heap.size + 1) 24 #[.int .i64 ci, .int .i64 ii, .slice A6 d.length k6] (0, 0) _ (.bool true) (.int .i64 0) rfl rfl rfl (setRow_heap _ _ _ _ _ _ HZ6.out) Try.underlying24 rfl (by kernel_rfl)) rfl ?_
  rw [HF.out, HR6.out]
  exact ⟨A6, k6, rfl, own_setRow HO6.out HNE.out _, HE6.out.rowY (by have := HBL.out; omega) _, HB6.out.rowY (by omega) _⟩
end Go.Proofs.Ytobddmpiljknpaa
