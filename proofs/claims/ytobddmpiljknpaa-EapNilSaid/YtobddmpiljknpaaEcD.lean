/-
  eap: Peer.Take: a request for a proof. Conditions: sizes.
-/
import Derived.Test.YtobddmpiljknpaaEcC
namespace Go.Proofs.Ytobddmpiljknpaa
open Go.RowKit
set_option linter.unusedVariables false
set_option linter.unusedSimpArgs false

set_option maxRecDepth 100000 in
set_option maxHeartbeats 4000000 in
theorem ptake_d1 (B T : Nat) (nm : ByteArray) (st : Int) (nt : ByteArray) (us : List SV) (code id : Int) (A : Option Addr) (n c : Nat) (xs : List Int) (hn : xs.length = n) (hn' : n ≤ 140737488355000) (hnc : n ≤ c) (hb : Byt xs) (w : World) (hx : Cells w A (nums .u8 xs)) (hE : EPeer w B T nm st nt us) (mc mi : Int) (mv ms : List Int) (hrd : rdE code id xs = (⟨mc, mi, 4, mv, ms⟩, 0)) (z2 : mc ≠ 2) (z3 : mc ≠ 3) (z4 : mc ≠ 4) (hq : findF (strB nm) ms us = none) :
    Calls Try.prog 55 #[.pointer (some ⟨B, 0, none⟩), .agg #[.int .i64 code, .int .i64 id, .slice A n c]] w (PtTells B T nm us (peerR nm us st nt code id xs) w) := by
  have HQ := Lib.hid hq
  clear hq
  have Hn := Lib.hid hn
  have HX := Lib.hid hx
  have HB := Lib.hid hb
  have HE := Lib.hid hE
  have HBL : Hid (B < w.heap.size) := at_lt hE.b
  have HRD := Lib.hid hrd
  have HRA := Lib.hid (rdE_all hb hrd)
  have HF0 : Hid (peerR nm us st nt code id xs = if 0 ≠ 0 then noR st nt 0 else peerM nm us st nt ⟨mc, mi, 4, mv, ms⟩) := by unfold Hid peerR; rw [hrd]; try rfl
  clear hE hn hx hb hrd
  go_enter Try.func55, Try.ntmps55
  go_upto_region 1 with fail
  obtain ⟨wb, hwb⟩ : ∃ wb, (w.alloc (.cells #[.int .i64 code, .int .i64 id, .slice A n c] 24)).alloc zPk = wb := ⟨_, rfl⟩
  have HP : Hid (wb.heap[w.heap.size]? = some (.cells #[.int .i64 code, .int .i64 id, .slice A n c] 24 (0, 0))) := by unfold Hid; rw [← hwb]; exact at_ext (at_new w _)
  have HZ : Hid (wb.heap[w.heap.size + 1]? = some zPk) := by unfold Hid; rw [← hwb]; exact at_new1 (by simp)
  have HW : Hid (Ext w wb) := by unfold Hid; rw [← hwb]; exact inferInstance
  rw [hwb]
  clear hwb
  have p0 : wb.cell? ⟨w.heap.size, 0, none⟩ = some (.int .i64 code) := at_cell HP.out 0
  have p1 : wb.cell? ⟨w.heap.size, 1, none⟩ = some (.int .i64 id) := at_cell HP.out 1
  have p2 : wb.cell? ⟨w.heap.size, 2, none⟩ = some (.slice A n c) := at_cell HP.out 2
  go_wp2_with fail
  refine (eread_any code id A n c xs Hn.out hn' hnc HB.out _ (HX.out.ext (h := HW.out))).mono ?_
  rintro e w1 ⟨A1, k1, rfl, ho1, hb1⟩
  rw [HRD.out] at ho1 ⊢
  simp only at ho1 ⊢
  obtain ⟨tb, htb⟩ : ∃ tb, strOfNums ms = tb := ⟨_, rfl⟩
  have HTB := Lib.hid htb
  rw [htb]
  have X1 : Hid (Ext wb w1) := ⟨hb1⟩
  have HO1 := Lib.hid ho1
  have pp : ∀ o, (w1.alloc o).heap[w1.heap.size]? = some o := at_new w1
  clear ho1 hb1 p0 p1 p2 htb
  go_upto_region 4 with
    (refine wpList_store_row_o rfl 52 (.tmp 7) (.tmp 19) rfl w1.heap.size #[.int .i64 mc, .int .i64 mi, .int .i64 4, .slice A1 mv.length k1, .string tb] rfl rfl 52 zMs (pp _) (by kernel_rfl) rfl (by simp [Value.oneCell']) ?_
     intro w2 hr2 ho2 hz2 hb2
     have HM2 := Lib.hid hr2
     have X12 : Hid (Ext w1 w2) := ⟨hb2 _ _ (inferInstance : Ext w1 (w1.alloc _)).out (Nat.le_refl _)⟩
     clear hr2 ho2 hz2 hb2 pp)
  have X2 : Hid (Ext w w2) := Ext.trans_ HW.out (Ext.trans_ X1.out X12.out)
  have HZ2 : Hid (w2.heap[w.heap.size + 1]? = some zPk) := at_ext (h := Ext.trans_ X1.out X12.out) HZ.out
  have HE2 := Lib.hid (HE.out.ext (h := X2.out))
  have HO2 := Lib.hid (own_ext (h := X12.out) HO1.out)
  have m0 : w2.cell? ⟨w1.heap.size, 0, none⟩ = some (.int .i64 mc) := at_cell HM2.out 0
  have m1 : w2.cell? ⟨w1.heap.size, 1, none⟩ = some (.int .i64 mi) := at_cell HM2.out 1
  have m2 : w2.cell? ⟨w1.heap.size, 2, none⟩ = some (.int .i64 4) := at_cell HM2.out 2
  have m4 : w2.cell? ⟨w1.heap.size, 4, none⟩ = some (.string tb) := at_cell HM2.out 4
  have s2 : w2.cell? ⟨B, 2, none⟩ = some (.int .i64 st) := at_cell HE2.out.b 2
  have g2 : w2.frozen? ⟨B, 2, none⟩ = false := at_frozen HE2.out.b 2
  have HF1 : Hid (peerR nm us st nt code id xs = peerM nm us st nt ⟨mc, mi, 4, mv, ms⟩) := HF0.out.trans (if_neg (by simp))
  have b2 : (mc == 2) = false := by simpa using z2
  have b3 : (mc == 3) = false := by simpa using z3
  have b4 : (mc == 4) = false := by simpa using z4
  have HF : Hid (peerR nm us st nt code id xs = sayR st nt mi 3 [0] []) := HF1.out.trans (by unfold peerM; rw [if_neg z2, if_neg (fun h => z3 h.1), if_neg z3, if_neg z4, if_neg (by simp), if_neg (by simp), if_pos rfl, if_pos (by unfold secW; simp only [HQ.out]; rfl)])
  clear z2 z3 z4 HF0 HF1
  have HTS : Hid (strB tb = ms) := by unfold Hid; rw [← HTB.out]; exact strB_str _ HRA.out.2.1
  have HT := Lib.hid HE2.out.t.t
  have hl := HE.out.l
  have n1 : w2.cell? ⟨B, 1, none⟩ = some (.pointer (some ⟨T, 0, none⟩)) := at_cell HE2.out.b 1
  have n0 : w2.cell? ⟨B, 0, none⟩ = some (.string nm) := at_cell HE2.out.b 0
  go_upto_region 24 with fail
  refine wp_region_held_drew (S := Ext w2) (by kernel_rfl) (by exact inferInstance) (fun hHeld => ?_)
  refine wpAnyH_take (i := 0) (v := ?_) rfl (by kernel_rfl) (by kernel_rfl) (by kernel_rfl) (fun _ _ _ h => h) (Yields.yieldsIf (Or.inl ⟨by rfl, ?_⟩)) hHeld ?_
  rotate_left
  · intro W
    go_simp
    try with_reducible rfl
  simp only [List.getElem_toArray, List.getElem_cons_succ, List.getElem_cons_zero, Act.put, List.setIfInBounds_toArray, List.set_cons_zero, List.set_cons_succ]
  refine wpAnyH_take (i := 1) (v := ?_) rfl (by kernel_rfl) (by kernel_rfl) (by kernel_rfl) (fun _ _ _ h => h) (Yields.yieldsIf (Or.inl ⟨by rfl, ?_⟩)) hHeld ?_
  rotate_left
  · intro W
    go_simp
    try with_reducible rfl
  simp only [List.getElem_toArray, List.getElem_cons_succ, List.getElem_cons_zero, Act.put, List.setIfInBounds_toArray, List.set_cons_zero, List.set_cons_succ]
  refine wpAnyH_take (i := 2) (v := ?_) rfl (by kernel_rfl) (by kernel_rfl) (by kernel_rfl) (fun _ _ _ h => h) (Yields.yieldsIf (Or.inl ⟨by rfl, ?_⟩)) hHeld ?_
  rotate_left
  · intro W
    go_simp
    try with_reducible rfl
  simp only [List.getElem_toArray, List.getElem_cons_succ, List.getElem_cons_zero, Act.put, List.setIfInBounds_toArray, List.set_cons_zero, List.set_cons_succ]
  refine wpAnyH_take (i := 3) (v := ?_) rfl (by kernel_rfl) (by kernel_rfl) (by kernel_rfl) (fun _ _ _ h => h) (Or.inl ⟨by rfl, ?_⟩) hHeld ?_
  rotate_left
  · intro W hW
    have hcl := (cell_ext (h := hW) n1)
    go_simp
    try with_reducible rfl
  simp only [List.getElem_toArray, List.getElem_cons_succ, List.getElem_cons_zero, Act.put, List.setIfInBounds_toArray, List.set_cons_zero, List.set_cons_succ]
  refine wpAnyH_take (i := 4) (v := ?_) rfl (by kernel_rfl) (by kernel_rfl) (by kernel_rfl) (fun _ _ _ h => h) (Yields.yieldsIf (Or.inl ⟨by rfl, ?_⟩)) hHeld ?_
  rotate_left
  · intro W
    go_simp
    try with_reducible rfl
  simp only [List.getElem_toArray, List.getElem_cons_succ, List.getElem_cons_zero, Act.put, List.setIfInBounds_toArray, List.set_cons_zero, List.set_cons_succ]
  refine wpAnyH_take (i := 5) (v := ?_) rfl (by kernel_rfl) (by kernel_rfl) (by kernel_rfl) (fun _ _ _ h => h) (Yields.yieldsIf (Or.inl ⟨by rfl, ?_⟩)) hHeld ?_
  rotate_left
  · intro W
    go_simp
    try with_reducible rfl
  simp only [List.getElem_toArray, List.getElem_cons_succ, List.getElem_cons_zero, Act.put, List.setIfInBounds_toArray, List.set_cons_zero, List.set_cons_succ]
  refine wpAnyH_take (i := 6) (v := ?_) rfl (by kernel_rfl) (by kernel_rfl) (by kernel_rfl) (fun _ _ _ h => h) (Yields.yieldsIf (Or.inl ⟨by rfl, ?_⟩)) hHeld ?_
  rotate_left
  · intro W
    go_simp
    try with_reducible rfl
  simp only [List.getElem_toArray, List.getElem_cons_succ, List.getElem_cons_zero, Act.put, List.setIfInBounds_toArray, List.set_cons_zero, List.set_cons_succ]
  refine wpAnyH_take (i := 7) (v := ?_) rfl (by kernel_rfl) (by kernel_rfl) (by kernel_rfl) (fun _ _ _ h => h) (Or.inl ⟨by rfl, ?_⟩) hHeld ?_
  rotate_left
  · intro W hW
    have hcl := (cell_ext (h := hW) n0)
    go_simp
    try with_reducible rfl
  simp only [List.getElem_toArray, List.getElem_cons_succ, List.getElem_cons_zero, Act.put, List.setIfInBounds_toArray, List.set_cons_zero, List.set_cons_succ]
  refine wpAnyH_take (i := 8) (v := ?_) rfl (by kernel_rfl) (by kernel_rfl) (by kernel_rfl) (fun _ _ _ h => h) (Yields.yieldsIf (Or.inl ⟨by rfl, ?_⟩)) hHeld ?_
  rotate_left
  · intro W
    go_simp
    try with_reducible rfl
  simp only [List.getElem_toArray, List.getElem_cons_succ, List.getElem_cons_zero, Act.put, List.setIfInBounds_toArray, List.set_cons_zero, List.set_cons_succ]
  refine wpAnyH_take (i := 9) (v := ?_) rfl (by kernel_rfl) (by kernel_rfl) (by kernel_rfl) (fun _ _ _ h => h) (Or.inl ⟨by rfl, ?_⟩) hHeld ?_
  rotate_left
  · intro W hW
    have hcl := (cell_ext (h := hW) m4)
    go_simp
    try with_reducible rfl
  simp only [List.getElem_toArray, List.getElem_cons_succ, List.getElem_cons_zero, Act.put, List.setIfInBounds_toArray, List.set_cons_zero, List.set_cons_succ]
  refine wpAnyH_ready (rs := [10, 14]) (by kernel_rfl) (by simp) ?_
  refine AllReadyH.cons rfl (fun K hK => ?_) (AllReadyH.cons rfl (fun K hK => ?_) AllReadyH.nil)
  · clear n0 n1
    refine step_call_w (by rfl) Try.func92 (by kernel_rfl) (by kernel_rfl) #[.tmp 97, .tmp 101, .tmp 103] #[123, 9, 9] rfl #[.pointer (some ⟨T, 0, none⟩), .string nm, .string tb] ?hv (tfind_any T us nm tb w2.drew hl (by exact TabAt.ext (h := (inferInstance : Ext w2 w2.drew)) HT.out)) ?_
    case hv => go_simp
    rintro e y2 ⟨hb2, he⟩
    rw [HTS.out, HQ.out] at he
    simp only at he
    subst he
    refine ⟨_, rfl, ?_⟩
    have Y2 : Hid (Ext w2 y2) := Ext.trans_ (inferInstance : Ext w2 w2.drew) ⟨hb2⟩
    clear hHeld hb2
    refine hK.out _ _ Y2.out (fun hHeld => ?_)
    clear hK K
    try simp only [List.getElem_toArray, List.getElem_cons_succ, List.getElem_cons_zero, Act.put, List.setIfInBounds_toArray, List.set_cons_zero, List.set_cons_succ]
    refine wpAnyH_take (i := 11) (v := ?_) rfl (by kernel_rfl) (by kernel_rfl) (by kernel_rfl) (fun _ _ _ h => h) (Yields.yieldsIf (Or.inl ⟨by rfl, ?_⟩)) hHeld ?_
    rotate_left
    · intro W
      go_simp
      try with_reducible rfl
    simp only [List.getElem_toArray, List.getElem_cons_succ, List.getElem_cons_zero, Act.put, List.setIfInBounds_toArray, List.set_cons_zero, List.set_cons_succ]
    refine wpAnyH_take (i := 12) (v := ?_) rfl (by kernel_rfl) (by kernel_rfl) (by kernel_rfl) (fun _ _ _ h => h) (Yields.yieldsIf (Or.inl ⟨by rfl, ?_⟩)) hHeld ?_
    rotate_left
    · intro W
      go_simp
      try with_reducible rfl
    simp only [List.getElem_toArray, List.getElem_cons_succ, List.getElem_cons_zero, Act.put, List.setIfInBounds_toArray, List.set_cons_zero, List.set_cons_succ]
    refine wpAnyH_take (i := 13) (v := ?_) rfl (by kernel_rfl) (by kernel_rfl) (by kernel_rfl) (fun _ _ _ h => h) (Yields.yieldsIf (Or.inl ⟨by rfl, ?_⟩)) hHeld ?_
    rotate_left
    · intro W
      go_simp
      try with_reducible rfl
    simp only [List.getElem_toArray, List.getElem_cons_succ, List.getElem_cons_zero, Act.put, List.setIfInBounds_toArray, List.set_cons_zero, List.set_cons_succ]
    refine wpAnyH_ready (rs := [14]) (by kernel_rfl) (by simp) ?_
    refine AllReadyH.cons rfl (fun K hK => ?_) AllReadyH.nil
    rw [if_pos (by rfl)]
    unfold Oper.wp
    go_simp
    obtain ⟨y3, hy3⟩ : ∃ y3, y2.alloc (.cells zSec 44) = y3 := ⟨_, rfl⟩
    have HS3 : Hid (y3.heap[y2.heap.size]? = some (.cells zSec 44 (0, 0))) := by unfold Hid; rw [← hy3]; exact at_new y2 _
    have Y3 : Hid (Ext w2 y3) := Ext.trans_ Y2.out (by rw [← hy3]; exact inferInstance)
    simp only [hy3]
    clear hHeld hy3
    refine hK.out _ _ Y3.out (fun hHeld => ?_)
    clear hK K
    try simp only [List.getElem_toArray, List.getElem_cons_succ, List.getElem_cons_zero, Act.put, List.setIfInBounds_toArray, List.set_cons_zero, List.set_cons_succ]
    refine wpAnyH_ready (rs := [15]) (by kernel_rfl) (by simp) ?_
    refine AllReadyH.cons rfl (fun K hK => ?_) AllReadyH.nil
    refine step_store_row (by rfl) 44 (.tmp 9) (.tmp 105) rfl y2.heap.size zSec rfl rfl 44 zSec HS3.out (by kernel_rfl) rfl (by simp [Value.oneCell']) ?_
    clear hHeld
    refine hK.out _ _ (Ext.setRow_ Y3.out Y2.out.out.size _) (fun hHeld => ?_)
    clear hK K
    try simp only [List.getElem_toArray, List.getElem_cons_succ, List.getElem_cons_zero, Act.put, List.setIfInBounds_toArray, List.set_cons_zero, List.set_cons_succ]
    refine wpAnyH_take (i := 16) (v := ?_) rfl (by kernel_rfl) (by kernel_rfl) (by kernel_rfl) (fun _ _ _ h => h) (Yields.yieldsIf (Or.inl ⟨by rfl, ?_⟩)) hHeld ?_
    rotate_left
    · intro W
      go_simp
      try with_reducible rfl
    simp only [List.getElem_toArray, List.getElem_cons_succ, List.getElem_cons_zero, Act.put, List.setIfInBounds_toArray, List.set_cons_zero, List.set_cons_succ]
    refine wpAnyH_done (by kernel_rfl) ?_ _
    clear hHeld
    obtain ⟨gS, hgS⟩ : ∃ gS, y2.heap.size = gS := ⟨_, rfl⟩
    obtain ⟨w3, hw3⟩ : ∃ w3, y3.setRow y2.heap.size zSec = w3 := ⟨_, rfl⟩
    have X23 : Hid (Ext w2 w3) := by unfold Hid; rw [← hw3]; exact Ext.setRow_ Y3.out Y2.out.out.size _
    have HS4 : Hid (w3.heap[gS]? = some (.cells zSec 44 (0, 0))) := by unfold Hid; rw [← hw3, ← hgS]; exact setRow_heap _ _ _ _ _ _ HS3.out
    rw [hw3, hgS]
    have X3 : Hid (Ext w w3) := Ext.trans_ X2.out X23.out
    have HE3 := Lib.hid (HE2.out.ext (h := X23.out))
    have HZ3 : Hid (w3.heap[w.heap.size + 1]? = some zPk) := at_ext (h := X23.out) HZ2.out
    have HM3 := Lib.hid (at_ext (h := X23.out) HM2.out)
    have HO3 := Lib.hid (own_ext (h := X23.out) HO2.out)
    have HB3 : Hid (But w w3 B) := But.of (h := X3.out)
    clear hw3 hgS m0 m1 m2 m4 s2 g2
    have m1 : w3.cell? ⟨w1.heap.size, 1, none⟩ = some (.int .i64 mi) := at_cell HM3.out 1
    have m3 : w3.cell? ⟨w1.heap.size, 3, none⟩ = some (.slice A1 mv.length k1) := at_cell HM3.out 3
    have k2 : w3.cell? ⟨gS, 2, none⟩ = some (.string ⟨#[]⟩) := at_cell HS4.out 2
    go_wp2_with fail
    refine (say_any mi 3 (some ⟨w3.heap.size, 0, none⟩) 1 1 [0] noB rfl (by omega) (by decide) _ (cells_box w3 _ rfl (nums .u8 [0]) _)).mono ?_
    rintro e w6 ⟨A6, k6, rfl, ho6, hb6⟩
    obtain ⟨⟨⟨ci, ii⟩, d, er⟩, hwr⟩ : ∃ F, wrE 2 mi 3 [0] (strB noB) = F := ⟨_, rfl⟩
    have HR6 : Hid (sayR st nt mi 3 [0] [] = ⟨st, nt, ci, ii, d, true, 0⟩) := by
      have h : wrE 2 mi 3 [0] [] = ((ci, ii), d, er) := hwr
      unfold Hid sayR
      rw [h]
    rw [hwr] at ho6 ⊢
    simp only at ho6 ⊢
    have X36 : Hid (Ext w3 w6) := Ext.trans_ (inferInstance : Ext w3 (w3.alloc _)) ⟨hb6⟩
    have HZ6 : Hid (w6.heap[w.heap.size + 1]? = some zPk) := at_ext (h := X36.out) HZ3.out
    have HO6 := Lib.hid (own_weaken ho6 (Nat.le_trans HB3.out.size (by simp)))
    have HE6 := Lib.hid (HE3.out.ext (h := X36.out))
    have HB6 : Hid (But w w6 B) := HB3.out.step X36.out
    have HNE : Hid ((Value.slice A6 d.length k6).ownBlock ≠ some (w.heap.size + 1)) := own_type_ne HO6.out HZ6.out (by decide)
    clear ho6 hwr
    clear hb6
    go_wp2_with
      (refine wpList_store_row rfl 24 (.tmp 4) (.tmp 115) rfl (w.heap.size + 1) #[.int .i64 ci, .int .i64 ii, .slice A6 d.length k6] rfl rfl 24 #[.int .i64 0, .int .i64 0, .slice none 0 0] HZ6.out (by kernel_rfl) rfl (by simp [Value.oneCell']) ?_)
    refine bodyPost_ret (results_cell_row3 Try.results55 _ _ (w.heap.size + 1) 24 #[.int .i64 ci, .int .i64 ii, .slice A6 d.length k6] (0, 0) _ (.bool true) (.int .i64 0) rfl rfl rfl (setRow_heap _ _ _ _ _ _ HZ6.out) Try.underlying24 rfl (by kernel_rfl)) rfl ?_
    rw [HF.out, HR6.out]
    exact ⟨A6, k6, rfl, own_setRow HO6.out HNE.out _, HE6.out.rowY (by have := HBL.out; omega) _, HB6.out.rowY (by omega) _⟩
  · clear n0 n1
    rw [if_pos (by rfl)]
    unfold Oper.wp
    go_simp
    obtain ⟨y1, hy1⟩ : ∃ y1, (w2.alloc (.cells zSec 44)).drew = y1 := ⟨_, rfl⟩
    have HS1 : Hid (y1.heap[w2.heap.size]? = some (.cells zSec 44 (0, 0))) := by unfold Hid; rw [← hy1]; exact at_new w2 _
    have Y1 : Hid (Ext w2 y1) := by unfold Hid; rw [← hy1]; exact inferInstance
    simp only [hy1]
    clear hHeld hy1
    refine hK.out _ _ Y1.out (fun hHeld => ?_)
    clear hK K
    try simp only [List.getElem_toArray, List.getElem_cons_succ, List.getElem_cons_zero, Act.put, List.setIfInBounds_toArray, List.set_cons_zero, List.set_cons_succ]
    refine wpAnyH_ready (rs := [10]) (by kernel_rfl) (by simp) ?_
    refine AllReadyH.cons rfl (fun K hK => ?_) AllReadyH.nil
    refine step_call_w (by rfl) Try.func92 (by kernel_rfl) (by kernel_rfl) #[.tmp 97, .tmp 101, .tmp 103] #[123, 9, 9] rfl #[.pointer (some ⟨T, 0, none⟩), .string nm, .string tb] ?hv (tfind_any T us nm tb y1 hl (by exact TabAt.ext (h := Y1.out) HT.out)) ?_
    case hv => go_simp
    rintro e y2 ⟨hb2, he⟩
    rw [HTS.out, HQ.out] at he
    simp only at he
    subst he
    refine ⟨_, rfl, ?_⟩
    obtain ⟨y3, rfl⟩ : ∃ y3, y3 = y2 := ⟨y2, rfl⟩
    have Y13 : Hid (Ext y1 y3) := ⟨hb2⟩
    have Y3 : Hid (Ext w2 y3) := Ext.trans_ Y1.out Y13.out
    have HS3 : Hid (y3.heap[w2.heap.size]? = some (.cells zSec 44 (0, 0))) := at_ext (h := Y13.out) HS1.out
    clear hHeld hb2
    refine hK.out _ _ Y3.out (fun hHeld => ?_)
    clear hK K
    try simp only [List.getElem_toArray, List.getElem_cons_succ, List.getElem_cons_zero, Act.put, List.setIfInBounds_toArray, List.set_cons_zero, List.set_cons_succ]
    refine wpAnyH_take (i := 11) (v := ?_) rfl (by kernel_rfl) (by kernel_rfl) (by kernel_rfl) (fun _ _ _ h => h) (Yields.yieldsIf (Or.inl ⟨by rfl, ?_⟩)) hHeld ?_
    rotate_left
    · intro W
      go_simp
      try with_reducible rfl
    simp only [List.getElem_toArray, List.getElem_cons_succ, List.getElem_cons_zero, Act.put, List.setIfInBounds_toArray, List.set_cons_zero, List.set_cons_succ]
    refine wpAnyH_take (i := 12) (v := ?_) rfl (by kernel_rfl) (by kernel_rfl) (by kernel_rfl) (fun _ _ _ h => h) (Yields.yieldsIf (Or.inl ⟨by rfl, ?_⟩)) hHeld ?_
    rotate_left
    · intro W
      go_simp
      try with_reducible rfl
    simp only [List.getElem_toArray, List.getElem_cons_succ, List.getElem_cons_zero, Act.put, List.setIfInBounds_toArray, List.set_cons_zero, List.set_cons_succ]
    refine wpAnyH_take (i := 13) (v := ?_) rfl (by kernel_rfl) (by kernel_rfl) (by kernel_rfl) (fun _ _ _ h => h) (Yields.yieldsIf (Or.inl ⟨by rfl, ?_⟩)) hHeld ?_
    rotate_left
    · intro W
      go_simp
      try with_reducible rfl
    simp only [List.getElem_toArray, List.getElem_cons_succ, List.getElem_cons_zero, Act.put, List.setIfInBounds_toArray, List.set_cons_zero, List.set_cons_succ]
    refine wpAnyH_ready (rs := [15]) (by kernel_rfl) (by simp) ?_
    refine AllReadyH.cons rfl (fun K hK => ?_) AllReadyH.nil
    refine step_store_row (by rfl) 44 (.tmp 9) (.tmp 105) rfl w2.heap.size zSec rfl rfl 44 zSec HS3.out (by kernel_rfl) rfl (by simp [Value.oneCell']) ?_
    clear hHeld
    refine hK.out _ _ (Ext.setRow_ Y3.out (Nat.le_refl _) _) (fun hHeld => ?_)
    clear hK K
    try simp only [List.getElem_toArray, List.getElem_cons_succ, List.getElem_cons_zero, Act.put, List.setIfInBounds_toArray, List.set_cons_zero, List.set_cons_succ]
    refine wpAnyH_take (i := 16) (v := ?_) rfl (by kernel_rfl) (by kernel_rfl) (by kernel_rfl) (fun _ _ _ h => h) (Yields.yieldsIf (Or.inl ⟨by rfl, ?_⟩)) hHeld ?_
    rotate_left
    · intro W
      go_simp
      try with_reducible rfl
    simp only [List.getElem_toArray, List.getElem_cons_succ, List.getElem_cons_zero, Act.put, List.setIfInBounds_toArray, List.set_cons_zero, List.set_cons_succ]
    refine wpAnyH_done (by kernel_rfl) ?_ _
    clear hHeld
    obtain ⟨gS, hgS⟩ : ∃ gS, w2.heap.size = gS := ⟨_, rfl⟩
    obtain ⟨w3, hw3⟩ : ∃ w3, y3.setRow w2.heap.size zSec = w3 := ⟨_, rfl⟩
    have X23 : Hid (Ext w2 w3) := by unfold Hid; rw [← hw3]; exact Ext.setRow_ Y3.out (Nat.le_refl _) _
    have HS4 : Hid (w3.heap[gS]? = some (.cells zSec 44 (0, 0))) := by unfold Hid; rw [← hw3, ← hgS]; exact setRow_heap _ _ _ _ _ _ HS3.out
    rw [hw3, hgS]
    have X3 : Hid (Ext w w3) := Ext.trans_ X2.out X23.out
    have HE3 := Lib.hid (HE2.out.ext (h := X23.out))
    have HZ3 : Hid (w3.heap[w.heap.size + 1]? = some zPk) := at_ext (h := X23.out) HZ2.out
    have HM3 := Lib.hid (at_ext (h := X23.out) HM2.out)
    have HO3 := Lib.hid (own_ext (h := X23.out) HO2.out)
    have HB3 : Hid (But w w3 B) := But.of (h := X3.out)
    clear hw3 hgS m0 m1 m2 m4 s2 g2
    have m1 : w3.cell? ⟨w1.heap.size, 1, none⟩ = some (.int .i64 mi) := at_cell HM3.out 1
    have m3 : w3.cell? ⟨w1.heap.size, 3, none⟩ = some (.slice A1 mv.length k1) := at_cell HM3.out 3
    have k2 : w3.cell? ⟨gS, 2, none⟩ = some (.string ⟨#[]⟩) := at_cell HS4.out 2
    go_wp2_with fail
    refine (say_any mi 3 (some ⟨w3.heap.size, 0, none⟩) 1 1 [0] noB rfl (by omega) (by decide) _ (cells_box w3 _ rfl (nums .u8 [0]) _)).mono ?_
    rintro e w6 ⟨A6, k6, rfl, ho6, hb6⟩
    obtain ⟨⟨⟨ci, ii⟩, d, er⟩, hwr⟩ : ∃ F, wrE 2 mi 3 [0] (strB noB) = F := ⟨_, rfl⟩
    have HR6 : Hid (sayR st nt mi 3 [0] [] = ⟨st, nt, ci, ii, d, true, 0⟩) := by
      have h : wrE 2 mi 3 [0] [] = ((ci, ii), d, er) := hwr
      unfold Hid sayR
      rw [h]
    rw [hwr] at ho6 ⊢
    simp only at ho6 ⊢
    have X36 : Hid (Ext w3 w6) := Ext.trans_ (inferInstance : Ext w3 (w3.alloc _)) ⟨hb6⟩
    have HZ6 : Hid (w6.heap[w.heap.size + 1]? = some zPk) := at_ext (h := X36.out) HZ3.out
    have HO6 := Lib.hid (own_weaken ho6 (Nat.le_trans HB3.out.size (by simp)))
    have HE6 := Lib.hid (HE3.out.ext (h := X36.out))
    have HB6 : Hid (But w w6 B) := HB3.out.step X36.out
    have HNE : Hid ((Value.slice A6 d.length k6).ownBlock ≠ some (w.heap.size + 1)) := own_type_ne HO6.out HZ6.out (by decide)
    clear ho6 hwr
    clear hb6
    go_wp2_with
      (refine wpList_store_row rfl 24 (.tmp 4) (.tmp 115) rfl (w.heap.size + 1) #[.int .i64 ci, .int .i64 ii, .slice A6 d.length k6] rfl rfl 24 #[.int .i64 0, .int .i64 0, .slice none 0 0] HZ6.out (by kernel_rfl) rfl (by simp [Value.oneCell']) ?_)
    refine bodyPost_ret (results_cell_row3 Try.results55 _ _ (w.heap.size + 1) 24 #[.int .i64 ci, .int .i64 ii, .slice A6 d.length k6] (0, 0) _ (.bool true) (.int .i64 0) rfl rfl rfl (setRow_heap _ _ _ _ _ _ HZ6.out) Try.underlying24 rfl (by kernel_rfl)) rfl ?_
    rw [HF.out, HR6.out]
    exact ⟨A6, k6, rfl, own_setRow HO6.out HNE.out _, HE6.out.rowY (by have := HBL.out; omega) _, HB6.out.rowY (by omega) _⟩
set_option maxRecDepth 100000 in
set_option maxHeartbeats 4000000 in
theorem ptake_d2 (B T : Nat) (nm : ByteArray) (st : Int) (nt : ByteArray) (us : List SV) (code id : Int) (A : Option Addr) (n c : Nat) (xs : List Int) (hn : xs.length = n) (hn' : n ≤ 140737488355000) (hnc : n ≤ c) (hb : Byt xs) (w : World) (hx : Cells w A (nums .u8 xs)) (hE : EPeer w B T nm st nt us) (mc mi : Int) (mv ms : List Int) (hrd : rdE code id xs = (⟨mc, mi, 4, mv, ms⟩, 0)) (z2 : mc ≠ 2) (z3 : mc ≠ 3) (z4 : mc ≠ 4) (u : SV) (hq : findF (strB nm) ms us = some u) (hu : u.d.toList = []) :
    Calls Try.prog 55 #[.pointer (some ⟨B, 0, none⟩), .agg #[.int .i64 code, .int .i64 id, .slice A n c]] w (PtTells B T nm us (peerR nm us st nt code id xs) w) := by
  have HQ := Lib.hid hq
  have HU := Lib.hid hu
  clear hq hu
  have Hn := Lib.hid hn
  have HX := Lib.hid hx
  have HB := Lib.hid hb
  have HE := Lib.hid hE
  have HBL : Hid (B < w.heap.size) := at_lt hE.b
  have HRD := Lib.hid hrd
  have HRA := Lib.hid (rdE_all hb hrd)
  have HF0 : Hid (peerR nm us st nt code id xs = if 0 ≠ 0 then noR st nt 0 else peerM nm us st nt ⟨mc, mi, 4, mv, ms⟩) := by unfold Hid peerR; rw [hrd]; try rfl
  clear hE hn hx hb hrd
  go_enter Try.func55, Try.ntmps55
  go_upto_region 1 with fail
  obtain ⟨wb, hwb⟩ : ∃ wb, (w.alloc (.cells #[.int .i64 code, .int .i64 id, .slice A n c] 24)).alloc zPk = wb := ⟨_, rfl⟩
  have HP : Hid (wb.heap[w.heap.size]? = some (.cells #[.int .i64 code, .int .i64 id, .slice A n c] 24 (0, 0))) := by unfold Hid; rw [← hwb]; exact at_ext (at_new w _)
  have HZ : Hid (wb.heap[w.heap.size + 1]? = some zPk) := by unfold Hid; rw [← hwb]; exact at_new1 (by simp)
  have HW : Hid (Ext w wb) := by unfold Hid; rw [← hwb]; exact inferInstance
  rw [hwb]
  clear hwb
  have p0 : wb.cell? ⟨w.heap.size, 0, none⟩ = some (.int .i64 code) := at_cell HP.out 0
  have p1 : wb.cell? ⟨w.heap.size, 1, none⟩ = some (.int .i64 id) := at_cell HP.out 1
  have p2 : wb.cell? ⟨w.heap.size, 2, none⟩ = some (.slice A n c) := at_cell HP.out 2
  go_wp2_with fail
  refine (eread_any code id A n c xs Hn.out hn' hnc HB.out _ (HX.out.ext (h := HW.out))).mono ?_
  rintro e w1 ⟨A1, k1, rfl, ho1, hb1⟩
  rw [HRD.out] at ho1 ⊢
  simp only at ho1 ⊢
  obtain ⟨tb, htb⟩ : ∃ tb, strOfNums ms = tb := ⟨_, rfl⟩
  have HTB := Lib.hid htb
  rw [htb]
  have X1 : Hid (Ext wb w1) := ⟨hb1⟩
  have HO1 := Lib.hid ho1
  have pp : ∀ o, (w1.alloc o).heap[w1.heap.size]? = some o := at_new w1
  clear ho1 hb1 p0 p1 p2 htb
  go_upto_region 4 with
    (refine wpList_store_row_o rfl 52 (.tmp 7) (.tmp 19) rfl w1.heap.size #[.int .i64 mc, .int .i64 mi, .int .i64 4, .slice A1 mv.length k1, .string tb] rfl rfl 52 zMs (pp _) (by kernel_rfl) rfl (by simp [Value.oneCell']) ?_
     intro w2 hr2 ho2 hz2 hb2
     have HM2 := Lib.hid hr2
     have X12 : Hid (Ext w1 w2) := ⟨hb2 _ _ (inferInstance : Ext w1 (w1.alloc _)).out (Nat.le_refl _)⟩
     clear hr2 ho2 hz2 hb2 pp)
  have X2 : Hid (Ext w w2) := Ext.trans_ HW.out (Ext.trans_ X1.out X12.out)
  have HZ2 : Hid (w2.heap[w.heap.size + 1]? = some zPk) := at_ext (h := Ext.trans_ X1.out X12.out) HZ.out
  have HE2 := Lib.hid (HE.out.ext (h := X2.out))
  have HO2 := Lib.hid (own_ext (h := X12.out) HO1.out)
  have m0 : w2.cell? ⟨w1.heap.size, 0, none⟩ = some (.int .i64 mc) := at_cell HM2.out 0
  have m1 : w2.cell? ⟨w1.heap.size, 1, none⟩ = some (.int .i64 mi) := at_cell HM2.out 1
  have m2 : w2.cell? ⟨w1.heap.size, 2, none⟩ = some (.int .i64 4) := at_cell HM2.out 2
  have m4 : w2.cell? ⟨w1.heap.size, 4, none⟩ = some (.string tb) := at_cell HM2.out 4
  have s2 : w2.cell? ⟨B, 2, none⟩ = some (.int .i64 st) := at_cell HE2.out.b 2
  have g2 : w2.frozen? ⟨B, 2, none⟩ = false := at_frozen HE2.out.b 2
  have HF1 : Hid (peerR nm us st nt code id xs = peerM nm us st nt ⟨mc, mi, 4, mv, ms⟩) := HF0.out.trans (if_neg (by simp))
  have b2 : (mc == 2) = false := by simpa using z2
  have b3 : (mc == 3) = false := by simpa using z3
  have b4 : (mc == 4) = false := by simpa using z4
  have HF : Hid (peerR nm us st nt code id xs = sayR st nt mi 3 [0] []) := HF1.out.trans (by unfold peerM; rw [if_neg z2, if_neg (fun h => z3 h.1), if_neg z3, if_neg z4, if_neg (by simp), if_neg (by simp), if_pos rfl, if_pos (by unfold secW; simp only [HQ.out]; exact strB_none.2 HU.out)])
  clear z2 z3 z4 HF0 HF1
  have HTS : Hid (strB tb = ms) := by unfold Hid; rw [← HTB.out]; exact strB_str _ HRA.out.2.1
  have HT := Lib.hid HE2.out.t.t
  have hl := HE.out.l
  have n1 : w2.cell? ⟨B, 1, none⟩ = some (.pointer (some ⟨T, 0, none⟩)) := at_cell HE2.out.b 1
  have n0 : w2.cell? ⟨B, 0, none⟩ = some (.string nm) := at_cell HE2.out.b 0
  go_upto_region 24 with fail
  refine wp_region_held_drew (S := Ext w2) (by kernel_rfl) (by exact inferInstance) (fun hHeld => ?_)
  refine wpAnyH_take (i := 0) (v := ?_) rfl (by kernel_rfl) (by kernel_rfl) (by kernel_rfl) (fun _ _ _ h => h) (Yields.yieldsIf (Or.inl ⟨by rfl, ?_⟩)) hHeld ?_
  rotate_left
  · intro W
    go_simp
    try with_reducible rfl
  simp only [List.getElem_toArray, List.getElem_cons_succ, List.getElem_cons_zero, Act.put, List.setIfInBounds_toArray, List.set_cons_zero, List.set_cons_succ]
  refine wpAnyH_take (i := 1) (v := ?_) rfl (by kernel_rfl) (by kernel_rfl) (by kernel_rfl) (fun _ _ _ h => h) (Yields.yieldsIf (Or.inl ⟨by rfl, ?_⟩)) hHeld ?_
  rotate_left
  · intro W
    go_simp
    try with_reducible rfl
  simp only [List.getElem_toArray, List.getElem_cons_succ, List.getElem_cons_zero, Act.put, List.setIfInBounds_toArray, List.set_cons_zero, List.set_cons_succ]
  refine wpAnyH_take (i := 2) (v := ?_) rfl (by kernel_rfl) (by kernel_rfl) (by kernel_rfl) (fun _ _ _ h => h) (Yields.yieldsIf (Or.inl ⟨by rfl, ?_⟩)) hHeld ?_
  rotate_left
  · intro W
    go_simp
    try with_reducible rfl
  simp only [List.getElem_toArray, List.getElem_cons_succ, List.getElem_cons_zero, Act.put, List.setIfInBounds_toArray, List.set_cons_zero, List.set_cons_succ]
  refine wpAnyH_take (i := 3) (v := ?_) rfl (by kernel_rfl) (by kernel_rfl) (by kernel_rfl) (fun _ _ _ h => h) (Or.inl ⟨by rfl, ?_⟩) hHeld ?_
  rotate_left
  · intro W hW
    have hcl := (cell_ext (h := hW) n1)
    go_simp
    try with_reducible rfl
  simp only [List.getElem_toArray, List.getElem_cons_succ, List.getElem_cons_zero, Act.put, List.setIfInBounds_toArray, List.set_cons_zero, List.set_cons_succ]
  refine wpAnyH_take (i := 4) (v := ?_) rfl (by kernel_rfl) (by kernel_rfl) (by kernel_rfl) (fun _ _ _ h => h) (Yields.yieldsIf (Or.inl ⟨by rfl, ?_⟩)) hHeld ?_
  rotate_left
  · intro W
    go_simp
    try with_reducible rfl
  simp only [List.getElem_toArray, List.getElem_cons_succ, List.getElem_cons_zero, Act.put, List.setIfInBounds_toArray, List.set_cons_zero, List.set_cons_succ]
  refine wpAnyH_take (i := 5) (v := ?_) rfl (by kernel_rfl) (by kernel_rfl) (by kernel_rfl) (fun _ _ _ h => h) (Yields.yieldsIf (Or.inl ⟨by rfl, ?_⟩)) hHeld ?_
  rotate_left
  · intro W
    go_simp
    try with_reducible rfl
  simp only [List.getElem_toArray, List.getElem_cons_succ, List.getElem_cons_zero, Act.put, List.setIfInBounds_toArray, List.set_cons_zero, List.set_cons_succ]
  refine wpAnyH_take (i := 6) (v := ?_) rfl (by kernel_rfl) (by kernel_rfl) (by kernel_rfl) (fun _ _ _ h => h) (Yields.yieldsIf (Or.inl ⟨by rfl, ?_⟩)) hHeld ?_
  rotate_left
  · intro W
    go_simp
    try with_reducible rfl
  simp only [List.getElem_toArray, List.getElem_cons_succ, List.getElem_cons_zero, Act.put, List.setIfInBounds_toArray, List.set_cons_zero, List.set_cons_succ]
  refine wpAnyH_take (i := 7) (v := ?_) rfl (by kernel_rfl) (by kernel_rfl) (by kernel_rfl) (fun _ _ _ h => h) (Or.inl ⟨by rfl, ?_⟩) hHeld ?_
  rotate_left
  · intro W hW
    have hcl := (cell_ext (h := hW) n0)
    go_simp
    try with_reducible rfl
  simp only [List.getElem_toArray, List.getElem_cons_succ, List.getElem_cons_zero, Act.put, List.setIfInBounds_toArray, List.set_cons_zero, List.set_cons_succ]
  refine wpAnyH_take (i := 8) (v := ?_) rfl (by kernel_rfl) (by kernel_rfl) (by kernel_rfl) (fun _ _ _ h => h) (Yields.yieldsIf (Or.inl ⟨by rfl, ?_⟩)) hHeld ?_
  rotate_left
  · intro W
    go_simp
    try with_reducible rfl
  simp only [List.getElem_toArray, List.getElem_cons_succ, List.getElem_cons_zero, Act.put, List.setIfInBounds_toArray, List.set_cons_zero, List.set_cons_succ]
  refine wpAnyH_take (i := 9) (v := ?_) rfl (by kernel_rfl) (by kernel_rfl) (by kernel_rfl) (fun _ _ _ h => h) (Or.inl ⟨by rfl, ?_⟩) hHeld ?_
  rotate_left
  · intro W hW
    have hcl := (cell_ext (h := hW) m4)
    go_simp
    try with_reducible rfl
  simp only [List.getElem_toArray, List.getElem_cons_succ, List.getElem_cons_zero, Act.put, List.setIfInBounds_toArray, List.set_cons_zero, List.set_cons_succ]
  refine wpAnyH_ready (rs := [10, 14]) (by kernel_rfl) (by simp) ?_
  refine AllReadyH.cons rfl (fun K hK => ?_) (AllReadyH.cons rfl (fun K hK => ?_) AllReadyH.nil)
  · clear n0 n1
    refine step_call_w (by rfl) Try.func92 (by kernel_rfl) (by kernel_rfl) #[.tmp 97, .tmp 101, .tmp 103] #[123, 9, 9] rfl #[.pointer (some ⟨T, 0, none⟩), .string nm, .string tb] ?hv (tfind_any T us nm tb w2.drew hl (by exact TabAt.ext (h := (inferInstance : Ext w2 w2.drew)) HT.out)) ?_
    case hv => go_simp
    rintro e y2 ⟨hb2, he⟩
    rw [HTS.out, HQ.out] at he
    simp only at he
    obtain ⟨⟨vc, vss, vd, vA, vn, vk, vx⟩, rfl, hd, hn2, ho2⟩ := he; have HVD : Hid (vd = u.d) := (show vd = u.d from congrArg (fun x => x.2.1) hd); simp only [SV.val]; clear hd hn2 ho2; have e2b : (vd.toList == []) = true := by rw [HVD.out, HU.out]; rfl
    refine ⟨_, rfl, ?_⟩
    have Y2 : Hid (Ext w2 y2) := Ext.trans_ (inferInstance : Ext w2 w2.drew) ⟨hb2⟩
    clear hHeld hb2
    refine hK.out _ _ Y2.out (fun hHeld => ?_)
    clear hK K
    try simp only [List.getElem_toArray, List.getElem_cons_succ, List.getElem_cons_zero, Act.put, List.setIfInBounds_toArray, List.set_cons_zero, List.set_cons_succ]
    refine wpAnyH_take (i := 11) (v := ?_) rfl (by kernel_rfl) (by kernel_rfl) (by kernel_rfl) (fun _ _ _ h => h) (Yields.yieldsIf (Or.inl ⟨by rfl, ?_⟩)) hHeld ?_
    rotate_left
    · intro W
      go_simp
      try with_reducible rfl
    simp only [List.getElem_toArray, List.getElem_cons_succ, List.getElem_cons_zero, Act.put, List.setIfInBounds_toArray, List.set_cons_zero, List.set_cons_succ]
    refine wpAnyH_take (i := 12) (v := ?_) rfl (by kernel_rfl) (by kernel_rfl) (by kernel_rfl) (fun _ _ _ h => h) (Yields.yieldsIf (Or.inl ⟨by rfl, ?_⟩)) hHeld ?_
    rotate_left
    · intro W
      go_simp
      try with_reducible rfl
    simp only [List.getElem_toArray, List.getElem_cons_succ, List.getElem_cons_zero, Act.put, List.setIfInBounds_toArray, List.set_cons_zero, List.set_cons_succ]
    refine wpAnyH_take (i := 13) (v := ?_) rfl (by kernel_rfl) (by kernel_rfl) (by kernel_rfl) (fun _ _ _ h => h) (Yields.yieldsIf (Or.inl ⟨by rfl, ?_⟩)) hHeld ?_
    rotate_left
    · intro W
      go_simp
      try with_reducible rfl
    simp only [List.getElem_toArray, List.getElem_cons_succ, List.getElem_cons_zero, Act.put, List.setIfInBounds_toArray, List.set_cons_zero, List.set_cons_succ]
    refine wpAnyH_ready (rs := [14]) (by kernel_rfl) (by simp) ?_
    refine AllReadyH.cons rfl (fun K hK => ?_) AllReadyH.nil
    rw [if_pos (by rfl)]
    unfold Oper.wp
    go_simp
    obtain ⟨y3, hy3⟩ : ∃ y3, y2.alloc (.cells zSec 44) = y3 := ⟨_, rfl⟩
    have HS3 : Hid (y3.heap[y2.heap.size]? = some (.cells zSec 44 (0, 0))) := by unfold Hid; rw [← hy3]; exact at_new y2 _
    have Y3 : Hid (Ext w2 y3) := Ext.trans_ Y2.out (by rw [← hy3]; exact inferInstance)
    simp only [hy3]
    clear hHeld hy3
    refine hK.out _ _ Y3.out (fun hHeld => ?_)
    clear hK K
    try simp only [List.getElem_toArray, List.getElem_cons_succ, List.getElem_cons_zero, Act.put, List.setIfInBounds_toArray, List.set_cons_zero, List.set_cons_succ]
    refine wpAnyH_ready (rs := [15]) (by kernel_rfl) (by simp) ?_
    refine AllReadyH.cons rfl (fun K hK => ?_) AllReadyH.nil
    refine step_store_row (by rfl) 44 (.tmp 9) (.tmp 105) rfl y2.heap.size #[.string vc, .string vss, .string vd, .slice vA vn vk] rfl rfl 44 zSec HS3.out (by kernel_rfl) rfl (by simp [Value.oneCell']) ?_
    clear hHeld
    refine hK.out _ _ (Ext.setRow_ Y3.out Y2.out.out.size _) (fun hHeld => ?_)
    clear hK K
    try simp only [List.getElem_toArray, List.getElem_cons_succ, List.getElem_cons_zero, Act.put, List.setIfInBounds_toArray, List.set_cons_zero, List.set_cons_succ]
    refine wpAnyH_take (i := 16) (v := ?_) rfl (by kernel_rfl) (by kernel_rfl) (by kernel_rfl) (fun _ _ _ h => h) (Yields.yieldsIf (Or.inl ⟨by rfl, ?_⟩)) hHeld ?_
    rotate_left
    · intro W
      go_simp
      try with_reducible rfl
    simp only [List.getElem_toArray, List.getElem_cons_succ, List.getElem_cons_zero, Act.put, List.setIfInBounds_toArray, List.set_cons_zero, List.set_cons_succ]
    refine wpAnyH_done (by kernel_rfl) ?_ _
    clear hHeld
    obtain ⟨gS, hgS⟩ : ∃ gS, y2.heap.size = gS := ⟨_, rfl⟩
    obtain ⟨w3, hw3⟩ : ∃ w3, y3.setRow y2.heap.size #[.string vc, .string vss, .string vd, .slice vA vn vk] = w3 := ⟨_, rfl⟩
    have X23 : Hid (Ext w2 w3) := by unfold Hid; rw [← hw3]; exact Ext.setRow_ Y3.out Y2.out.out.size _
    have HS4 : Hid (w3.heap[gS]? = some (.cells #[.string vc, .string vss, .string vd, .slice vA vn vk] 44 (0, 0))) := by unfold Hid; rw [← hw3, ← hgS]; exact setRow_heap _ _ _ _ _ _ HS3.out
    rw [hw3, hgS]
    have X3 : Hid (Ext w w3) := Ext.trans_ X2.out X23.out
    have HE3 := Lib.hid (HE2.out.ext (h := X23.out))
    have HZ3 : Hid (w3.heap[w.heap.size + 1]? = some zPk) := at_ext (h := X23.out) HZ2.out
    have HM3 := Lib.hid (at_ext (h := X23.out) HM2.out)
    have HO3 := Lib.hid (own_ext (h := X23.out) HO2.out)
    have HB3 : Hid (But w w3 B) := But.of (h := X3.out)
    clear hw3 hgS m0 m1 m2 m4 s2 g2
    have m1 : w3.cell? ⟨w1.heap.size, 1, none⟩ = some (.int .i64 mi) := at_cell HM3.out 1
    have m3 : w3.cell? ⟨w1.heap.size, 3, none⟩ = some (.slice A1 mv.length k1) := at_cell HM3.out 3
    have k2 : w3.cell? ⟨gS, 2, none⟩ = some (.string vd) := at_cell HS4.out 2
    go_wp2_with fail
    refine (say_any mi 3 (some ⟨w3.heap.size, 0, none⟩) 1 1 [0] noB rfl (by omega) (by decide) _ (cells_box w3 _ rfl (nums .u8 [0]) _)).mono ?_
    rintro e w6 ⟨A6, k6, rfl, ho6, hb6⟩
    obtain ⟨⟨⟨ci, ii⟩, d, er⟩, hwr⟩ : ∃ F, wrE 2 mi 3 [0] (strB noB) = F := ⟨_, rfl⟩
    have HR6 : Hid (sayR st nt mi 3 [0] [] = ⟨st, nt, ci, ii, d, true, 0⟩) := by
      have h : wrE 2 mi 3 [0] [] = ((ci, ii), d, er) := hwr
      unfold Hid sayR
      rw [h]
    rw [hwr] at ho6 ⊢
    simp only at ho6 ⊢
    have X36 : Hid (Ext w3 w6) := Ext.trans_ (inferInstance : Ext w3 (w3.alloc _)) ⟨hb6⟩
    have HZ6 : Hid (w6.heap[w.heap.size + 1]? = some zPk) := at_ext (h := X36.out) HZ3.out
    have HO6 := Lib.hid (own_weaken ho6 (Nat.le_trans HB3.out.size (by simp)))
    have HE6 := Lib.hid (HE3.out.ext (h := X36.out))
    have HB6 : Hid (But w w6 B) := HB3.out.step X36.out
    have HNE : Hid ((Value.slice A6 d.length k6).ownBlock ≠ some (w.heap.size + 1)) := own_type_ne HO6.out HZ6.out (by decide)
    clear ho6 hwr
    clear hb6
    go_wp2_with
      (refine wpList_store_row rfl 24 (.tmp 4) (.tmp 115) rfl (w.heap.size + 1) #[.int .i64 ci, .int .i64 ii, .slice A6 d.length k6] rfl rfl 24 #[.int .i64 0, .int .i64 0, .slice none 0 0] HZ6.out (by kernel_rfl) rfl (by simp [Value.oneCell']) ?_)
    refine bodyPost_ret (results_cell_row3 Try.results55 _ _ (w.heap.size + 1) 24 #[.int .i64 ci, .int .i64 ii, .slice A6 d.length k6] (0, 0) _ (.bool true) (.int .i64 0) rfl rfl rfl (setRow_heap _ _ _ _ _ _ HZ6.out) Try.underlying24 rfl (by kernel_rfl)) rfl ?_
    rw [HF.out, HR6.out]
    exact ⟨A6, k6, rfl, own_setRow HO6.out HNE.out _, HE6.out.rowY (by have := HBL.out; omega) _, HB6.out.rowY (by omega) _⟩
  · clear n0 n1
    rw [if_pos (by rfl)]
    unfold Oper.wp
    go_simp
    obtain ⟨y1, hy1⟩ : ∃ y1, (w2.alloc (.cells zSec 44)).drew = y1 := ⟨_, rfl⟩
    have HS1 : Hid (y1.heap[w2.heap.size]? = some (.cells zSec 44 (0, 0))) := by unfold Hid; rw [← hy1]; exact at_new w2 _
    have Y1 : Hid (Ext w2 y1) := by unfold Hid; rw [← hy1]; exact inferInstance
    simp only [hy1]
    clear hHeld hy1
    refine hK.out _ _ Y1.out (fun hHeld => ?_)
    clear hK K
    try simp only [List.getElem_toArray, List.getElem_cons_succ, List.getElem_cons_zero, Act.put, List.setIfInBounds_toArray, List.set_cons_zero, List.set_cons_succ]
    refine wpAnyH_ready (rs := [10]) (by kernel_rfl) (by simp) ?_
    refine AllReadyH.cons rfl (fun K hK => ?_) AllReadyH.nil
    refine step_call_w (by rfl) Try.func92 (by kernel_rfl) (by kernel_rfl) #[.tmp 97, .tmp 101, .tmp 103] #[123, 9, 9] rfl #[.pointer (some ⟨T, 0, none⟩), .string nm, .string tb] ?hv (tfind_any T us nm tb y1 hl (by exact TabAt.ext (h := Y1.out) HT.out)) ?_
    case hv => go_simp
    rintro e y2 ⟨hb2, he⟩
    rw [HTS.out, HQ.out] at he
    simp only at he
    obtain ⟨⟨vc, vss, vd, vA, vn, vk, vx⟩, rfl, hd, hn2, ho2⟩ := he; have HVD : Hid (vd = u.d) := (show vd = u.d from congrArg (fun x => x.2.1) hd); simp only [SV.val]; clear hd hn2 ho2; have e2b : (vd.toList == []) = true := by rw [HVD.out, HU.out]; rfl
    refine ⟨_, rfl, ?_⟩
    obtain ⟨y3, rfl⟩ : ∃ y3, y3 = y2 := ⟨y2, rfl⟩
    have Y13 : Hid (Ext y1 y3) := ⟨hb2⟩
    have Y3 : Hid (Ext w2 y3) := Ext.trans_ Y1.out Y13.out
    have HS3 : Hid (y3.heap[w2.heap.size]? = some (.cells zSec 44 (0, 0))) := at_ext (h := Y13.out) HS1.out
    clear hHeld hb2
    refine hK.out _ _ Y3.out (fun hHeld => ?_)
    clear hK K
    try simp only [List.getElem_toArray, List.getElem_cons_succ, List.getElem_cons_zero, Act.put, List.setIfInBounds_toArray, List.set_cons_zero, List.set_cons_succ]
    refine wpAnyH_take (i := 11) (v := ?_) rfl (by kernel_rfl) (by kernel_rfl) (by kernel_rfl) (fun _ _ _ h => h) (Yields.yieldsIf (Or.inl ⟨by rfl, ?_⟩)) hHeld ?_
    rotate_left
    · intro W
      go_simp
      try with_reducible rfl
    simp only [List.getElem_toArray, List.getElem_cons_succ, List.getElem_cons_zero, Act.put, List.setIfInBounds_toArray, List.set_cons_zero, List.set_cons_succ]
    refine wpAnyH_take (i := 12) (v := ?_) rfl (by kernel_rfl) (by kernel_rfl) (by kernel_rfl) (fun _ _ _ h => h) (Yields.yieldsIf (Or.inl ⟨by rfl, ?_⟩)) hHeld ?_
    rotate_left
    · intro W
      go_simp
      try with_reducible rfl
    simp only [List.getElem_toArray, List.getElem_cons_succ, List.getElem_cons_zero, Act.put, List.setIfInBounds_toArray, List.set_cons_zero, List.set_cons_succ]
    refine wpAnyH_take (i := 13) (v := ?_) rfl (by kernel_rfl) (by kernel_rfl) (by kernel_rfl) (fun _ _ _ h => h) (Yields.yieldsIf (Or.inl ⟨by rfl, ?_⟩)) hHeld ?_
    rotate_left
    · intro W
      go_simp
      try with_reducible rfl
    simp only [List.getElem_toArray, List.getElem_cons_succ, List.getElem_cons_zero, Act.put, List.setIfInBounds_toArray, List.set_cons_zero, List.set_cons_succ]
    refine wpAnyH_ready (rs := [15]) (by kernel_rfl) (by simp) ?_
    refine AllReadyH.cons rfl (fun K hK => ?_) AllReadyH.nil
    refine step_store_row (by rfl) 44 (.tmp 9) (.tmp 105) rfl w2.heap.size #[.string vc, .string vss, .string vd, .slice vA vn vk] rfl rfl 44 zSec HS3.out (by kernel_rfl) rfl (by simp [Value.oneCell']) ?_
    clear hHeld
    refine hK.out _ _ (Ext.setRow_ Y3.out (Nat.le_refl _) _) (fun hHeld => ?_)
    clear hK K
    try simp only [List.getElem_toArray, List.getElem_cons_succ, List.getElem_cons_zero, Act.put, List.setIfInBounds_toArray, List.set_cons_zero, List.set_cons_succ]
    refine wpAnyH_take (i := 16) (v := ?_) rfl (by kernel_rfl) (by kernel_rfl) (by kernel_rfl) (fun _ _ _ h => h) (Yields.yieldsIf (Or.inl ⟨by rfl, ?_⟩)) hHeld ?_
    rotate_left
    · intro W
      go_simp
      try with_reducible rfl
    simp only [List.getElem_toArray, List.getElem_cons_succ, List.getElem_cons_zero, Act.put, List.setIfInBounds_toArray, List.set_cons_zero, List.set_cons_succ]
    refine wpAnyH_done (by kernel_rfl) ?_ _
    clear hHeld
    obtain ⟨gS, hgS⟩ : ∃ gS, w2.heap.size = gS := ⟨_, rfl⟩
    obtain ⟨w3, hw3⟩ : ∃ w3, y3.setRow w2.heap.size #[.string vc, .string vss, .string vd, .slice vA vn vk] = w3 := ⟨_, rfl⟩
    have X23 : Hid (Ext w2 w3) := by unfold Hid; rw [← hw3]; exact Ext.setRow_ Y3.out (Nat.le_refl _) _
    have HS4 : Hid (w3.heap[gS]? = some (.cells #[.string vc, .string vss, .string vd, .slice vA vn vk] 44 (0, 0))) := by unfold Hid; rw [← hw3, ← hgS]; exact setRow_heap _ _ _ _ _ _ HS3.out
    rw [hw3, hgS]
    have X3 : Hid (Ext w w3) := Ext.trans_ X2.out X23.out
    have HE3 := Lib.hid (HE2.out.ext (h := X23.out))
    have HZ3 : Hid (w3.heap[w.heap.size + 1]? = some zPk) := at_ext (h := X23.out) HZ2.out
    have HM3 := Lib.hid (at_ext (h := X23.out) HM2.out)
    have HO3 := Lib.hid (own_ext (h := X23.out) HO2.out)
    have HB3 : Hid (But w w3 B) := But.of (h := X3.out)
    clear hw3 hgS m0 m1 m2 m4 s2 g2
    have m1 : w3.cell? ⟨w1.heap.size, 1, none⟩ = some (.int .i64 mi) := at_cell HM3.out 1
    have m3 : w3.cell? ⟨w1.heap.size, 3, none⟩ = some (.slice A1 mv.length k1) := at_cell HM3.out 3
    have k2 : w3.cell? ⟨gS, 2, none⟩ = some (.string vd) := at_cell HS4.out 2
    go_wp2_with fail
    refine (say_any mi 3 (some ⟨w3.heap.size, 0, none⟩) 1 1 [0] noB rfl (by omega) (by decide) _ (cells_box w3 _ rfl (nums .u8 [0]) _)).mono ?_
    rintro e w6 ⟨A6, k6, rfl, ho6, hb6⟩
    obtain ⟨⟨⟨ci, ii⟩, d, er⟩, hwr⟩ : ∃ F, wrE 2 mi 3 [0] (strB noB) = F := ⟨_, rfl⟩
    have HR6 : Hid (sayR st nt mi 3 [0] [] = ⟨st, nt, ci, ii, d, true, 0⟩) := by
      have h : wrE 2 mi 3 [0] [] = ((ci, ii), d, er) := hwr
      unfold Hid sayR
      rw [h]
    rw [hwr] at ho6 ⊢
    simp only at ho6 ⊢
    have X36 : Hid (Ext w3 w6) := Ext.trans_ (inferInstance : Ext w3 (w3.alloc _)) ⟨hb6⟩
    have HZ6 : Hid (w6.heap[w.heap.size + 1]? = some zPk) := at_ext (h := X36.out) HZ3.out
    have HO6 := Lib.hid (own_weaken ho6 (Nat.le_trans HB3.out.size (by simp)))
    have HE6 := Lib.hid (HE3.out.ext (h := X36.out))
    have HB6 : Hid (But w w6 B) := HB3.out.step X36.out
    have HNE : Hid ((Value.slice A6 d.length k6).ownBlock ≠ some (w.heap.size + 1)) := own_type_ne HO6.out HZ6.out (by decide)
    clear ho6 hwr
    clear hb6
    go_wp2_with
      (refine wpList_store_row rfl 24 (.tmp 4) (.tmp 115) rfl (w.heap.size + 1) #[.int .i64 ci, .int .i64 ii, .slice A6 d.length k6] rfl rfl 24 #[.int .i64 0, .int .i64 0, .slice none 0 0] HZ6.out (by kernel_rfl) rfl (by simp [Value.oneCell']) ?_)
    refine bodyPost_ret (results_cell_row3 Try.results55 _ _ (w.heap.size + 1) 24 #[.int .i64 ci, .int .i64 ii, .slice A6 d.length k6] (0, 0) _ (.bool true) (.int .i64 0) rfl rfl rfl (setRow_heap _ _ _ _ _ _ HZ6.out) Try.underlying24 rfl (by kernel_rfl)) rfl ?_
    rw [HF.out, HR6.out]
    exact ⟨A6, k6, rfl, own_setRow HO6.out HNE.out _, HE6.out.rowY (by have := HBL.out; omega) _, HB6.out.rowY (by omega) _⟩
end Go.Proofs.Ytobddmpiljknpaa
