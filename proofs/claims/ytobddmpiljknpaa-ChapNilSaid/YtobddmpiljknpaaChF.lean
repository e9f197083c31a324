/-
  chap.Answer, Holds. Conditions: sizes.
-/
import Derived.Test.YtobddmpiljknpaaChE
import Derived.Test.YtobddmpiljknpaaChM
namespace Go.Proofs.Ytobddmpiljknpaa
open Go.RowKit
set_option linter.unusedVariables false
set_option linter.unusedSimpArgs false

/-- Whose name is asked for. -/
def rmF (said rm : ByteArray) : ByteArray := if strB rm = [] then said else rm
def anF (code id : Int) (xs : List Int) (nm rm : ByteArray) (us : List SV) : (Int × Int) × List Int × Int :=
  if code ≠ 1 then ((0, 0), [], 90) else if (rdF code id xs).2 ≠ 0 then ((0, 0), [], (rdF code id xs).2) else if nameF (strB nm) = false then ((0, 0), [], 60)
  else if strB (secW (strB nm) (strB (rmF (strOfNums (rdF code id xs).1.2) rm)) us) = [] then ((0, 0), [], 5)
  else mkF 2 id (respD id (secW (strB nm) (strB (rmF (strOfNums (rdF code id xs).1.2) rm)) us) (rdF code id xs).1.1) (strB nm)
theorem cells_row {w : World} {g : Nat} {xs : List Value} {t : TypeId} (h : w.heap[g]? = some (.cells xs.toArray t (0, 0))) : Cells w (some ⟨g, 0, none⟩) xs := by
  intro _
  refine ⟨_, rfl, fun j u hu => ?_⟩
  rw [add_plain]
  refine (at_cell h j).trans ?_
  simpa using hu
set_option maxRecDepth 100000 in
set_option maxHeartbeats 8000000 in
theorem canswer_any (code id : Int) (A : Option Addr) (n c : Nat) (xs : List Int) (nm rm : ByteArray) (LA : Option Addr) (ln lc : Nat) (us : List SV) (hn : xs.length = n) (hn' : n ≤ 140737488355200) (hb : Byt xs) (hnm : nm.size ≤ 140737488355328) (hln : us.length = ln) (hln' : ln ≤ 17592186044416) (w : World) (hx : Cells w A (nums .u8 xs)) (hs : SecsAt w LA us) :
    Calls Try.prog 25 #[.agg #[.int .i64 code, .int .i64 id, .slice A n c], .string nm, .string rm, .slice LA ln lc] w (ReplyTells (anF code id xs nm rm us) w) := by
  have Hn := Lib.hid hn
  have HX := Lib.hid hx
  have HB := Lib.hid hb
  have HLN := Lib.hid hln
  have HS := Lib.hid hs
  clear hn hx hb hln hs
  go_enter Try.func25, Try.ntmps25
  go_upto_region 1 with fail
  obtain ⟨wb, hwb⟩ : ∃ wb, (w.alloc (.cells #[.int .i64 code, .int .i64 id, .slice A n c] 24)).alloc zPk = wb := ⟨_, rfl⟩
  have HP : Hid (wb.heap[w.heap.size]? = some (.cells #[.int .i64 code, .int .i64 id, .slice A n c] 24 (0, 0))) := by unfold Hid; rw [← hwb]; exact at_ext (at_new w _)
  have HZ : Hid (wb.heap[w.heap.size + 1]? = some zPk) := by unfold Hid; rw [← hwb]; exact at_new1 (by simp)
  have HW : Hid (Ext w wb) := by unfold Hid; rw [← hwb]; exact inferInstance
  have HLB : Hid (w.heap.size + 1 < wb.heap.size) := at_lt HZ.out
  have Sb : Step wb w := ⟨HW.out.out⟩
  rw [hwb]
  clear hwb
  have p0 : wb.cell? ⟨w.heap.size, 0, none⟩ = some (.int .i64 code) := at_cell HP.out 0
  have p1 : wb.cell? ⟨w.heap.size, 1, none⟩ = some (.int .i64 id) := at_cell HP.out 1
  have p2 : wb.cell? ⟨w.heap.size, 2, none⟩ = some (.slice A n c) := at_cell HP.out 2
  by_cases c1 : code = 1
  case neg =>
    have HF : Hid (anF code id xs nm rm us = ((0, 0), [], 90)) := if_pos c1
    have c1' : (code != 1) = true := by simpa using c1
    clear c1
    go_wp2_with
      (refine wpList_store_row rfl 24 (.tmp 8) (.tmp 19) rfl (w.heap.size + 1) #[.int .i64 0, .int .i64 0, .slice none 0 0] rfl rfl 24 #[.int .i64 0, .int .i64 0, .slice none 0 0] HZ.out (by kernel_rfl) rfl (by simp [Value.oneCell']) ?_)
    refine bodyPost_ret (results_cell_row2 Try.results25 _ _ (w.heap.size + 1) 24 #[.int .i64 0, .int .i64 0, .slice none 0 0] (0, 0) _ (.int .i64 90) rfl rfl (setRow_heap _ _ _ _ _ _ HZ.out) Try.underlying24 rfl (by kernel_rfl)) rfl ?_
    rw [HF.out]
    exact ⟨none, 0, rfl, own_nil _ _ _ _, (Ext.setRow_ HW.out (by omega) _).out⟩
  subst c1
  obtain ⟨⟨⟨p, r⟩, e0⟩, hr⟩ : ∃ F, rdF 1 id xs = F := ⟨_, rfl⟩
  have HR := Lib.hid hr
  have HPR := Lib.hid (rdF_all HB.out hr)
  clear hr
  go_wp2_with fail
  refine (read_any 1 id A n c xs Hn.out hn' HB.out _ (by exact HX.out.ext)).mono ?_
  rintro e w1 ⟨A1, k1, rfl, ho1, hb1⟩
  rw [HR.out] at ho1 ⊢
  simp only at ho1 ⊢
  have S1 : Step w1 wb := ⟨hb1⟩
  have HO1 := Lib.hid ho1
  have X1 : Hid (Ext w w1) := (inferInstance : Ext w w1)
  have HZ1 : Hid (w1.heap[w.heap.size + 1]? = some zPk) := at_ext HZ.out
  obtain ⟨sd, hsd⟩ : ∃ sd, strOfNums r = sd := ⟨_, rfl⟩
  simp only [hsd]
  have HSD := Lib.hid hsd
  clear ho1 hb1 p0 p1 p2 hsd
  by_cases z0 : e0 = 0
  case neg =>
    have HF : Hid (anF 1 id xs nm rm us = ((0, 0), [], e0)) := by unfold Hid anF; rw [if_neg (by simp), HR.out, if_pos z0]
    have z0' : (e0 != 0) = true := by simpa using z0
    clear z0
    go_wp2_with
      (refine wpList_store_row rfl 24 (.tmp 8) (.tmp 29) rfl (w.heap.size + 1) #[.int .i64 0, .int .i64 0, .slice none 0 0] rfl rfl 24 #[.int .i64 0, .int .i64 0, .slice none 0 0] HZ1.out (by kernel_rfl) rfl (by simp [Value.oneCell']) ?_)
    refine bodyPost_ret (results_cell_row2 Try.results25 _ _ (w.heap.size + 1) 24 #[.int .i64 0, .int .i64 0, .slice none 0 0] (0, 0) _ (.int .i64 e0) rfl rfl (setRow_heap _ _ _ _ _ _ HZ1.out) Try.underlying24 rfl (by kernel_rfl)) rfl ?_
    rw [HF.out]
    exact ⟨none, 0, rfl, own_nil _ _ _ _, (Ext.setRow_ X1.out (by omega) _).out⟩
  subst z0
  go_wp2_with fail
  refine (named_any nm hnm _).mono ?_
  rintro e w2 ⟨rfl, rfl⟩
  rcases hnn : nameF (strB nm) with _ | _
  · have HF : Hid (anF 1 id xs nm rm us = ((0, 0), [], 60)) := by unfold Hid anF; rw [if_neg (by simp), HR.out, if_neg (by simp), if_pos hnn]
    clear hnn
    go_wp2_with
      (refine wpList_store_row rfl 24 (.tmp 8) (.tmp 35) rfl (w.heap.size + 1) #[.int .i64 0, .int .i64 0, .slice none 0 0] rfl rfl 24 #[.int .i64 0, .int .i64 0, .slice none 0 0] HZ1.out (by kernel_rfl) rfl (by simp [Value.oneCell']) ?_)
    refine bodyPost_ret (results_cell_row2 Try.results25 _ _ (w.heap.size + 1) 24 #[.int .i64 0, .int .i64 0, .slice none 0 0] (0, 0) _ (.int .i64 60) rfl rfl (setRow_heap _ _ _ _ _ _ HZ1.out) Try.underlying24 rfl (by kernel_rfl)) rfl ?_
    rw [HF.out]
    exact ⟨none, 0, rfl, own_nil _ _ _ _, (Ext.setRow_ X1.out (by omega) _).out⟩
  have HFN : Hid (∀ R, (if strB (secW (strB nm) (strB (rmF sd rm)) us) = [] then ((0, 0), [], 5)
      else mkF 2 id (respD id (secW (strB nm) (strB (rmF sd rm)) us) p) (strB nm)) = R → anF 1 id xs nm rm us = R) := by
    intro R h
    unfold anF
    rw [if_neg (by simp), HR.out, if_neg (by simp), if_neg (by simp [hnn])]
    simp only [HSD.out]
    exact h
  clear hnn
  obtain ⟨rB, hrB⟩ : ∃ rB, rmF sd rm = rB := ⟨_, rfl⟩
  have HRM := Lib.hid hrB
  rw [hrB] at HFN
  clear hrB
  go_upto_if 37 with fail
  obtain ⟨z1, hz1⟩ : ∃ z1, rm.toList.isEmpty = z1 := ⟨_, rfl⟩
  rw [hz1]
  have HZ1' := Lib.hid hz1
  clear hz1
  go_cut [2] (fun s wx => s = .string rB ∧ w1 = wx)
  case first =>
    cases z1
    · have HV : Hid (rB = rm) := by
        unfold Hid
        rw [← HRM.out]
        refine if_neg (fun h => ?_)
        have h2 : rm.toList = [] := by unfold strB at h; rw [Lib.toList_data]; exact List.map_eq_nil_iff.1 h
        have h3 := HZ1'.out
        rw [h2] at h3
        cases h3
      go_wp2_with fail
      go_meet
      case rel => exact ⟨by rw [HV.out], rfl⟩
    · have HV : Hid (rB = sd) := by
        unfold Hid
        rw [← HRM.out]
        have h2 : rm.toList = [] := List.isEmpty_iff.1 HZ1'.out
        exact if_pos (by unfold strB; rw [← Lib.toList_data, h2]; rfl)
      go_wp2_with fail
      go_meet
      case rel => exact ⟨by rw [HV.out], rfl⟩
  case' rest =>
    obtain ⟨rfl, rfl⟩ := hcut
  go_wp2_with fail
  refine (word_any LA ln lc us nm rB HLN.out hln' _ (by exact HS.out.ext)).mono ?_
  rintro e w3 ⟨rfl, hb3⟩
  have S3 : Step w3 w1 := ⟨hb3⟩
  have X3 : Hid (Ext w w3) := (inferInstance : Ext w w3)
  have HZ3 : Hid (w3.heap[w.heap.size + 1]? = some zPk) := at_ext HZ1.out
  have HWS : Hid ((secW (strB nm) (strB rB) us).size ≤ 64) := secW_size
  obtain ⟨wd, hwd⟩ : ∃ wd, secW (strB nm) (strB rB) us = wd := ⟨_, rfl⟩
  rw [hwd] at HFN HWS ⊢
  clear hwd hb3
  by_cases e2 : wd.toList = []
  · have HF : Hid (anF 1 id xs nm rm us = ((0, 0), [], 5)) := HFN.out _ (if_pos (by unfold strB; rw [← Lib.toList_data, e2]; rfl))
    go_wp2_with
      (refine wpList_store_row rfl 24 (.tmp 8) (.tmp 45) rfl (w.heap.size + 1) #[.int .i64 0, .int .i64 0, .slice none 0 0] rfl rfl 24 #[.int .i64 0, .int .i64 0, .slice none 0 0] HZ3.out (by kernel_rfl) rfl (by simp [Value.oneCell']) ?_)
    refine bodyPost_ret (results_cell_row2 Try.results25 _ _ (w.heap.size + 1) 24 #[.int .i64 0, .int .i64 0, .slice none 0 0] (0, 0) _ (.int .i64 5) rfl rfl (setRow_heap _ _ _ _ _ _ HZ3.out) Try.underlying24 rfl (by kernel_rfl)) rfl ?_
    rw [HF.out]
    exact ⟨none, 0, rfl, own_nil _ _ _ _, (Ext.setRow_ X3.out (by omega) _).out⟩
  have e2b : (wd.toList == []) = false := by simpa using e2
  have e2c : wd.toList.isEmpty = false := by rw [List.isEmpty_eq_false_iff]; exact e2
  have HF : Hid (anF 1 id xs nm rm us = mkF 2 id (respD id wd p) (strB nm)) := HFN.out _ (if_neg (fun h => e2 (by unfold strB at h; rw [Lib.toList_data]; exact List.map_eq_nil_iff.1 h)))
  clear HFN e2
  have p1 : w3.cell? ⟨w.heap.size, 1, none⟩ = some (.int .i64 id) := at_cell (at_ext HP.out) 1
  go_wp2_with fail
  refine (resp4_any id wd A1 p.length k1 p rfl (by have h1 := HWS.out; have h2 := HPR.out.1.2; omega) HPR.out.1.1 _ (own_cells (own_ext HO1.out))).mono ?_
  rintro e w4 ⟨rfl, hb4⟩
  have S4 : Step w4 w3 := ⟨hb4⟩
  have hl := respD_len id wd p
  obtain ⟨ds, hds⟩ : ∃ ds, respD id wd p = ds := ⟨_, rfl⟩
  rw [hds] at HF hl ⊢
  have HI16 : Hid ((Try.prog.info? 47).map (·.size) = some (nums .u8 ds).toArray.size) := by
    unfold Hid
    rw [List.size_toArray, nums_length, hl]
    kernel_rfl
  have HZ16 : Hid ((nums .u8 (List.replicate 16 0)).toArray.size = (nums .u8 ds).toArray.size) := by
    unfold Hid
    rw [List.size_toArray, List.size_toArray, nums_length, nums_length, hl]
    rfl
  have HL := Lib.hid hl
  have pn : ∀ o, (w4.alloc o).heap[w4.heap.size]? = some o := at_new w4
  clear hb4 hl hds p1
  go_upto_region 14 with
    (refine wpList_store_row_o rfl 47 (.tmp 14) (.tmp 52) rfl w4.heap.size (nums .u8 ds).toArray rfl rfl 47 (nums .u8 (List.replicate 16 0)).toArray (pn _) HI16.out HZ16.out (one_all _ _) ?_
     intro w5 hr5 ho5 hz5 hb5
     have HR5 := Lib.hid hr5
     have X45 : Hid (Ext w4 w5) := ⟨hb5 _ _ (inferInstance : Ext w4 (w4.alloc _)).out (Nat.le_refl _)⟩
     clear hr5 ho5 hz5 hb5 pn)
  have X5 : Hid (Ext w w5) := Ext.trans_ (inferInstance : Ext w w4) X45.out
  have HP5 : Hid (w5.heap[w.heap.size]? = some (.cells #[.int .i64 1, .int .i64 id, .slice A n c] 24 (0, 0))) := at_ext (w := w4) (h := X45.out) (at_ext HP.out)
  have HZ5 : Hid (w5.heap[w.heap.size + 1]? = some zPk) := at_ext (w := w4) (h := X45.out) (at_ext HZ3.out)
  obtain ⟨⟨⟨ra, rb⟩, rd, re⟩, hmk⟩ : ∃ F, mkF 2 id ds (strB nm) = F := ⟨_, rfl⟩
  have HMK := Lib.hid hmk
  rw [hmk] at HF
  have HC5 : Hid (Cells w5 (some ⟨w4.heap.size, 0, none⟩) (nums .u8 ds)) := cells_row HR5.out
  clear hmk
  refine wp_region_held_drew (S := fun W => W.heap[w.heap.size]? = some (.cells #[.int .i64 1, .int .i64 id, .slice A n c] 24 (0, 0))) (by kernel_rfl) HP5.out (fun hHeld => ?_)
  refine wpAnyH_take (i := 0) (v := ?_) rfl (by kernel_rfl) (by kernel_rfl) (by kernel_rfl) (fun _ _ _ h => h) (Yields.yieldsIf (Or.inl ⟨by rfl, ?_⟩)) hHeld ?_
  rotate_left
  · intro W
    go_simp
    try with_reducible rfl
  simp only [List.getElem_toArray, List.getElem_cons_succ, List.getElem_cons_zero, Act.put, List.setIfInBounds_toArray, List.set_cons_zero, List.set_cons_succ]
  refine wpAnyH_take (i := 1) (v := ?_) rfl (by kernel_rfl) (by kernel_rfl) (by kernel_rfl) (fun _ _ _ h => h) (Or.inl ⟨by rfl, ?_⟩) hHeld ?_
  rotate_left
  · intro W hW
    have hcl := (at_cell hW 1)
    go_simp
    try with_reducible rfl
  simp only [List.getElem_toArray, List.getElem_cons_succ, List.getElem_cons_zero, Act.put, List.setIfInBounds_toArray, List.set_cons_zero, List.set_cons_succ]
  refine wpAnyH_take (i := 2) (v := ?_) rfl (by kernel_rfl) (by kernel_rfl) (by kernel_rfl) (fun _ _ _ h => h) (Yields.yieldsIf (Or.inl ⟨by rfl, ?_⟩)) hHeld ?_
  rotate_left
  · intro W
    go_simp
    try with_reducible rfl
  simp only [List.getElem_toArray, List.getElem_cons_succ, List.getElem_cons_zero, Act.put, List.setIfInBounds_toArray, List.set_cons_zero, List.set_cons_succ]
  refine wpAnyH_take (i := 3) (v := ?_) rfl (by kernel_rfl) (by kernel_rfl) (by kernel_rfl) (fun _ _ _ h => h) (Yields.yieldsIf (Or.inl ⟨by rfl, ?_⟩)) hHeld ?_
  rotate_left
  · intro W
    go_simp
    try with_reducible rfl
  simp only [List.getElem_toArray, List.getElem_cons_succ, List.getElem_cons_zero, Act.put, List.setIfInBounds_toArray, List.set_cons_zero, List.set_cons_succ]
  refine wpAnyH_ready (rs := [4]) (by kernel_rfl) (by simp) ?_
  refine AllReadyH.cons rfl (fun K hK => ?_) AllReadyH.nil
  refine step_call_w (by rfl) Try.func14 (by kernel_rfl) (by kernel_rfl) #[.const (.int .i64 2), .tmp 55, .tmp 56, .tmp 57] #[3, 3, 22, 9] rfl #[.int .i64 2, .int .i64 id, .slice (some ⟨w4.heap.size, 0, none⟩) 16 16, .string nm] ?hv (make_any 2 id (some ⟨w4.heap.size, 0, none⟩) 16 16 ds nm HL.out hnm (by omega) _ HC5.out.drew) ?_
  case hv => go_simp
  rintro e w6 ⟨A6, c6, rfl, ho6, hb6⟩
  refine ⟨_, rfl, ?_⟩
  rw [HMK.out] at ho6 ⊢
  simp only at ho6 ⊢
  have X6 : Hid (Ext w5 w6) := Ext.trans_ (inferInstance : Ext w5 w5.drew) ⟨hb6⟩
  have HO6 := Lib.hid ho6
  have HP6 : Hid (w6.heap[w.heap.size]? = some (.cells #[.int .i64 1, .int .i64 id, .slice A n c] 24 (0, 0))) := at_ext (h := X6.out) HP5.out
  have HZ6 : Hid (w6.heap[w.heap.size + 1]? = some zPk) := at_ext (h := X6.out) HZ5.out
  have HNE : Hid ((Value.slice A6 rd.length c6).ownBlock ≠ some (w.heap.size + 1)) := by
    intro e
    have h1 := own_base HO6.out _ e
    have h2 := at_lt HZ5.out
    simp at h1
    omega
  clear hb6 ho6 hHeld
  refine hK.out _ _ HP6.out (fun hHeld => ?_)
  clear hK K
  simp only [List.getElem_toArray, List.getElem_cons_succ, List.getElem_cons_zero, Act.put, List.setIfInBounds_toArray, List.set_cons_zero, List.set_cons_succ]
  refine wpAnyH_take (i := 5) (v := ?_) rfl (by kernel_rfl) (by kernel_rfl) (by kernel_rfl) (fun _ _ _ h => h) (Yields.yieldsIf (Or.inl ⟨by rfl, ?_⟩)) hHeld ?_
  rotate_left
  · intro W
    go_simp
    try with_reducible rfl
  simp only [List.getElem_toArray, List.getElem_cons_succ, List.getElem_cons_zero, Act.put, List.setIfInBounds_toArray, List.set_cons_zero, List.set_cons_succ]
  refine wpAnyH_take (i := 6) (v := ?_) rfl (by kernel_rfl) (by kernel_rfl) (by kernel_rfl) (fun _ _ _ h => h) (Yields.yieldsIf (Or.inl ⟨by rfl, ?_⟩)) hHeld ?_
  rotate_left
  · intro W
    go_simp
    try with_reducible rfl
  simp only [List.getElem_toArray, List.getElem_cons_succ, List.getElem_cons_zero, Act.put, List.setIfInBounds_toArray, List.set_cons_zero, List.set_cons_succ]
  refine wpAnyH_ready (rs := [7]) (by kernel_rfl) (by simp) ?_
  refine AllReadyH.cons rfl (fun K hK => ?_) AllReadyH.nil
  refine step_store_row (by rfl) 24 (.tmp 8) (.tmp 59) rfl (w.heap.size + 1) #[.int .i64 ra, .int .i64 rb, .slice A6 rd.length c6] rfl rfl 24 #[.int .i64 0, .int .i64 0, .slice none 0 0] HZ6.out (by kernel_rfl) rfl (by simp [Value.oneCell']) ?_
  clear hHeld
  refine hK.out _ _ ((setRow_other _ _ _ _ (by omega)).trans HP6.out) (fun hHeld => ?_)
  clear hK K
  simp only [List.getElem_toArray, List.getElem_cons_succ, List.getElem_cons_zero, Act.put, List.setIfInBounds_toArray, List.set_cons_zero, List.set_cons_succ]
  refine wpAnyH_take (i := 8) (v := ?_) rfl (by kernel_rfl) (by kernel_rfl) (by kernel_rfl) (fun _ _ _ h => h) (Yields.yieldsIf (Or.inl ⟨by rfl, ?_⟩)) hHeld ?_
  rotate_left
  · intro W
    go_simp
    try with_reducible rfl
  simp only [List.getElem_toArray, List.getElem_cons_succ, List.getElem_cons_zero, Act.put, List.setIfInBounds_toArray, List.set_cons_zero, List.set_cons_succ]
  refine wpAnyH_done (by kernel_rfl) ?_ _
  clear hHeld
  go_wp2
  refine bodyPost_ret (results_cell_row2 Try.results25 _ _ (w.heap.size + 1) 24 #[.int .i64 ra, .int .i64 rb, .slice A6 rd.length c6] (0, 0) _ (.int .i64 re) rfl rfl (setRow_heap _ _ _ _ _ _ HZ6.out) Try.underlying24 rfl (by kernel_rfl)) rfl ?_
  rw [HF.out]
  refine ⟨A6, c6, rfl, ?_, (Ext.setRow_ (Ext.trans_ X5.out X6.out) (by omega) _).out⟩
  exact own_weaken (own_setRow HO6.out HNE.out _) (by simp; exact X5.out.out.size)
end Go.Proofs.Ytobddmpiljknpaa
