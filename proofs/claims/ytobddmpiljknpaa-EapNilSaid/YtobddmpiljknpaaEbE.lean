/-
  eap: Server.prove. Conditions: sizes.
-/
import Derived.Test.YtobddmpiljknpaaEbD
namespace Go.Proofs.Ytobddmpiljknpaa
open Go.RowKit
set_option linter.unusedVariables false
set_option linter.unusedSimpArgs false

def proveS (nm : ByteArray) (us : List SV) (s : SS) (v : List Int) : SS :=
  { askS { s with st := 2 } 4 v (strB nm) with due := respD (askS { s with st := 2 } 4 v (strB nm)).id (secW (strB (askS { s with st := 2 } 4 v (strB nm)).says) (strB nm) us) v }
set_option maxRecDepth 100000 in
set_option maxHeartbeats 4000000 in
theorem prove4_any (B T : Nat) (nm : ByteArray) (tries : Int) (s : SS) (us : List SV) (LA : Option Addr) (lk : Nat) (V : Option Addr) (n c : Nat) (v : List Int) (hn : v.length = n) (hn' : n ≤ 255) (hbv : Byt v) (w : World) (hx : Cells w V (nums .u8 v)) (hfv : ∀ ad, V = some ad → ad.block ≠ B ∧ ad.block < w.heap.size) (hE : ESrv w B T nm tries s us LA lk) :
    Calls Try.prog 82 #[.pointer (some ⟨B, 0, none⟩), .slice V n c] w (AskTells B T nm tries (proveS nm us s v) us w) := by
  have Hn := Lib.hid hn
  have HX := Lib.hid hx
  have HFV := Lib.hid hfv
  have HBV := Lib.hid hbv
  have HE := Lib.hid hE
  have HBL : Hid (B < w.heap.size) := at_lt hE.b
  clear hE hn hx hfv hbv
  go_enter Try.func82, Try.ntmps82
  go_upto_region 1 with fail
  obtain ⟨wb, hwb⟩ : ∃ wb, w.alloc zPk = wb := ⟨_, rfl⟩
  have HZ : Hid (wb.heap[w.heap.size]? = some zPk) := by unfold Hid; rw [← hwb]; exact at_new w _
  have HW : Hid (Ext w wb) := by unfold Hid; rw [← hwb]; exact inferInstance
  rw [hwb]
  clear hwb
  have HE0 : Hid (ESrv wb B T nm tries s us LA lk) := HE.out.ext (h := HW.out)
  have s4 : wb.cell? ⟨B, 4, none⟩ = some (.int .i64 s.st) := at_cell HE0.out.b 4
  have f4 : wb.frozen? ⟨B, 4, none⟩ = false := at_frozen HE0.out.b 4
  go_upto_region 2 with fail
  obtain ⟨w1, hw1⟩ : ∃ w1, wb.setCell ⟨B, 4, none⟩ (.int .i64 2) = w1 := ⟨_, rfl⟩
  have HE1 : Hid (ESrv w1 B T nm tries { s with st := 2 } us LA lk) := by
    unfold Hid
    rw [← hw1]
    exact HE0.out.turn (s' := { s with st := 2 }) (by rw [at_set HE0.out.b 4 _, srv_st]) (fun j hj => by rw [Below.heap_setCell _ _ _ _ hj]) rfl rfl HE0.out.id (by simp [World.setCell])
  have HB1 : Hid (But w w1 B) := by unfold Hid; rw [← hw1]; exact (But.of (h := HW.out)).set 4 _
  have HZ1 : Hid (w1.heap[w.heap.size]? = some zPk) := by
    unfold Hid
    have hb := HBL.out
    have hj : w.heap.size ≠ B := by omega
    rw [← hw1, Below.heap_setCell _ _ _ _ hj]
    exact HZ.out
  have HS1 : Hid (wb.heap.size ≤ w1.heap.size) := by unfold Hid; rw [← hw1]; simp [World.setCell]
  rw [hw1]
  clear hw1 s4 f4
  have s0 : w1.cell? ⟨B, 0, none⟩ = some (.string nm) := at_cell HE1.out.b 0
  have HSZ : Hid (w.heap.size < w1.heap.size) := Nat.lt_of_lt_of_le (at_lt HZ.out) HS1.out
  go_wp2_with fail
  refine (ask4_any B T nm tries { s with st := 2 } us LA lk 4 V n c v nm Hn.out (by omega) (by have := HE.out.nml; omega) _ (HB1.out.cells HX.out HFV.out) (fun ad ha => ⟨(HFV.out ad ha).1, Nat.lt_trans (HFV.out ad ha).2 HSZ.out⟩) HE1.out).mono ?_
  rintro e w2 ⟨A2, k2, LA', lk', rfl, ho2, hE2, hb2, hl2⟩
  obtain ⟨s2, hs2⟩ : ∃ s2, askS { s with st := 2 } 4 v (strB nm) = s2 := ⟨_, rfl⟩
  have HSS : Hid (proveS nm us s v = { s2 with due := respD s2.id (secW (strB s2.says) (strB nm) us) v }) := by unfold Hid proveS; rw [hs2]
  rw [hs2] at ho2 hE2 ⊢
  have HZ2 : Hid (w2.heap[w.heap.size]? = some zPk) := hb2.at (by have := HBL.out; omega) HZ1.out
  have HO2 := Lib.hid ho2
  have HE2 := Lib.hid hE2
  have HL2 := Lib.hid hl2
  have HB2 : Hid (But w w2 B) := HB1.out.trans hb2
  have HV2 : Hid (Cells w2 V (nums .u8 v)) := HB2.out.cells HX.out HFV.out
  have pp : ∀ o, (w2.alloc o).heap[w2.heap.size]? = some o := at_new w2
  clear ho2 hE2 hb2 hl2 hs2 s0
  go_upto_region 3 with
    (refine wpList_store_row_o rfl 24 (.tmp 5) (.tmp 16) rfl w2.heap.size #[.int .i64 s2.lc, .int .i64 s2.li, .slice A2 s2.ld.length k2] rfl rfl 24 #[.int .i64 0, .int .i64 0, .slice none 0 0] (pp _) (by kernel_rfl) rfl (by simp [Value.oneCell']) ?_
     intro w3 hr3 ho3 hz3 hb3
     have HR3 := Lib.hid hr3
     have X23 : Hid (Ext w2 w3) := ⟨hb3 _ _ (inferInstance : Ext w2 (w2.alloc _)).out (Nat.le_refl _)⟩
     clear hr3 ho3 hz3 hb3 pp)
  have HE3 := Lib.hid (HE2.out.ext (h := X23.out))
  have HV3 : Hid (Cells w3 V (nums .u8 v)) := HV2.out.ext (h := X23.out)
  refine wp_region_held_drew (S := fun W => W.cell? ⟨B, 5, none⟩ = some (.int .i64 s2.id)) (by kernel_rfl) (at_cell HE3.out.b 5) (fun hHeld => ?_)
  refine wpAnyH_take (i := 0) (v := ?_) rfl (by kernel_rfl) (by kernel_rfl) (by kernel_rfl) (fun _ _ _ h => h) (Yields.yieldsIf (Or.inl ⟨by rfl, ?_⟩)) hHeld ?_
  rotate_left
  · intro W
    go_simp
    try with_reducible rfl
  simp only [List.getElem_toArray, List.getElem_cons_succ, List.getElem_cons_zero, Act.put, List.setIfInBounds_toArray, List.set_cons_zero, List.set_cons_succ]
  refine wpAnyH_take (i := 1) (v := ?_) rfl (by kernel_rfl) (by kernel_rfl) (by kernel_rfl) (fun _ _ _ h => h) (Yields.yieldsIf (Or.inl ⟨by rfl, ?_⟩)) hHeld ?_
  rotate_left
  · intro W
    go_simp
    try with_reducible rfl
  simp only [List.getElem_toArray, List.getElem_cons_succ, List.getElem_cons_zero, Act.put, List.setIfInBounds_toArray, List.set_cons_zero, List.set_cons_succ]
  refine wpAnyH_take (i := 2) (v := ?_) rfl (by kernel_rfl) (by kernel_rfl) (by kernel_rfl) (fun _ _ _ h => h) (Yields.yieldsIf (Or.inl ⟨by rfl, ?_⟩)) hHeld ?_
  rotate_left
  · intro W
    go_simp
    try with_reducible rfl
  simp only [List.getElem_toArray, List.getElem_cons_succ, List.getElem_cons_zero, Act.put, List.setIfInBounds_toArray, List.set_cons_zero, List.set_cons_succ]
  refine wpAnyH_take (i := 3) (v := ?_) rfl (by kernel_rfl) (by kernel_rfl) (by kernel_rfl) (fun _ _ _ h => h) (Yields.yieldsIf (Or.inl ⟨by rfl, ?_⟩)) hHeld ?_
  rotate_left
  · intro W
    go_simp
    try with_reducible rfl
  simp only [List.getElem_toArray, List.getElem_cons_succ, List.getElem_cons_zero, Act.put, List.setIfInBounds_toArray, List.set_cons_zero, List.set_cons_succ]
  refine wpAnyH_take (i := 4) (v := ?_) rfl (by kernel_rfl) (by kernel_rfl) (by kernel_rfl) (fun _ _ _ h => h) (Or.inl ⟨by rfl, ?_⟩) hHeld ?_
  rotate_left
  · intro W hW
    have hcl := hW
    go_simp
    try with_reducible rfl
  simp only [List.getElem_toArray, List.getElem_cons_succ, List.getElem_cons_zero, Act.put, List.setIfInBounds_toArray, List.set_cons_zero, List.set_cons_succ]
  refine wpAnyH_take (i := 5) (v := ?_) rfl (by kernel_rfl) (by kernel_rfl) (by kernel_rfl) (fun _ _ _ h => h) (Yields.yieldsIf (Or.inl ⟨by rfl, ?_⟩)) hHeld ?_
  rotate_left
  · intro W
    go_simp
    try with_reducible rfl
  simp only [List.getElem_toArray, List.getElem_cons_succ, List.getElem_cons_zero, Act.put, List.setIfInBounds_toArray, List.set_cons_zero, List.set_cons_succ]
  refine wpAnyH_take (i := 7) (v := ?_) rfl (by kernel_rfl) (by kernel_rfl) (by kernel_rfl) (fun _ _ _ h => h) (Yields.yieldsIf (Or.inl ⟨by rfl, ?_⟩)) hHeld ?_
  rotate_left
  · intro W
    go_simp
    try with_reducible rfl
  simp only [List.getElem_toArray, List.getElem_cons_succ, List.getElem_cons_zero, Act.put, List.setIfInBounds_toArray, List.set_cons_zero, List.set_cons_succ]
  refine wpAnyH_ready (rs := [6]) (by kernel_rfl) (by simp) ?_
  refine AllReadyH.cons rfl (fun K hK => ?_) AllReadyH.nil
  refine step_call_w (by rfl) Try.func80 (by kernel_rfl) (by kernel_rfl) #[.tmp 23] #[63] rfl #[.pointer (some ⟨B, 0, none⟩)] ?hv (word4_any B T nm tries s2 us LA' lk' _ (HE3.out.ext (w' := w3.drew))) ?_
  case hv => go_simp
  rintro e w4 ⟨rfl, hb4⟩
  refine ⟨_, rfl, ?_⟩
  have X34 : Hid (Ext w3 w4) := Ext.trans_ (inferInstance : Ext w3 w3.drew) ⟨hb4⟩
  have HE4 := Lib.hid (HE3.out.ext (h := X34.out))
  have HWS : Hid ((secW (strB s2.says) (strB nm) us).size ≤ 64) := secW_size
  obtain ⟨wd, hwd⟩ : ∃ wd, secW (strB s2.says) (strB nm) us = wd := ⟨_, rfl⟩
  rw [hwd] at HSS HWS ⊢
  clear hHeld hb4 hwd
  refine hK.out _ _ (at_cell HE4.out.b 5) (fun hHeld => ?_)
  clear hK K
  try simp only [List.getElem_toArray, List.getElem_cons_succ, List.getElem_cons_zero, Act.put, List.setIfInBounds_toArray, List.set_cons_zero, List.set_cons_succ]
  refine wpAnyH_ready (rs := [8]) (by kernel_rfl) (by simp) ?_
  refine AllReadyH.cons rfl (fun K hK => ?_) AllReadyH.nil
  refine step_call_w (by rfl) Try.func44 (by kernel_rfl) (by kernel_rfl) #[.tmp 22, .tmp 24, .tmp 25] #[3, 9, 22] rfl #[.int .i64 s2.id, .string wd, .slice V n c] ?hv (resp4_any s2.id wd V n c v Hn.out (by have := HWS.out; omega) HBV.out _ (HV3.out.ext (h := X34.out))) ?_
  case hv => go_simp
  rintro e w5 ⟨rfl, hb5⟩
  refine ⟨_, rfl, ?_⟩
  have X45 : Hid (Ext w4 w5) := ⟨hb5⟩
  have HE5 := Lib.hid (HE4.out.ext (h := X45.out))
  have hl := respD_len s2.id wd v
  obtain ⟨ds, hds⟩ : ∃ ds, respD s2.id wd v = ds := ⟨_, rfl⟩
  rw [hds] at HSS hl ⊢
  have HI16 : Hid ((Try.prog.info? 47).map (·.size) = some (nums .u8 ds).toArray.size) := by
    unfold Hid
    rw [List.size_toArray, nums_length, hl]
    kernel_rfl
  have HDL := Lib.hid hl
  have HDB : Hid (Byt ds) := by unfold Hid; rw [← hds]; exact respD_byt
  have HSZR : Hid ((srvRow nm T tries s2 LA' lk').size = 27) := srv_size _ _ _ _ _ _ HE5.out.due
  clear hHeld hb5 hds hl
  refine hK.out _ _ (at_cell HE5.out.b 5) (fun hHeld => ?_)
  clear hK K
  try simp only [List.getElem_toArray, List.getElem_cons_succ, List.getElem_cons_zero, Act.put, List.setIfInBounds_toArray, List.set_cons_zero, List.set_cons_succ]
  refine wpAnyH_take (i := 9) (v := ?_) rfl (by kernel_rfl) (by kernel_rfl) (by kernel_rfl) (fun _ _ _ h => h) (Yields.yieldsIf (Or.inl ⟨by rfl, ?_⟩)) hHeld ?_
  rotate_left
  · intro W
    go_simp
    try with_reducible rfl
  simp only [List.getElem_toArray, List.getElem_cons_succ, List.getElem_cons_zero, Act.put, List.setIfInBounds_toArray, List.set_cons_zero, List.set_cons_succ]
  refine wpAnyH_take (i := 10) (v := ?_) rfl (by kernel_rfl) (by kernel_rfl) (by kernel_rfl) (fun _ _ _ h => h) (Yields.yieldsIf (Or.inl ⟨by rfl, ?_⟩)) hHeld ?_
  rotate_left
  · intro W
    go_simp
    try with_reducible rfl
  simp only [List.getElem_toArray, List.getElem_cons_succ, List.getElem_cons_zero, Act.put, List.setIfInBounds_toArray, List.set_cons_zero, List.set_cons_succ]
  refine wpAnyH_take (i := 11) (v := ?_) rfl (by kernel_rfl) (by kernel_rfl) (by kernel_rfl) (fun _ _ _ h => h) (Yields.yieldsIf (Or.inl ⟨by rfl, ?_⟩)) hHeld ?_
  rotate_left
  · intro W
    go_simp
    try with_reducible rfl
  simp only [List.getElem_toArray, List.getElem_cons_succ, List.getElem_cons_zero, Act.put, List.setIfInBounds_toArray, List.set_cons_zero, List.set_cons_succ]
  refine wpAnyH_take (i := 12) (v := ?_) rfl (by kernel_rfl) (by kernel_rfl) (by kernel_rfl) (fun _ _ _ h => h) (Yields.yieldsIf (Or.inl ⟨by rfl, ?_⟩)) hHeld ?_
  rotate_left
  · intro W
    go_simp
    try with_reducible rfl
  simp only [List.getElem_toArray, List.getElem_cons_succ, List.getElem_cons_zero, Act.put, List.setIfInBounds_toArray, List.set_cons_zero, List.set_cons_succ]
  refine wpAnyH_take (i := 13) (v := ?_) rfl (by kernel_rfl) (by kernel_rfl) (by kernel_rfl) (fun _ _ _ h => h) (Yields.yieldsIf (Or.inl ⟨by rfl, ?_⟩)) hHeld ?_
  rotate_left
  · intro W
    go_simp
    try with_reducible rfl
  simp only [List.getElem_toArray, List.getElem_cons_succ, List.getElem_cons_zero, Act.put, List.setIfInBounds_toArray, List.set_cons_zero, List.set_cons_succ]
  refine wpAnyH_ready (rs := [14]) (by kernel_rfl) (by simp) ?_
  refine AllReadyH.cons rfl (fun K hK => ?_) AllReadyH.nil
  refine step_store_sub (by rfl) 47 (.tmp 30) (.tmp 27) rfl B 11 (nums .u8 ds).toArray (srvRow nm T tries { s2 with due := ds } LA' lk') rfl rfl 127 _ HE5.out.b HI16.out (by rw [HSZR.out, List.size_toArray, nums_length, HDL.out]; omega) (one_all _ _) (srv_due _ _ _ _ _ _ _ HE5.out.due HDL.out) ?_
  have HB5 : Hid (But w w5 B) := HB2.out.step (Ext.trans_ X23.out (Ext.trans_ X34.out X45.out))
  have X25 : Hid (Ext w2 w5) := Ext.trans_ X23.out (Ext.trans_ X34.out X45.out)
  obtain ⟨w6, hw6⟩ : ∃ w6, w5.setRow B (srvRow nm T tries { s2 with due := ds } LA' lk') = w6 := ⟨_, rfl⟩
  have HE6 : Hid (ESrv w6 B T nm tries { s2 with due := ds } us LA' lk') := by
    unfold Hid
    refine ⟨by rw [← hw6]; exact setRow_heap _ _ _ _ _ _ HE5.out.b, HE5.out.t.move fun j hj => by rw [← hw6]; exact setRow_other _ _ _ _ (Nat.ne_of_lt hj), HE5.out.l, HDL.out, HDB.out, HE5.out.id, ?_, fun ad ha => ⟨(HE5.out.far ad ha).1, by rw [← hw6]; simpa using (HE5.out.far ad ha).2⟩, HE5.out.ll, HE5.out.nml, by rw [← hw6]; exact own_setRow HE5.out.own (own_type_ne HE5.out.own HE5.out.b (by decide)) _⟩
    rw [← hw6]
    exact cells_setRow HE5.out.last (fun ad ha => (HE5.out.far ad ha).1) _
  have HNB : Hid ((Value.slice A2 s2.ld.length k2).ownBlock ≠ some B) := own_type_ne HO2.out HE2.out.b (by decide)
  have HO6 : Hid (w6.ownsRow w1.heap.size 5 1 (.slice A2 s2.ld.length k2) s2.ld.length (nums .u8 s2.ld)) := by unfold Hid; rw [← hw6]; exact own_setRow (own_ext (h := X25.out) HO2.out) HNB.out _
  have HZ6 : Hid (w6.heap[w.heap.size]? = some zPk) := by unfold Hid; rw [← hw6]; exact (setRow_other _ _ _ _ (by have := HBL.out; omega)).trans (at_ext (h := X25.out) HZ2.out)
  have HR6 : Hid (w6.heap[w2.heap.size]? = some (.cells #[.int .i64 s2.lc, .int .i64 s2.li, .slice A2 s2.ld.length k2] 24 (0, 0))) := by unfold Hid; rw [← hw6]; exact (setRow_other _ _ _ _ (by have := at_lt HE2.out.b; omega)).trans (at_ext (h := Ext.trans_ X34.out X45.out) HR3.out)
  have HB6 : Hid (But w w6 B) := by unfold Hid; rw [← hw6]; exact HB5.out.setRow_ _
  rw [hw6]
  clear hHeld hw6
  refine hK.out _ _ (at_cell HE6.out.b 5) (fun hHeld => ?_)
  clear hK K
  refine wpAnyH_done (by kernel_rfl) ?_ _
  clear hHeld
  have HNE : Hid ((Value.slice A2 s2.ld.length k2).ownBlock ≠ some w.heap.size) := own_type_ne HO6.out HZ6.out (by decide)
  go_wp2_with
    (first
     | (refine wpList_load_row rfl 24 (.tmp 5) rfl w2.heap.size rfl 24 #[.int .i64 s2.lc, .int .i64 s2.li, .slice A2 s2.ld.length k2] (0, 0) _ HR6.out Try.underlying24 rfl (by kernel_rfl) ?_)
     | (refine wpList_store_row rfl 24 (.tmp 4) (.tmp 31) rfl w.heap.size #[.int .i64 s2.lc, .int .i64 s2.li, .slice A2 s2.ld.length k2] rfl rfl 24 #[.int .i64 0, .int .i64 0, .slice none 0 0] HZ6.out (by kernel_rfl) rfl (by simp [Value.oneCell']) ?_))
  refine bodyPost_ret (results_cell_row1 Try.results82 _ _ w.heap.size 24 #[.int .i64 s2.lc, .int .i64 s2.li, .slice A2 s2.ld.length k2] (0, 0) _ rfl (setRow_heap _ _ _ _ _ _ HZ6.out) Try.underlying24 rfl (by kernel_rfl)) rfl ?_
  rw [HSS.out]
  have hsz := HSZ.out
  refine ⟨A2, k2, LA', lk', rfl, own_weaken (own_setRow HO6.out HNE.out _) HB1.out.size, HE6.out.rowY HBL.out (fun ad ha => ?_) _, HB6.out.rowY (Nat.le_refl _) _, fun ad ha => ?_⟩
  · have := HL2.out ad ha
    omega
  · have := HL2.out ad ha
    omega
end Go.Proofs.Ytobddmpiljknpaa
