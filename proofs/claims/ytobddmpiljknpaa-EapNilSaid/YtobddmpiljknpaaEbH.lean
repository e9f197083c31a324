/-
  eap: Server.Take: a name. Conditions: sizes.
-/
import Derived.Test.YtobddmpiljknpaaEbF
namespace Go.Proofs.Ytobddmpiljknpaa
open Go.RowKit
set_option linter.unusedVariables false
set_option linter.unusedSimpArgs false

set_option maxRecDepth 100000 in
set_option maxHeartbeats 4000000 in
theorem take4_g3 (B T : Nat) (nm : ByteArray) (tries : Int) (s : SS) (us : List SV) (LA : Option Addr) (lk : Nat) (code id : Int) (A : Option Addr) (n c : Nat) (xs : List Int) (V : Option Addr) (vn vc : Nat) (v : List Int) (hn : xs.length = n) (hn' : n ≤ 140737488355000) (hnc : n ≤ c) (hb : Byt xs) (hv : v.length = vn) (hv' : vn ≤ 140737488355328) (hbv : Byt v) (w : World) (hx : Cells w A (nums .u8 xs)) (hxv : Cells w V (nums .u8 v)) (hfv : ∀ ad, V = some ad → ad.block ≠ B ∧ ad.block < w.heap.size) (hE : ESrv w B T nm tries s us LA lk) (mi mt : Int) (mv ms : List Int) (hrd : rdE code id xs = (⟨2, mi, mt, mv, ms⟩, 0)) (hst : s.st = 1) (hmi : mi = s.id) (t1 : mt ≠ 1) :
        Calls Try.prog 41 #[.pointer (some ⟨B, 0, none⟩), .agg #[.int .i64 code, .int .i64 id, .slice A n c], .slice V vn vc] w (TkTells B T nm tries us (takeR nm us s code id xs v) w) := by
  have HMI := Lib.hid hmi
  clear hmi
  have Hn := Lib.hid hn
  have HX := Lib.hid hx
  have HB := Lib.hid hb
  have Hv := Lib.hid hv
  have HXV := Lib.hid hxv
  have HFV := Lib.hid hfv
  have HBV := Lib.hid hbv
  have HE := Lib.hid hE
  have HBL : Hid (B < w.heap.size) := at_lt hE.b
  clear hE hn hx hb hv hxv hfv hbv
  have HRD := Lib.hid hrd
  have HRA := Lib.hid (rdE_all HB.out hrd)
  have HF0 : Hid (takeR nm us s code id xs v = if 0 ≠ 0 then badR s 0 else takeM nm us s ⟨2, mi, mt, mv, ms⟩ v) := by unfold Hid takeR; rw [hrd]; try rfl
  clear hrd
  go_enter Try.func41, Try.ntmps41
  go_upto_region 1 with fail
  obtain ⟨wb, hwb⟩ : ∃ wb, (w.alloc (.cells #[.int .i64 code, .int .i64 id, .slice A n c] 24)).alloc zPk = wb := ⟨_, rfl⟩
  have HP : Hid (wb.heap[w.heap.size]? = some (.cells #[.int .i64 code, .int .i64 id, .slice A n c] 24 (0, 0))) := by unfold Hid; rw [← hwb]; exact at_ext (at_new w _)
  have HZ : Hid (wb.heap[w.heap.size + 1]? = some zPk) := by unfold Hid; rw [← hwb]; exact at_new1 (by simp)
  have HW : Hid (Ext w wb) := by unfold Hid; rw [← hwb]; exact inferInstance
  rw [hwb]
  clear hwb
  have p0 : wb.cell? ⟨w.heap.size, 0, none⟩ = some (.int .i64 code) := at_cell HP.out 0
  have p1 : wb.cell? ⟨w.heap.size, 1, none⟩ = some (.int .i64 id) := at_cell HP.out 1
  have p2 : wb.cell? ⟨w.heap.size, 2, none⟩ = some (.slice A n c) := at_cell HP.out 2
  go_wp2_with fail
  refine (eread_any code id A n c xs Hn.out hn' hnc HB.out _ (HX.out.ext (h := HW.out))).mono ?_
  rintro e w1 ⟨A1, k1, rfl, ho1, hb1⟩
  rw [HRD.out] at ho1 ⊢
  simp only at ho1 ⊢
  obtain ⟨tb, htb⟩ : ∃ tb, strOfNums ms = tb := ⟨_, rfl⟩
  have HTB := Lib.hid htb
  rw [htb]
  have X1 : Hid (Ext wb w1) := ⟨hb1⟩
  have HO1 := Lib.hid ho1
  have pp : ∀ o, (w1.alloc o).heap[w1.heap.size]? = some o := at_new w1
  clear ho1 hb1 p0 p1 p2 htb
  go_upto_region 4 with
    (refine wpList_store_row_o rfl 52 (.tmp 9) (.tmp 17) rfl w1.heap.size #[.int .i64 2, .int .i64 mi, .int .i64 mt, .slice A1 mv.length k1, .string tb] rfl rfl 52 zMs (pp _) (by kernel_rfl) rfl (by simp [Value.oneCell']) ?_
     intro w2 hr2 ho2 hz2 hb2
     have HM2 := Lib.hid hr2
     have X12 : Hid (Ext w1 w2) := ⟨hb2 _ _ (inferInstance : Ext w1 (w1.alloc _)).out (Nat.le_refl _)⟩
     clear hr2 ho2 hz2 hb2 pp)
  have X2 : Hid (Ext w w2) := Ext.trans_ HW.out (Ext.trans_ X1.out X12.out)
  have HZ2 : Hid (w2.heap[w.heap.size + 1]? = some zPk) := at_ext (h := Ext.trans_ X1.out X12.out) HZ.out
  have HE2 := Lib.hid (HE.out.ext (h := X2.out))
  have HO2 := Lib.hid (own_ext (h := X12.out) HO1.out)
  have HF1 : Hid (takeR nm us s code id xs v = takeM nm us s ⟨2, mi, mt, mv, ms⟩ v) := HF0.out.trans (if_neg (by simp))
  clear HF0
  have m0 : w2.cell? ⟨w1.heap.size, 0, none⟩ = some (.int .i64 2) := at_cell HM2.out 0
  have m1 : w2.cell? ⟨w1.heap.size, 1, none⟩ = some (.int .i64 mi) := at_cell HM2.out 1
  have m2 : w2.cell? ⟨w1.heap.size, 2, none⟩ = some (.int .i64 mt) := at_cell HM2.out 2
  have m4 : w2.cell? ⟨w1.heap.size, 4, none⟩ = some (.string tb) := at_cell HM2.out 4
  have HST := Lib.hid hst
  have s4 : w2.cell? ⟨B, 4, none⟩ = some (.int .i64 1) := (at_cell HE2.out.b 4).trans (congrArg (fun x => some (Value.int .i64 x)) HST.out)
  clear hst
  have hmi := HMI.out
  have z3b : (mi != s.id) = false := by simpa using hmi
  have HF2 : Hid (takeR nm us s code id xs v = if s.st = 1 ∧ mt = 1 ∧ nameF ms = true then
    (if strB (secW ms (strB nm) us) ≠ [] ∧ fitsB v.length = true then ⟨proveS nm us (saysS s ms) v, (proveS nm us (saysS s ms) v).lc, (proveS nm us (saysS s ms) v).li, (proveS nm us (saysS s ms) v).ld, true, 0⟩ else endR (saysS s ms) 4 mi)
    else if s.st = 2 ∧ mt = 4 ∧ mv = s.due then endR s 3 mi else endR s 4 mi) := HF1.out.trans (by unfold takeM; rw [if_neg (by simp), if_neg (by simp only [HST.out]; omega), if_neg (by simpa using hmi)]; try rfl)
  clear hmi HF1
  have HF : Hid (takeR nm us s code id xs v = endR s 4 mi) := HF2.out.trans (by rw [if_neg (fun h => t1 h.2.1), if_neg (by rw [HST.out]; omega)])
  have t1b : (mt == 1) = false := by simpa using t1
  clear t1 HF2
  have s5 : w2.cell? ⟨B, 5, none⟩ = some (.int .i64 s.id) := at_cell HE2.out.b 5
  go_upto_region 10 with fail
  refine wp_region_held_drew (S := Ext w2) (by kernel_rfl) (by exact inferInstance) (fun hHeld => ?_)
  refine wpAnyH_take (i := 0) (v := ?_) rfl (by kernel_rfl) (by kernel_rfl) (by kernel_rfl) (fun _ _ _ h => h) (Yields.yieldsIf (Or.inl ⟨by rfl, ?_⟩)) hHeld ?_
  rotate_left
  · intro W
    go_simp
    try with_reducible rfl
  simp only [List.getElem_toArray, List.getElem_cons_succ, List.getElem_cons_zero, Act.put, List.setIfInBounds_toArray, List.set_cons_zero, List.set_cons_succ]
  refine wpAnyH_take (i := 1) (v := ?_) rfl (by kernel_rfl) (by kernel_rfl) (by kernel_rfl) (fun _ _ _ h => h) (Or.inl ⟨by rfl, ?_⟩) hHeld ?_
  rotate_left
  · intro W hW
    have hcl := (cell_ext (h := hW) m1)
    go_simp
    try with_reducible rfl
  simp only [List.getElem_toArray, List.getElem_cons_succ, List.getElem_cons_zero, Act.put, List.setIfInBounds_toArray, List.set_cons_zero, List.set_cons_succ]
  refine wpAnyH_take (i := 2) (v := ?_) rfl (by kernel_rfl) (by kernel_rfl) (by kernel_rfl) (fun _ _ _ h => h) (Yields.yieldsIf (Or.inl ⟨by rfl, ?_⟩)) hHeld ?_
  rotate_left
  · intro W
    go_simp
    try with_reducible rfl
  simp only [List.getElem_toArray, List.getElem_cons_succ, List.getElem_cons_zero, Act.put, List.setIfInBounds_toArray, List.set_cons_zero, List.set_cons_succ]
  refine wpAnyH_take (i := 3) (v := ?_) rfl (by kernel_rfl) (by kernel_rfl) (by kernel_rfl) (fun _ _ _ h => h) (Yields.yieldsIf (Or.inl ⟨by rfl, ?_⟩)) hHeld ?_
  rotate_left
  · intro W
    go_simp
    try with_reducible rfl
  simp only [List.getElem_toArray, List.getElem_cons_succ, List.getElem_cons_zero, Act.put, List.setIfInBounds_toArray, List.set_cons_zero, List.set_cons_succ]
  refine wpAnyH_take (i := 4) (v := ?_) rfl (by kernel_rfl) (by kernel_rfl) (by kernel_rfl) (fun _ _ _ h => h) (Yields.yieldsIf (Or.inl ⟨by rfl, ?_⟩)) hHeld ?_
  rotate_left
  · intro W
    go_simp
    try with_reducible rfl
  simp only [List.getElem_toArray, List.getElem_cons_succ, List.getElem_cons_zero, Act.put, List.setIfInBounds_toArray, List.set_cons_zero, List.set_cons_succ]
  refine wpAnyH_take (i := 5) (v := ?_) rfl (by kernel_rfl) (by kernel_rfl) (by kernel_rfl) (fun _ _ _ h => h) (Or.inl ⟨by rfl, ?_⟩) hHeld ?_
  rotate_left
  · intro W hW
    have hcl := (cell_ext (h := hW) s5)
    go_simp
    try with_reducible rfl
  simp only [List.getElem_toArray, List.getElem_cons_succ, List.getElem_cons_zero, Act.put, List.setIfInBounds_toArray, List.set_cons_zero, List.set_cons_succ]
  refine wpAnyH_take (i := 6) (v := ?_) rfl (by kernel_rfl) (by kernel_rfl) (by kernel_rfl) (fun _ _ _ h => h) (Yields.yieldsIf (Or.inl ⟨by rfl, ?_⟩)) hHeld ?_
  rotate_left
  · intro W
    go_simp
    try with_reducible rfl
  simp only [List.getElem_toArray, List.getElem_cons_succ, List.getElem_cons_zero, Act.put, List.setIfInBounds_toArray, List.set_cons_zero, List.set_cons_succ]
  refine wpAnyH_take (i := 7) (v := ?_) rfl (by kernel_rfl) (by kernel_rfl) (by kernel_rfl) (fun _ _ _ h => h) (Yields.yieldsIf (Or.inl ⟨by rfl, ?_⟩)) hHeld ?_
  rotate_left
  · intro W
    go_simp
    try with_reducible rfl
  simp only [List.getElem_toArray, List.getElem_cons_succ, List.getElem_cons_zero, Act.put, List.setIfInBounds_toArray, List.set_cons_zero, List.set_cons_succ]
  refine wpAnyH_done (by kernel_rfl) ?_ _
  clear hHeld
  obtain ⟨w3, hw3⟩ : ∃ w3, w2.drew = w3 := ⟨_, rfl⟩
  have X23 : Hid (Ext w2 w3) := by unfold Hid; rw [← hw3]; exact inferInstance
  have X3 : Hid (Ext w w3) := Ext.trans_ X2.out X23.out
  have HE3 := Lib.hid (HE2.out.ext (h := X23.out))
  have HZ3 : Hid (w3.heap[w.heap.size + 1]? = some zPk) := at_ext (h := X23.out) HZ2.out
  have HM3 := Lib.hid (at_ext (h := X23.out) HM2.out)
  have HO3 := Lib.hid (own_ext (h := X23.out) HO2.out)
  rw [hw3]
  clear hw3 m0 m1 m2 m4 s4 s5
  have m1 : w3.cell? ⟨w1.heap.size, 1, none⟩ = some (.int .i64 mi) := at_cell HM3.out 1
  have m2 : w3.cell? ⟨w1.heap.size, 2, none⟩ = some (.int .i64 mt) := at_cell HM3.out 2
  have m4 : w3.cell? ⟨w1.heap.size, 4, none⟩ = some (.string tb) := at_cell HM3.out 4
  have s4 : w3.cell? ⟨B, 4, none⟩ = some (.int .i64 1) := (at_cell HE3.out.b 4).trans (congrArg (fun x => some (Value.int .i64 x)) HST.out)
  go_upto_region 16 with fail
  refine wp_region_held_drew (S := Ext w3) (by kernel_rfl) (by exact inferInstance) (fun hHeld => ?_)
  refine wpAnyH_take (i := 0) (v := ?_) rfl (by kernel_rfl) (by kernel_rfl) (by kernel_rfl) (fun _ _ _ h => h) (Yields.yieldsIf (Or.inl ⟨by rfl, ?_⟩)) hHeld ?_
  rotate_left
  · intro W
    go_simp
    try with_reducible rfl
  simp only [List.getElem_toArray, List.getElem_cons_succ, List.getElem_cons_zero, Act.put, List.setIfInBounds_toArray, List.set_cons_zero, List.set_cons_succ]
  refine wpAnyH_take (i := 1) (v := ?_) rfl (by kernel_rfl) (by kernel_rfl) (by kernel_rfl) (fun _ _ _ h => h) (Yields.yieldsIf (Or.inl ⟨by rfl, ?_⟩)) hHeld ?_
  rotate_left
  · intro W
    go_simp
    try with_reducible rfl
  simp only [List.getElem_toArray, List.getElem_cons_succ, List.getElem_cons_zero, Act.put, List.setIfInBounds_toArray, List.set_cons_zero, List.set_cons_succ]
  refine wpAnyH_take (i := 2) (v := ?_) rfl (by kernel_rfl) (by kernel_rfl) (by kernel_rfl) (fun _ _ _ h => h) (Yields.yieldsIf (Or.inl ⟨by rfl, ?_⟩)) hHeld ?_
  rotate_left
  · intro W
    go_simp
    try with_reducible rfl
  simp only [List.getElem_toArray, List.getElem_cons_succ, List.getElem_cons_zero, Act.put, List.setIfInBounds_toArray, List.set_cons_zero, List.set_cons_succ]
  refine wpAnyH_take (i := 3) (v := ?_) rfl (by kernel_rfl) (by kernel_rfl) (by kernel_rfl) (fun _ _ _ h => h) (Or.inl ⟨by rfl, ?_⟩) hHeld ?_
  rotate_left
  · intro W hW
    have hcl := (cell_ext (h := hW) s4)
    go_simp
    try with_reducible rfl
  simp only [List.getElem_toArray, List.getElem_cons_succ, List.getElem_cons_zero, Act.put, List.setIfInBounds_toArray, List.set_cons_zero, List.set_cons_succ]
  refine wpAnyH_take (i := 4) (v := ?_) rfl (by kernel_rfl) (by kernel_rfl) (by kernel_rfl) (fun _ _ _ h => h) (Yields.yieldsIf (Or.inl ⟨by rfl, ?_⟩)) hHeld ?_
  rotate_left
  · intro W
    go_simp
    try with_reducible rfl
  simp only [List.getElem_toArray, List.getElem_cons_succ, List.getElem_cons_zero, Act.put, List.setIfInBounds_toArray, List.set_cons_zero, List.set_cons_succ]
  refine wpAnyH_take (i := 5) (v := ?_) rfl (by kernel_rfl) (by kernel_rfl) (by kernel_rfl) (fun _ _ _ h => h) (Yields.yieldsIf (Or.inl ⟨by rfl, ?_⟩)) hHeld ?_
  rotate_left
  · intro W
    go_simp
    try with_reducible rfl
  simp only [List.getElem_toArray, List.getElem_cons_succ, List.getElem_cons_zero, Act.put, List.setIfInBounds_toArray, List.set_cons_zero, List.set_cons_succ]
  refine wpAnyH_take (i := 6) (v := undef) rfl (by kernel_rfl) (by kernel_rfl) (by kernel_rfl) (fun _ _ _ h => h) (Yields.yieldsIf (Or.inr ⟨by rfl, rfl⟩)) hHeld ?_
  simp only [List.getElem_toArray, List.getElem_cons_succ, List.getElem_cons_zero, Act.put, List.setIfInBounds_toArray, List.set_cons_zero, List.set_cons_succ]
  refine wpAnyH_take (i := 7) (v := undef) rfl (by kernel_rfl) (by kernel_rfl) (by kernel_rfl) (fun _ _ _ h => h) (Yields.yieldsIf (Or.inr ⟨by rfl, rfl⟩)) hHeld ?_
  simp only [List.getElem_toArray, List.getElem_cons_succ, List.getElem_cons_zero, Act.put, List.setIfInBounds_toArray, List.set_cons_zero, List.set_cons_succ]
  refine wpAnyH_take (i := 8) (v := undef) rfl (by kernel_rfl) (by kernel_rfl) (by kernel_rfl) (fun _ _ _ h => h) (Yields.yieldsIf (Or.inr ⟨by rfl, rfl⟩)) hHeld ?_
  simp only [List.getElem_toArray, List.getElem_cons_succ, List.getElem_cons_zero, Act.put, List.setIfInBounds_toArray, List.set_cons_zero, List.set_cons_succ]
  refine wpAnyH_take (i := 9) (v := ?_) rfl (by kernel_rfl) (by kernel_rfl) (by kernel_rfl) (fun _ _ _ h => h) (Yields.yieldsIf (Or.inl ⟨by rfl, ?_⟩)) hHeld ?_
  rotate_left
  · intro W
    go_simp
    try with_reducible rfl
  simp only [List.getElem_toArray, List.getElem_cons_succ, List.getElem_cons_zero, Act.put, List.setIfInBounds_toArray, List.set_cons_zero, List.set_cons_succ]
  refine wpAnyH_take (i := 10) (v := ?_) rfl (by kernel_rfl) (by kernel_rfl) (by kernel_rfl) (fun _ _ _ h => h) (Yields.yieldsIf (Or.inl ⟨by rfl, ?_⟩)) hHeld ?_
  rotate_left
  · intro W
    go_simp
    try with_reducible rfl
  simp only [List.getElem_toArray, List.getElem_cons_succ, List.getElem_cons_zero, Act.put, List.setIfInBounds_toArray, List.set_cons_zero, List.set_cons_succ]
  refine wpAnyH_take (i := 11) (v := undef) rfl (by kernel_rfl) (by kernel_rfl) (by kernel_rfl) (fun _ _ _ h => h) (Yields.yieldsIf (Or.inr ⟨by rfl, rfl⟩)) hHeld ?_
  simp only [List.getElem_toArray, List.getElem_cons_succ, List.getElem_cons_zero, Act.put, List.setIfInBounds_toArray, List.set_cons_zero, List.set_cons_succ]
  refine wpAnyH_take (i := 12) (v := undef) rfl (by kernel_rfl) (by kernel_rfl) (by kernel_rfl) (fun _ _ _ h => h) (Yields.yieldsIf (Or.inr ⟨by rfl, rfl⟩)) hHeld ?_
  simp only [List.getElem_toArray, List.getElem_cons_succ, List.getElem_cons_zero, Act.put, List.setIfInBounds_toArray, List.set_cons_zero, List.set_cons_succ]
  refine wpAnyH_take (i := 13) (v := undef) rfl (by kernel_rfl) (by kernel_rfl) (by kernel_rfl) (fun _ _ _ h => h) (Yields.yieldsIf (Or.inr ⟨by rfl, rfl⟩)) hHeld ?_
  simp only [List.getElem_toArray, List.getElem_cons_succ, List.getElem_cons_zero, Act.put, List.setIfInBounds_toArray, List.set_cons_zero, List.set_cons_succ]
  refine wpAnyH_take (i := 14) (v := undef) rfl (by kernel_rfl) (by kernel_rfl) (by kernel_rfl) (fun _ _ _ h => h) (Yields.yieldsIf (Or.inr ⟨by rfl, rfl⟩)) hHeld ?_
  simp only [List.getElem_toArray, List.getElem_cons_succ, List.getElem_cons_zero, Act.put, List.setIfInBounds_toArray, List.set_cons_zero, List.set_cons_succ]
  refine wpAnyH_take (i := 15) (v := undef) rfl (by kernel_rfl) (by kernel_rfl) (by kernel_rfl) (fun _ _ _ h => h) (Yields.yieldsIf (Or.inr ⟨by rfl, rfl⟩)) hHeld ?_
  simp only [List.getElem_toArray, List.getElem_cons_succ, List.getElem_cons_zero, Act.put, List.setIfInBounds_toArray, List.set_cons_zero, List.set_cons_succ]
  refine wpAnyH_take (i := 16) (v := undef) rfl (by kernel_rfl) (by kernel_rfl) (by kernel_rfl) (fun _ _ _ h => h) (Yields.yieldsIf (Or.inr ⟨by rfl, rfl⟩)) hHeld ?_
  simp only [List.getElem_toArray, List.getElem_cons_succ, List.getElem_cons_zero, Act.put, List.setIfInBounds_toArray, List.set_cons_zero, List.set_cons_succ]
  refine wpAnyH_take (i := 17) (v := undef) rfl (by kernel_rfl) (by kernel_rfl) (by kernel_rfl) (fun _ _ _ h => h) (Yields.yieldsIf (Or.inr ⟨by rfl, rfl⟩)) hHeld ?_
  simp only [List.getElem_toArray, List.getElem_cons_succ, List.getElem_cons_zero, Act.put, List.setIfInBounds_toArray, List.set_cons_zero, List.set_cons_succ]
  refine wpAnyH_take (i := 18) (v := ?_) rfl (by kernel_rfl) (by kernel_rfl) (by kernel_rfl) (fun _ _ _ h => h) (Yields.yieldsIf (Or.inl ⟨by rfl, ?_⟩)) hHeld ?_
  rotate_left
  · intro W
    go_simp
    try with_reducible rfl
  simp only [List.getElem_toArray, List.getElem_cons_succ, List.getElem_cons_zero, Act.put, List.setIfInBounds_toArray, List.set_cons_zero, List.set_cons_succ]
  refine wpAnyH_take (i := 19) (v := ?_) rfl (by kernel_rfl) (by kernel_rfl) (by kernel_rfl) (fun _ _ _ h => h) (Yields.yieldsIf (Or.inl ⟨by rfl, ?_⟩)) hHeld ?_
  rotate_left
  · intro W
    go_simp
    try with_reducible rfl
  simp only [List.getElem_toArray, List.getElem_cons_succ, List.getElem_cons_zero, Act.put, List.setIfInBounds_toArray, List.set_cons_zero, List.set_cons_succ]
  refine wpAnyH_done (by kernel_rfl) ?_ _
  clear hHeld
  obtain ⟨w5, hw5⟩ : ∃ w5, w3.drew = w5 := ⟨_, rfl⟩
  have XU5 : Hid (Ext w3 w5) := by unfold Hid; rw [← hw5]; exact inferInstance
  have HE5 := Lib.hid (HE3.out.ext (h := XU5.out))
  have HZ5 : Hid (w5.heap[w.heap.size + 1]? = some zPk) := at_ext (h := XU5.out) HZ3.out
  have HB5 : Hid (But w w5 B) := But.of (h := Ext.trans_ X3.out XU5.out)
  have HM5 := Lib.hid (at_ext (h := XU5.out) HM3.out)
  rw [hw5]
  clear hw5 m1 m2 m4 s4
  have m1 : w5.cell? ⟨w1.heap.size, 1, none⟩ = some (.int .i64 mi) := at_cell HM5.out 1
  go_wp2_with fail
  refine (end4_any B T nm tries s us LA lk 4 mi _ HE5.out).mono ?_
  rintro e w6 ⟨A6, k6, rfl, ho6, hE6, hb6⟩
  obtain ⟨⟨⟨ci, ii⟩, d, er⟩, hwr⟩ : ∃ F, wrE 4 mi 0 [] [] = F := ⟨_, rfl⟩
  have HR6 : Hid (endR s 4 mi = ⟨endS s 4, ci, ii, d, true, 0⟩) := by unfold Hid endR; rw [hwr]
  rw [hwr] at ho6 ⊢
  simp only at ho6 ⊢
  have HZ6 : Hid (w6.heap[w.heap.size + 1]? = some zPk) := hb6.at (by have := HBL.out; omega) HZ5.out
  have HO6 := Lib.hid ho6
  have HE6 := Lib.hid hE6
  have HB6 : Hid (But w w6 B) := HB5.out.trans hb6
  have HNE : Hid ((Value.slice A6 d.length k6).ownBlock ≠ some (w.heap.size + 1)) := own_type_ne HO6.out HZ6.out (by decide)
  clear ho6 hE6 hb6 hwr
  go_wp2_with
    (refine wpList_store_row rfl 24 (.tmp 6) (.tmp 114) rfl (w.heap.size + 1) #[.int .i64 ci, .int .i64 ii, .slice A6 d.length k6] rfl rfl 24 #[.int .i64 0, .int .i64 0, .slice none 0 0] HZ6.out (by kernel_rfl) rfl (by simp [Value.oneCell']) ?_)
  refine bodyPost_ret (results_cell_row3 Try.results41 _ _ (w.heap.size + 1) 24 #[.int .i64 ci, .int .i64 ii, .slice A6 d.length k6] (0, 0) _ (.bool true) (.int .i64 0) rfl rfl rfl (setRow_heap _ _ _ _ _ _ HZ6.out) Try.underlying24 rfl (by kernel_rfl)) rfl ?_
  rw [HF.out, HR6.out]
  refine ⟨A6, k6, LA, lk, rfl, own_weaken (own_setRow HO6.out HNE.out _) HB5.out.size, HE6.out.rowY (by have := HBL.out; omega) (fun ad ha => ?_) _, HB6.out.rowY (by omega) _⟩
  have := (HE.out.far ad ha).2
  omega
set_option maxRecDepth 100000 in
set_option maxHeartbeats 4000000 in
theorem take4_g4 (B T : Nat) (nm : ByteArray) (tries : Int) (s : SS) (us : List SV) (LA : Option Addr) (lk : Nat) (code id : Int) (A : Option Addr) (n c : Nat) (xs : List Int) (V : Option Addr) (vn vc : Nat) (v : List Int) (hn : xs.length = n) (hn' : n ≤ 140737488355000) (hnc : n ≤ c) (hb : Byt xs) (hv : v.length = vn) (hv' : vn ≤ 140737488355328) (hbv : Byt v) (w : World) (hx : Cells w A (nums .u8 xs)) (hxv : Cells w V (nums .u8 v)) (hfv : ∀ ad, V = some ad → ad.block ≠ B ∧ ad.block < w.heap.size) (hE : ESrv w B T nm tries s us LA lk) (mi : Int) (mv ms : List Int) (hrd : rdE code id xs = (⟨2, mi, 1, mv, ms⟩, 0)) (hst : s.st = 1) (hmi : mi = s.id) (hnm : nameF ms = false) :
        Calls Try.prog 41 #[.pointer (some ⟨B, 0, none⟩), .agg #[.int .i64 code, .int .i64 id, .slice A n c], .slice V vn vc] w (TkTells B T nm tries us (takeR nm us s code id xs v) w) := by
  have HMI := Lib.hid hmi
  clear hmi
  have HNM := Lib.hid hnm
  clear hnm
  have Hn := Lib.hid hn
  have HX := Lib.hid hx
  have HB := Lib.hid hb
  have Hv := Lib.hid hv
  have HXV := Lib.hid hxv
  have HFV := Lib.hid hfv
  have HBV := Lib.hid hbv
  have HE := Lib.hid hE
  have HBL : Hid (B < w.heap.size) := at_lt hE.b
  clear hE hn hx hb hv hxv hfv hbv
  have HRD := Lib.hid hrd
  have HRA := Lib.hid (rdE_all HB.out hrd)
  have HF0 : Hid (takeR nm us s code id xs v = if 0 ≠ 0 then badR s 0 else takeM nm us s ⟨2, mi, 1, mv, ms⟩ v) := by unfold Hid takeR; rw [hrd]; try rfl
  clear hrd
  go_enter Try.func41, Try.ntmps41
  go_upto_region 1 with fail
  obtain ⟨wb, hwb⟩ : ∃ wb, (w.alloc (.cells #[.int .i64 code, .int .i64 id, .slice A n c] 24)).alloc zPk = wb := ⟨_, rfl⟩
  have HP : Hid (wb.heap[w.heap.size]? = some (.cells #[.int .i64 code, .int .i64 id, .slice A n c] 24 (0, 0))) := by unfold Hid; rw [← hwb]; exact at_ext (at_new w _)
  have HZ : Hid (wb.heap[w.heap.size + 1]? = some zPk) := by unfold Hid; rw [← hwb]; exact at_new1 (by simp)
  have HW : Hid (Ext w wb) := by unfold Hid; rw [← hwb]; exact inferInstance
  rw [hwb]
  clear hwb
  have p0 : wb.cell? ⟨w.heap.size, 0, none⟩ = some (.int .i64 code) := at_cell HP.out 0
  have p1 : wb.cell? ⟨w.heap.size, 1, none⟩ = some (.int .i64 id) := at_cell HP.out 1
  have p2 : wb.cell? ⟨w.heap.size, 2, none⟩ = some (.slice A n c) := at_cell HP.out 2
  go_wp2_with fail
  refine (eread_any code id A n c xs Hn.out hn' hnc HB.out _ (HX.out.ext (h := HW.out))).mono ?_
  rintro e w1 ⟨A1, k1, rfl, ho1, hb1⟩
  rw [HRD.out] at ho1 ⊢
  simp only at ho1 ⊢
  obtain ⟨tb, htb⟩ : ∃ tb, strOfNums ms = tb := ⟨_, rfl⟩
  have HTB := Lib.hid htb
  rw [htb]
  have X1 : Hid (Ext wb w1) := ⟨hb1⟩
  have HO1 := Lib.hid ho1
  have pp : ∀ o, (w1.alloc o).heap[w1.heap.size]? = some o := at_new w1
  clear ho1 hb1 p0 p1 p2 htb
  go_upto_region 4 with
    (refine wpList_store_row_o rfl 52 (.tmp 9) (.tmp 17) rfl w1.heap.size #[.int .i64 2, .int .i64 mi, .int .i64 1, .slice A1 mv.length k1, .string tb] rfl rfl 52 zMs (pp _) (by kernel_rfl) rfl (by simp [Value.oneCell']) ?_
     intro w2 hr2 ho2 hz2 hb2
     have HM2 := Lib.hid hr2
     have X12 : Hid (Ext w1 w2) := ⟨hb2 _ _ (inferInstance : Ext w1 (w1.alloc _)).out (Nat.le_refl _)⟩
     clear hr2 ho2 hz2 hb2 pp)
  have X2 : Hid (Ext w w2) := Ext.trans_ HW.out (Ext.trans_ X1.out X12.out)
  have HZ2 : Hid (w2.heap[w.heap.size + 1]? = some zPk) := at_ext (h := Ext.trans_ X1.out X12.out) HZ.out
  have HE2 := Lib.hid (HE.out.ext (h := X2.out))
  have HO2 := Lib.hid (own_ext (h := X12.out) HO1.out)
  have HF1 : Hid (takeR nm us s code id xs v = takeM nm us s ⟨2, mi, 1, mv, ms⟩ v) := HF0.out.trans (if_neg (by simp))
  clear HF0
  have m0 : w2.cell? ⟨w1.heap.size, 0, none⟩ = some (.int .i64 2) := at_cell HM2.out 0
  have m1 : w2.cell? ⟨w1.heap.size, 1, none⟩ = some (.int .i64 mi) := at_cell HM2.out 1
  have m2 : w2.cell? ⟨w1.heap.size, 2, none⟩ = some (.int .i64 1) := at_cell HM2.out 2
  have m4 : w2.cell? ⟨w1.heap.size, 4, none⟩ = some (.string tb) := at_cell HM2.out 4
  have HST := Lib.hid hst
  have s4 : w2.cell? ⟨B, 4, none⟩ = some (.int .i64 1) := (at_cell HE2.out.b 4).trans (congrArg (fun x => some (Value.int .i64 x)) HST.out)
  clear hst
  have hmi := HMI.out
  have z3b : (mi != s.id) = false := by simpa using hmi
  have HF2 : Hid (takeR nm us s code id xs v = if s.st = 1 ∧ (1 : Int) = 1 ∧ nameF ms = true then
    (if strB (secW ms (strB nm) us) ≠ [] ∧ fitsB v.length = true then ⟨proveS nm us (saysS s ms) v, (proveS nm us (saysS s ms) v).lc, (proveS nm us (saysS s ms) v).li, (proveS nm us (saysS s ms) v).ld, true, 0⟩ else endR (saysS s ms) 4 mi)
    else if s.st = 2 ∧ (1 : Int) = 4 ∧ mv = s.due then endR s 3 mi else endR s 4 mi) := HF1.out.trans (by unfold takeM; rw [if_neg (by simp), if_neg (by simp only [HST.out]; omega), if_neg (by simpa using hmi)]; try rfl)
  clear hmi HF1
  have HF : Hid (takeR nm us s code id xs v = endR s 4 mi) := HF2.out.trans (by rw [if_neg (by rw [HNM.out]; simp), if_neg (by rw [HST.out]; omega)])
  clear HF2
  have HTS : Hid (strB tb = ms) := by unfold Hid; rw [← HTB.out]; exact strB_str _ HRA.out.2.1
  have HTZ : Hid (tb.size ≤ 140737488355328) := by
    unfold Hid
    rw [← strB_len, HTS.out]
    have h1 : ms.length ≤ xs.length := HRA.out.2.2
    have h2 := Hn.out
    omega
  have s5 : w2.cell? ⟨B, 5, none⟩ = some (.int .i64 s.id) := at_cell HE2.out.b 5
  go_upto_region 10 with fail
  refine wp_region_held_drew (S := Ext w2) (by kernel_rfl) (by exact inferInstance) (fun hHeld => ?_)
  refine wpAnyH_take (i := 0) (v := ?_) rfl (by kernel_rfl) (by kernel_rfl) (by kernel_rfl) (fun _ _ _ h => h) (Yields.yieldsIf (Or.inl ⟨by rfl, ?_⟩)) hHeld ?_
  rotate_left
  · intro W
    go_simp
    try with_reducible rfl
  simp only [List.getElem_toArray, List.getElem_cons_succ, List.getElem_cons_zero, Act.put, List.setIfInBounds_toArray, List.set_cons_zero, List.set_cons_succ]
  refine wpAnyH_take (i := 1) (v := ?_) rfl (by kernel_rfl) (by kernel_rfl) (by kernel_rfl) (fun _ _ _ h => h) (Or.inl ⟨by rfl, ?_⟩) hHeld ?_
  rotate_left
  · intro W hW
    have hcl := (cell_ext (h := hW) m1)
    go_simp
    try with_reducible rfl
  simp only [List.getElem_toArray, List.getElem_cons_succ, List.getElem_cons_zero, Act.put, List.setIfInBounds_toArray, List.set_cons_zero, List.set_cons_succ]
  refine wpAnyH_take (i := 2) (v := ?_) rfl (by kernel_rfl) (by kernel_rfl) (by kernel_rfl) (fun _ _ _ h => h) (Yields.yieldsIf (Or.inl ⟨by rfl, ?_⟩)) hHeld ?_
  rotate_left
  · intro W
    go_simp
    try with_reducible rfl
  simp only [List.getElem_toArray, List.getElem_cons_succ, List.getElem_cons_zero, Act.put, List.setIfInBounds_toArray, List.set_cons_zero, List.set_cons_succ]
  refine wpAnyH_take (i := 3) (v := ?_) rfl (by kernel_rfl) (by kernel_rfl) (by kernel_rfl) (fun _ _ _ h => h) (Yields.yieldsIf (Or.inl ⟨by rfl, ?_⟩)) hHeld ?_
  rotate_left
  · intro W
    go_simp
    try with_reducible rfl
  simp only [List.getElem_toArray, List.getElem_cons_succ, List.getElem_cons_zero, Act.put, List.setIfInBounds_toArray, List.set_cons_zero, List.set_cons_succ]
  refine wpAnyH_take (i := 4) (v := ?_) rfl (by kernel_rfl) (by kernel_rfl) (by kernel_rfl) (fun _ _ _ h => h) (Yields.yieldsIf (Or.inl ⟨by rfl, ?_⟩)) hHeld ?_
  rotate_left
  · intro W
    go_simp
    try with_reducible rfl
  simp only [List.getElem_toArray, List.getElem_cons_succ, List.getElem_cons_zero, Act.put, List.setIfInBounds_toArray, List.set_cons_zero, List.set_cons_succ]
  refine wpAnyH_take (i := 5) (v := ?_) rfl (by kernel_rfl) (by kernel_rfl) (by kernel_rfl) (fun _ _ _ h => h) (Or.inl ⟨by rfl, ?_⟩) hHeld ?_
  rotate_left
  · intro W hW
    have hcl := (cell_ext (h := hW) s5)
    go_simp
    try with_reducible rfl
  simp only [List.getElem_toArray, List.getElem_cons_succ, List.getElem_cons_zero, Act.put, List.setIfInBounds_toArray, List.set_cons_zero, List.set_cons_succ]
  refine wpAnyH_take (i := 6) (v := ?_) rfl (by kernel_rfl) (by kernel_rfl) (by kernel_rfl) (fun _ _ _ h => h) (Yields.yieldsIf (Or.inl ⟨by rfl, ?_⟩)) hHeld ?_
  rotate_left
  · intro W
    go_simp
    try with_reducible rfl
  simp only [List.getElem_toArray, List.getElem_cons_succ, List.getElem_cons_zero, Act.put, List.setIfInBounds_toArray, List.set_cons_zero, List.set_cons_succ]
  refine wpAnyH_take (i := 7) (v := ?_) rfl (by kernel_rfl) (by kernel_rfl) (by kernel_rfl) (fun _ _ _ h => h) (Yields.yieldsIf (Or.inl ⟨by rfl, ?_⟩)) hHeld ?_
  rotate_left
  · intro W
    go_simp
    try with_reducible rfl
  simp only [List.getElem_toArray, List.getElem_cons_succ, List.getElem_cons_zero, Act.put, List.setIfInBounds_toArray, List.set_cons_zero, List.set_cons_succ]
  refine wpAnyH_done (by kernel_rfl) ?_ _
  clear hHeld
  obtain ⟨w3, hw3⟩ : ∃ w3, w2.drew = w3 := ⟨_, rfl⟩
  have X23 : Hid (Ext w2 w3) := by unfold Hid; rw [← hw3]; exact inferInstance
  have X3 : Hid (Ext w w3) := Ext.trans_ X2.out X23.out
  have HE3 := Lib.hid (HE2.out.ext (h := X23.out))
  have HZ3 : Hid (w3.heap[w.heap.size + 1]? = some zPk) := at_ext (h := X23.out) HZ2.out
  have HM3 := Lib.hid (at_ext (h := X23.out) HM2.out)
  have HO3 := Lib.hid (own_ext (h := X23.out) HO2.out)
  rw [hw3]
  clear hw3 m0 m1 m2 m4 s4 s5
  have m1 : w3.cell? ⟨w1.heap.size, 1, none⟩ = some (.int .i64 mi) := at_cell HM3.out 1
  have m2 : w3.cell? ⟨w1.heap.size, 2, none⟩ = some (.int .i64 1) := at_cell HM3.out 2
  have m4 : w3.cell? ⟨w1.heap.size, 4, none⟩ = some (.string tb) := at_cell HM3.out 4
  have s4 : w3.cell? ⟨B, 4, none⟩ = some (.int .i64 1) := (at_cell HE3.out.b 4).trans (congrArg (fun x => some (Value.int .i64 x)) HST.out)
  go_wp2_with fail
  refine (isName_any tb HTZ.out _).mono ?_
  rintro e w4 ⟨rfl, hb4⟩
  rw [HTS.out, HNM.out]
  have X34 : Hid (Ext w3 w4) := ⟨hb4⟩
  have HE4 := Lib.hid (HE3.out.ext (h := X34.out))
  have HZ4 : Hid (w4.heap[w.heap.size + 1]? = some zPk) := at_ext (h := X34.out) HZ3.out
  have HM4 := Lib.hid (at_ext (h := X34.out) HM3.out)
  have X4 : Hid (Ext w w4) := Ext.trans_ X3.out X34.out
  clear hb4 m1 m2 m4 s4
  have m1 : w4.cell? ⟨w1.heap.size, 1, none⟩ = some (.int .i64 mi) := at_cell HM4.out 1
  have m2 : w4.cell? ⟨w1.heap.size, 2, none⟩ = some (.int .i64 1) := at_cell HM4.out 2
  have m4 : w4.cell? ⟨w1.heap.size, 4, none⟩ = some (.string tb) := at_cell HM4.out 4
  have s4 : w4.cell? ⟨B, 4, none⟩ = some (.int .i64 1) := (at_cell HE4.out.b 4).trans (congrArg (fun x => some (Value.int .i64 x)) HST.out)
  go_upto_region 16 with fail
  refine wp_region_held_drew (S := Ext w4) (by kernel_rfl) (by exact inferInstance) (fun hHeld => ?_)
  refine wpAnyH_take (i := 0) (v := ?_) rfl (by kernel_rfl) (by kernel_rfl) (by kernel_rfl) (fun _ _ _ h => h) (Yields.yieldsIf (Or.inl ⟨by rfl, ?_⟩)) hHeld ?_
  rotate_left
  · intro W
    go_simp
    try with_reducible rfl
  simp only [List.getElem_toArray, List.getElem_cons_succ, List.getElem_cons_zero, Act.put, List.setIfInBounds_toArray, List.set_cons_zero, List.set_cons_succ]
  refine wpAnyH_take (i := 1) (v := ?_) rfl (by kernel_rfl) (by kernel_rfl) (by kernel_rfl) (fun _ _ _ h => h) (Yields.yieldsIf (Or.inl ⟨by rfl, ?_⟩)) hHeld ?_
  rotate_left
  · intro W
    go_simp
    try with_reducible rfl
  simp only [List.getElem_toArray, List.getElem_cons_succ, List.getElem_cons_zero, Act.put, List.setIfInBounds_toArray, List.set_cons_zero, List.set_cons_succ]
  refine wpAnyH_take (i := 2) (v := ?_) rfl (by kernel_rfl) (by kernel_rfl) (by kernel_rfl) (fun _ _ _ h => h) (Yields.yieldsIf (Or.inl ⟨by rfl, ?_⟩)) hHeld ?_
  rotate_left
  · intro W
    go_simp
    try with_reducible rfl
  simp only [List.getElem_toArray, List.getElem_cons_succ, List.getElem_cons_zero, Act.put, List.setIfInBounds_toArray, List.set_cons_zero, List.set_cons_succ]
  refine wpAnyH_take (i := 3) (v := ?_) rfl (by kernel_rfl) (by kernel_rfl) (by kernel_rfl) (fun _ _ _ h => h) (Or.inl ⟨by rfl, ?_⟩) hHeld ?_
  rotate_left
  · intro W hW
    have hcl := (cell_ext (h := hW) s4)
    go_simp
    try with_reducible rfl
  simp only [List.getElem_toArray, List.getElem_cons_succ, List.getElem_cons_zero, Act.put, List.setIfInBounds_toArray, List.set_cons_zero, List.set_cons_succ]
  refine wpAnyH_take (i := 4) (v := ?_) rfl (by kernel_rfl) (by kernel_rfl) (by kernel_rfl) (fun _ _ _ h => h) (Yields.yieldsIf (Or.inl ⟨by rfl, ?_⟩)) hHeld ?_
  rotate_left
  · intro W
    go_simp
    try with_reducible rfl
  simp only [List.getElem_toArray, List.getElem_cons_succ, List.getElem_cons_zero, Act.put, List.setIfInBounds_toArray, List.set_cons_zero, List.set_cons_succ]
  refine wpAnyH_take (i := 5) (v := ?_) rfl (by kernel_rfl) (by kernel_rfl) (by kernel_rfl) (fun _ _ _ h => h) (Yields.yieldsIf (Or.inl ⟨by rfl, ?_⟩)) hHeld ?_
  rotate_left
  · intro W
    go_simp
    try with_reducible rfl
  simp only [List.getElem_toArray, List.getElem_cons_succ, List.getElem_cons_zero, Act.put, List.setIfInBounds_toArray, List.set_cons_zero, List.set_cons_succ]
  refine wpAnyH_take (i := 6) (v := undef) rfl (by kernel_rfl) (by kernel_rfl) (by kernel_rfl) (fun _ _ _ h => h) (Yields.yieldsIf (Or.inr ⟨by rfl, rfl⟩)) hHeld ?_
  simp only [List.getElem_toArray, List.getElem_cons_succ, List.getElem_cons_zero, Act.put, List.setIfInBounds_toArray, List.set_cons_zero, List.set_cons_succ]
  refine wpAnyH_take (i := 7) (v := undef) rfl (by kernel_rfl) (by kernel_rfl) (by kernel_rfl) (fun _ _ _ h => h) (Yields.yieldsIf (Or.inr ⟨by rfl, rfl⟩)) hHeld ?_
  simp only [List.getElem_toArray, List.getElem_cons_succ, List.getElem_cons_zero, Act.put, List.setIfInBounds_toArray, List.set_cons_zero, List.set_cons_succ]
  refine wpAnyH_take (i := 8) (v := undef) rfl (by kernel_rfl) (by kernel_rfl) (by kernel_rfl) (fun _ _ _ h => h) (Yields.yieldsIf (Or.inr ⟨by rfl, rfl⟩)) hHeld ?_
  simp only [List.getElem_toArray, List.getElem_cons_succ, List.getElem_cons_zero, Act.put, List.setIfInBounds_toArray, List.set_cons_zero, List.set_cons_succ]
  refine wpAnyH_take (i := 9) (v := ?_) rfl (by kernel_rfl) (by kernel_rfl) (by kernel_rfl) (fun _ _ _ h => h) (Yields.yieldsIf (Or.inl ⟨by rfl, ?_⟩)) hHeld ?_
  rotate_left
  · intro W
    go_simp
    try with_reducible rfl
  simp only [List.getElem_toArray, List.getElem_cons_succ, List.getElem_cons_zero, Act.put, List.setIfInBounds_toArray, List.set_cons_zero, List.set_cons_succ]
  refine wpAnyH_take (i := 10) (v := ?_) rfl (by kernel_rfl) (by kernel_rfl) (by kernel_rfl) (fun _ _ _ h => h) (Yields.yieldsIf (Or.inl ⟨by rfl, ?_⟩)) hHeld ?_
  rotate_left
  · intro W
    go_simp
    try with_reducible rfl
  simp only [List.getElem_toArray, List.getElem_cons_succ, List.getElem_cons_zero, Act.put, List.setIfInBounds_toArray, List.set_cons_zero, List.set_cons_succ]
  refine wpAnyH_take (i := 11) (v := undef) rfl (by kernel_rfl) (by kernel_rfl) (by kernel_rfl) (fun _ _ _ h => h) (Yields.yieldsIf (Or.inr ⟨by rfl, rfl⟩)) hHeld ?_
  simp only [List.getElem_toArray, List.getElem_cons_succ, List.getElem_cons_zero, Act.put, List.setIfInBounds_toArray, List.set_cons_zero, List.set_cons_succ]
  refine wpAnyH_take (i := 12) (v := undef) rfl (by kernel_rfl) (by kernel_rfl) (by kernel_rfl) (fun _ _ _ h => h) (Yields.yieldsIf (Or.inr ⟨by rfl, rfl⟩)) hHeld ?_
  simp only [List.getElem_toArray, List.getElem_cons_succ, List.getElem_cons_zero, Act.put, List.setIfInBounds_toArray, List.set_cons_zero, List.set_cons_succ]
  refine wpAnyH_take (i := 13) (v := undef) rfl (by kernel_rfl) (by kernel_rfl) (by kernel_rfl) (fun _ _ _ h => h) (Yields.yieldsIf (Or.inr ⟨by rfl, rfl⟩)) hHeld ?_
  simp only [List.getElem_toArray, List.getElem_cons_succ, List.getElem_cons_zero, Act.put, List.setIfInBounds_toArray, List.set_cons_zero, List.set_cons_succ]
  refine wpAnyH_take (i := 14) (v := undef) rfl (by kernel_rfl) (by kernel_rfl) (by kernel_rfl) (fun _ _ _ h => h) (Yields.yieldsIf (Or.inr ⟨by rfl, rfl⟩)) hHeld ?_
  simp only [List.getElem_toArray, List.getElem_cons_succ, List.getElem_cons_zero, Act.put, List.setIfInBounds_toArray, List.set_cons_zero, List.set_cons_succ]
  refine wpAnyH_take (i := 15) (v := undef) rfl (by kernel_rfl) (by kernel_rfl) (by kernel_rfl) (fun _ _ _ h => h) (Yields.yieldsIf (Or.inr ⟨by rfl, rfl⟩)) hHeld ?_
  simp only [List.getElem_toArray, List.getElem_cons_succ, List.getElem_cons_zero, Act.put, List.setIfInBounds_toArray, List.set_cons_zero, List.set_cons_succ]
  refine wpAnyH_take (i := 16) (v := undef) rfl (by kernel_rfl) (by kernel_rfl) (by kernel_rfl) (fun _ _ _ h => h) (Yields.yieldsIf (Or.inr ⟨by rfl, rfl⟩)) hHeld ?_
  simp only [List.getElem_toArray, List.getElem_cons_succ, List.getElem_cons_zero, Act.put, List.setIfInBounds_toArray, List.set_cons_zero, List.set_cons_succ]
  refine wpAnyH_take (i := 17) (v := undef) rfl (by kernel_rfl) (by kernel_rfl) (by kernel_rfl) (fun _ _ _ h => h) (Yields.yieldsIf (Or.inr ⟨by rfl, rfl⟩)) hHeld ?_
  simp only [List.getElem_toArray, List.getElem_cons_succ, List.getElem_cons_zero, Act.put, List.setIfInBounds_toArray, List.set_cons_zero, List.set_cons_succ]
  refine wpAnyH_take (i := 18) (v := ?_) rfl (by kernel_rfl) (by kernel_rfl) (by kernel_rfl) (fun _ _ _ h => h) (Yields.yieldsIf (Or.inl ⟨by rfl, ?_⟩)) hHeld ?_
  rotate_left
  · intro W
    go_simp
    try with_reducible rfl
  simp only [List.getElem_toArray, List.getElem_cons_succ, List.getElem_cons_zero, Act.put, List.setIfInBounds_toArray, List.set_cons_zero, List.set_cons_succ]
  refine wpAnyH_take (i := 19) (v := ?_) rfl (by kernel_rfl) (by kernel_rfl) (by kernel_rfl) (fun _ _ _ h => h) (Yields.yieldsIf (Or.inl ⟨by rfl, ?_⟩)) hHeld ?_
  rotate_left
  · intro W
    go_simp
    try with_reducible rfl
  simp only [List.getElem_toArray, List.getElem_cons_succ, List.getElem_cons_zero, Act.put, List.setIfInBounds_toArray, List.set_cons_zero, List.set_cons_succ]
  refine wpAnyH_done (by kernel_rfl) ?_ _
  clear hHeld
  obtain ⟨w5, hw5⟩ : ∃ w5, w4.drew = w5 := ⟨_, rfl⟩
  have XU5 : Hid (Ext w4 w5) := by unfold Hid; rw [← hw5]; exact inferInstance
  have HE5 := Lib.hid (HE4.out.ext (h := XU5.out))
  have HZ5 : Hid (w5.heap[w.heap.size + 1]? = some zPk) := at_ext (h := XU5.out) HZ4.out
  have HB5 : Hid (But w w5 B) := But.of (h := Ext.trans_ X4.out XU5.out)
  have HM5 := Lib.hid (at_ext (h := XU5.out) HM4.out)
  rw [hw5]
  clear hw5 m1 m2 m4 s4
  have m1 : w5.cell? ⟨w1.heap.size, 1, none⟩ = some (.int .i64 mi) := at_cell HM5.out 1
  go_wp2_with fail
  refine (end4_any B T nm tries s us LA lk 4 mi _ HE5.out).mono ?_
  rintro e w6 ⟨A6, k6, rfl, ho6, hE6, hb6⟩
  obtain ⟨⟨⟨ci, ii⟩, d, er⟩, hwr⟩ : ∃ F, wrE 4 mi 0 [] [] = F := ⟨_, rfl⟩
  have HR6 : Hid (endR s 4 mi = ⟨endS s 4, ci, ii, d, true, 0⟩) := by unfold Hid endR; rw [hwr]
  rw [hwr] at ho6 ⊢
  simp only at ho6 ⊢
  have HZ6 : Hid (w6.heap[w.heap.size + 1]? = some zPk) := hb6.at (by have := HBL.out; omega) HZ5.out
  have HO6 := Lib.hid ho6
  have HE6 := Lib.hid hE6
  have HB6 : Hid (But w w6 B) := HB5.out.trans hb6
  have HNE : Hid ((Value.slice A6 d.length k6).ownBlock ≠ some (w.heap.size + 1)) := own_type_ne HO6.out HZ6.out (by decide)
  clear ho6 hE6 hb6 hwr
  go_wp2_with
    (refine wpList_store_row rfl 24 (.tmp 6) (.tmp 114) rfl (w.heap.size + 1) #[.int .i64 ci, .int .i64 ii, .slice A6 d.length k6] rfl rfl 24 #[.int .i64 0, .int .i64 0, .slice none 0 0] HZ6.out (by kernel_rfl) rfl (by simp [Value.oneCell']) ?_)
  refine bodyPost_ret (results_cell_row3 Try.results41 _ _ (w.heap.size + 1) 24 #[.int .i64 ci, .int .i64 ii, .slice A6 d.length k6] (0, 0) _ (.bool true) (.int .i64 0) rfl rfl rfl (setRow_heap _ _ _ _ _ _ HZ6.out) Try.underlying24 rfl (by kernel_rfl)) rfl ?_
  rw [HF.out, HR6.out]
  refine ⟨A6, k6, LA, lk, rfl, own_weaken (own_setRow HO6.out HNE.out _) HB5.out.size, HE6.out.rowY (by have := HBL.out; omega) (fun ad ha => ?_) _, HB6.out.rowY (by omega) _⟩
  have := (HE.out.far ad ha).2
  omega
set_option maxRecDepth 100000 in
set_option maxHeartbeats 4000000 in
theorem take4_g5 (B T : Nat) (nm : ByteArray) (tries : Int) (s : SS) (us : List SV) (LA : Option Addr) (lk : Nat) (code id : Int) (A : Option Addr) (n c : Nat) (xs : List Int) (V : Option Addr) (vn vc : Nat) (v : List Int) (hn : xs.length = n) (hn' : n ≤ 140737488355000) (hnc : n ≤ c) (hb : Byt xs) (hv : v.length = vn) (hv' : vn ≤ 140737488355328) (hbv : Byt v) (w : World) (hx : Cells w A (nums .u8 xs)) (hxv : Cells w V (nums .u8 v)) (hfv : ∀ ad, V = some ad → ad.block ≠ B ∧ ad.block < w.heap.size) (hE : ESrv w B T nm tries s us LA lk) (mi : Int) (mv ms : List Int) (hrd : rdE code id xs = (⟨2, mi, 1, mv, ms⟩, 0)) (hst : s.st = 1) (hmi : mi = s.id) (hnm : nameF ms = true) :
        Calls Try.prog 41 #[.pointer (some ⟨B, 0, none⟩), .agg #[.int .i64 code, .int .i64 id, .slice A n c], .slice V vn vc] w (TkTells B T nm tries us (takeR nm us s code id xs v) w) := by
  have HMI := Lib.hid hmi
  clear hmi
  have HNM := Lib.hid hnm
  clear hnm
  have Hn := Lib.hid hn
  have HX := Lib.hid hx
  have HB := Lib.hid hb
  have Hv := Lib.hid hv
  have HXV := Lib.hid hxv
  have HFV := Lib.hid hfv
  have HBV := Lib.hid hbv
  have HE := Lib.hid hE
  have HBL : Hid (B < w.heap.size) := at_lt hE.b
  clear hE hn hx hb hv hxv hfv hbv
  have HRD := Lib.hid hrd
  have HRA := Lib.hid (rdE_all HB.out hrd)
  have HF0 : Hid (takeR nm us s code id xs v = if 0 ≠ 0 then badR s 0 else takeM nm us s ⟨2, mi, 1, mv, ms⟩ v) := by unfold Hid takeR; rw [hrd]; try rfl
  clear hrd
  go_enter Try.func41, Try.ntmps41
  go_upto_region 1 with fail
  obtain ⟨wb, hwb⟩ : ∃ wb, (w.alloc (.cells #[.int .i64 code, .int .i64 id, .slice A n c] 24)).alloc zPk = wb := ⟨_, rfl⟩
  have HP : Hid (wb.heap[w.heap.size]? = some (.cells #[.int .i64 code, .int .i64 id, .slice A n c] 24 (0, 0))) := by unfold Hid; rw [← hwb]; exact at_ext (at_new w _)
  have HZ : Hid (wb.heap[w.heap.size + 1]? = some zPk) := by unfold Hid; rw [← hwb]; exact at_new1 (by simp)
  have HW : Hid (Ext w wb) := by unfold Hid; rw [← hwb]; exact inferInstance
  rw [hwb]
  clear hwb
  have p0 : wb.cell? ⟨w.heap.size, 0, none⟩ = some (.int .i64 code) := at_cell HP.out 0
  have p1 : wb.cell? ⟨w.heap.size, 1, none⟩ = some (.int .i64 id) := at_cell HP.out 1
  have p2 : wb.cell? ⟨w.heap.size, 2, none⟩ = some (.slice A n c) := at_cell HP.out 2
  go_wp2_with fail
  refine (eread_any code id A n c xs Hn.out hn' hnc HB.out _ (HX.out.ext (h := HW.out))).mono ?_
  rintro e w1 ⟨A1, k1, rfl, ho1, hb1⟩
  rw [HRD.out] at ho1 ⊢
  simp only at ho1 ⊢
  obtain ⟨tb, htb⟩ : ∃ tb, strOfNums ms = tb := ⟨_, rfl⟩
  have HTB := Lib.hid htb
  rw [htb]
  have X1 : Hid (Ext wb w1) := ⟨hb1⟩
  have HO1 := Lib.hid ho1
  have pp : ∀ o, (w1.alloc o).heap[w1.heap.size]? = some o := at_new w1
  clear ho1 hb1 p0 p1 p2 htb
  go_upto_region 4 with
    (refine wpList_store_row_o rfl 52 (.tmp 9) (.tmp 17) rfl w1.heap.size #[.int .i64 2, .int .i64 mi, .int .i64 1, .slice A1 mv.length k1, .string tb] rfl rfl 52 zMs (pp _) (by kernel_rfl) rfl (by simp [Value.oneCell']) ?_
     intro w2 hr2 ho2 hz2 hb2
     have HM2 := Lib.hid hr2
     have X12 : Hid (Ext w1 w2) := ⟨hb2 _ _ (inferInstance : Ext w1 (w1.alloc _)).out (Nat.le_refl _)⟩
     clear hr2 ho2 hz2 hb2 pp)
  have X2 : Hid (Ext w w2) := Ext.trans_ HW.out (Ext.trans_ X1.out X12.out)
  have HZ2 : Hid (w2.heap[w.heap.size + 1]? = some zPk) := at_ext (h := Ext.trans_ X1.out X12.out) HZ.out
  have HE2 := Lib.hid (HE.out.ext (h := X2.out))
  have HO2 := Lib.hid (own_ext (h := X12.out) HO1.out)
  have HF1 : Hid (takeR nm us s code id xs v = takeM nm us s ⟨2, mi, 1, mv, ms⟩ v) := HF0.out.trans (if_neg (by simp))
  clear HF0
  have m0 : w2.cell? ⟨w1.heap.size, 0, none⟩ = some (.int .i64 2) := at_cell HM2.out 0
  have m1 : w2.cell? ⟨w1.heap.size, 1, none⟩ = some (.int .i64 mi) := at_cell HM2.out 1
  have m2 : w2.cell? ⟨w1.heap.size, 2, none⟩ = some (.int .i64 1) := at_cell HM2.out 2
  have m4 : w2.cell? ⟨w1.heap.size, 4, none⟩ = some (.string tb) := at_cell HM2.out 4
  have HST := Lib.hid hst
  have s4 : w2.cell? ⟨B, 4, none⟩ = some (.int .i64 1) := (at_cell HE2.out.b 4).trans (congrArg (fun x => some (Value.int .i64 x)) HST.out)
  clear hst
  have hmi := HMI.out
  have z3b : (mi != s.id) = false := by simpa using hmi
  have HF2 : Hid (takeR nm us s code id xs v = if s.st = 1 ∧ (1 : Int) = 1 ∧ nameF ms = true then
    (if strB (secW ms (strB nm) us) ≠ [] ∧ fitsB v.length = true then ⟨proveS nm us (saysS s ms) v, (proveS nm us (saysS s ms) v).lc, (proveS nm us (saysS s ms) v).li, (proveS nm us (saysS s ms) v).ld, true, 0⟩ else endR (saysS s ms) 4 mi)
    else if s.st = 2 ∧ (1 : Int) = 4 ∧ mv = s.due then endR s 3 mi else endR s 4 mi) := HF1.out.trans (by unfold takeM; rw [if_neg (by simp), if_neg (by simp only [HST.out]; omega), if_neg (by simpa using hmi)]; try rfl)
  clear hmi HF1
  have HF3 : Hid (takeR nm us s code id xs v = if strB (secW ms (strB nm) us) ≠ [] ∧ fitsB v.length = true then ⟨proveS nm us (saysS s ms) v, (proveS nm us (saysS s ms) v).lc, (proveS nm us (saysS s ms) v).li, (proveS nm us (saysS s ms) v).ld, true, 0⟩ else endR (saysS s ms) 4 mi) := HF2.out.trans (if_pos ⟨HST.out, rfl, HNM.out⟩)
  clear HF2
  have HTS : Hid (strB tb = ms) := by unfold Hid; rw [← HTB.out]; exact strB_str _ HRA.out.2.1
  have HTZ : Hid (tb.size ≤ 140737488355328) := by
    unfold Hid
    rw [← strB_len, HTS.out]
    have h1 : ms.length ≤ xs.length := HRA.out.2.2
    have h2 := Hn.out
    omega
  have s5 : w2.cell? ⟨B, 5, none⟩ = some (.int .i64 s.id) := at_cell HE2.out.b 5
  go_upto_region 10 with fail
  refine wp_region_held_drew (S := Ext w2) (by kernel_rfl) (by exact inferInstance) (fun hHeld => ?_)
  refine wpAnyH_take (i := 0) (v := ?_) rfl (by kernel_rfl) (by kernel_rfl) (by kernel_rfl) (fun _ _ _ h => h) (Yields.yieldsIf (Or.inl ⟨by rfl, ?_⟩)) hHeld ?_
  rotate_left
  · intro W
    go_simp
    try with_reducible rfl
  simp only [List.getElem_toArray, List.getElem_cons_succ, List.getElem_cons_zero, Act.put, List.setIfInBounds_toArray, List.set_cons_zero, List.set_cons_succ]
  refine wpAnyH_take (i := 1) (v := ?_) rfl (by kernel_rfl) (by kernel_rfl) (by kernel_rfl) (fun _ _ _ h => h) (Or.inl ⟨by rfl, ?_⟩) hHeld ?_
  rotate_left
  · intro W hW
    have hcl := (cell_ext (h := hW) m1)
    go_simp
    try with_reducible rfl
  simp only [List.getElem_toArray, List.getElem_cons_succ, List.getElem_cons_zero, Act.put, List.setIfInBounds_toArray, List.set_cons_zero, List.set_cons_succ]
  refine wpAnyH_take (i := 2) (v := ?_) rfl (by kernel_rfl) (by kernel_rfl) (by kernel_rfl) (fun _ _ _ h => h) (Yields.yieldsIf (Or.inl ⟨by rfl, ?_⟩)) hHeld ?_
  rotate_left
  · intro W
    go_simp
    try with_reducible rfl
  simp only [List.getElem_toArray, List.getElem_cons_succ, List.getElem_cons_zero, Act.put, List.setIfInBounds_toArray, List.set_cons_zero, List.set_cons_succ]
  refine wpAnyH_take (i := 3) (v := ?_) rfl (by kernel_rfl) (by kernel_rfl) (by kernel_rfl) (fun _ _ _ h => h) (Yields.yieldsIf (Or.inl ⟨by rfl, ?_⟩)) hHeld ?_
  rotate_left
  · intro W
    go_simp
    try with_reducible rfl
  simp only [List.getElem_toArray, List.getElem_cons_succ, List.getElem_cons_zero, Act.put, List.setIfInBounds_toArray, List.set_cons_zero, List.set_cons_succ]
  refine wpAnyH_take (i := 4) (v := ?_) rfl (by kernel_rfl) (by kernel_rfl) (by kernel_rfl) (fun _ _ _ h => h) (Yields.yieldsIf (Or.inl ⟨by rfl, ?_⟩)) hHeld ?_
  rotate_left
  · intro W
    go_simp
    try with_reducible rfl
  simp only [List.getElem_toArray, List.getElem_cons_succ, List.getElem_cons_zero, Act.put, List.setIfInBounds_toArray, List.set_cons_zero, List.set_cons_succ]
  refine wpAnyH_take (i := 5) (v := ?_) rfl (by kernel_rfl) (by kernel_rfl) (by kernel_rfl) (fun _ _ _ h => h) (Or.inl ⟨by rfl, ?_⟩) hHeld ?_
  rotate_left
  · intro W hW
    have hcl := (cell_ext (h := hW) s5)
    go_simp
    try with_reducible rfl
  simp only [List.getElem_toArray, List.getElem_cons_succ, List.getElem_cons_zero, Act.put, List.setIfInBounds_toArray, List.set_cons_zero, List.set_cons_succ]
  refine wpAnyH_take (i := 6) (v := ?_) rfl (by kernel_rfl) (by kernel_rfl) (by kernel_rfl) (fun _ _ _ h => h) (Yields.yieldsIf (Or.inl ⟨by rfl, ?_⟩)) hHeld ?_
  rotate_left
  · intro W
    go_simp
    try with_reducible rfl
  simp only [List.getElem_toArray, List.getElem_cons_succ, List.getElem_cons_zero, Act.put, List.setIfInBounds_toArray, List.set_cons_zero, List.set_cons_succ]
  refine wpAnyH_take (i := 7) (v := ?_) rfl (by kernel_rfl) (by kernel_rfl) (by kernel_rfl) (fun _ _ _ h => h) (Yields.yieldsIf (Or.inl ⟨by rfl, ?_⟩)) hHeld ?_
  rotate_left
  · intro W
    go_simp
    try with_reducible rfl
  simp only [List.getElem_toArray, List.getElem_cons_succ, List.getElem_cons_zero, Act.put, List.setIfInBounds_toArray, List.set_cons_zero, List.set_cons_succ]
  refine wpAnyH_done (by kernel_rfl) ?_ _
  clear hHeld
  obtain ⟨w3, hw3⟩ : ∃ w3, w2.drew = w3 := ⟨_, rfl⟩
  have X23 : Hid (Ext w2 w3) := by unfold Hid; rw [← hw3]; exact inferInstance
  have X3 : Hid (Ext w w3) := Ext.trans_ X2.out X23.out
  have HE3 := Lib.hid (HE2.out.ext (h := X23.out))
  have HZ3 : Hid (w3.heap[w.heap.size + 1]? = some zPk) := at_ext (h := X23.out) HZ2.out
  have HM3 := Lib.hid (at_ext (h := X23.out) HM2.out)
  have HO3 := Lib.hid (own_ext (h := X23.out) HO2.out)
  rw [hw3]
  clear hw3 m0 m1 m2 m4 s4 s5
  have m1 : w3.cell? ⟨w1.heap.size, 1, none⟩ = some (.int .i64 mi) := at_cell HM3.out 1
  have m2 : w3.cell? ⟨w1.heap.size, 2, none⟩ = some (.int .i64 1) := at_cell HM3.out 2
  have m4 : w3.cell? ⟨w1.heap.size, 4, none⟩ = some (.string tb) := at_cell HM3.out 4
  have s4 : w3.cell? ⟨B, 4, none⟩ = some (.int .i64 1) := (at_cell HE3.out.b 4).trans (congrArg (fun x => some (Value.int .i64 x)) HST.out)
  go_wp2_with fail
  refine (isName_any tb HTZ.out _).mono ?_
  rintro e w4 ⟨rfl, hb4⟩
  rw [HTS.out, HNM.out]
  have X34 : Hid (Ext w3 w4) := ⟨hb4⟩
  have HE4 := Lib.hid (HE3.out.ext (h := X34.out))
  have HZ4 : Hid (w4.heap[w.heap.size + 1]? = some zPk) := at_ext (h := X34.out) HZ3.out
  have HM4 := Lib.hid (at_ext (h := X34.out) HM3.out)
  have X4 : Hid (Ext w w4) := Ext.trans_ X3.out X34.out
  clear hb4 m1 m2 m4 s4
  have m1 : w4.cell? ⟨w1.heap.size, 1, none⟩ = some (.int .i64 mi) := at_cell HM4.out 1
  have m2 : w4.cell? ⟨w1.heap.size, 2, none⟩ = some (.int .i64 1) := at_cell HM4.out 2
  have m4 : w4.cell? ⟨w1.heap.size, 4, none⟩ = some (.string tb) := at_cell HM4.out 4
  have s4 : w4.cell? ⟨B, 4, none⟩ = some (.int .i64 1) := (at_cell HE4.out.b 4).trans (congrArg (fun x => some (Value.int .i64 x)) HST.out)
  have s6 : w4.cell? ⟨B, 6, none⟩ = some (.string s.says) := at_cell HE4.out.b 6
  have f6 : w4.frozen? ⟨B, 6, none⟩ = false := at_frozen HE4.out.b 6
  go_upto_region 14 with fail
  obtain ⟨y5, hy5⟩ : ∃ y5, w4.setCell ⟨B, 6, none⟩ (.string tb) = y5 := ⟨_, rfl⟩
  have HSA : Hid (saysS s ms = { s with says := tb }) := by unfold Hid saysS; rw [HTB.out]
  have HEY : Hid (ESrv y5 B T nm tries (saysS s ms) us LA lk) := by
    unfold Hid
    rw [HSA.out, ← hy5]
    exact HE4.out.turn (s' := { s with says := tb }) (by rw [at_set HE4.out.b 6 _, srv_says]) (fun j hj => by rw [Below.heap_setCell _ _ _ _ hj]) rfl rfl HE4.out.id (by simp [World.setCell])
  have HBY : Hid (But w y5 B) := by unfold Hid; rw [← hy5]; exact (But.of (h := X4.out)).set 6 _
  have HZY : Hid (y5.heap[w.heap.size + 1]? = some zPk) := by unfold Hid; rw [← hy5]; exact at_other (p := ⟨B, 6, none⟩) _ HZ4.out (by have := HBL.out; show w.heap.size + 1 ≠ B; omega)
  have HMY : Hid (y5.heap[w1.heap.size]? = some (.cells #[.int .i64 2, .int .i64 mi, .int .i64 1, .slice A1 mv.length k1, .string tb] 52 (0, 0))) := by unfold Hid; rw [← hy5]; exact at_other (p := ⟨B, 6, none⟩) _ HM4.out (by have h1 := HBL.out; have h2 := HW.out.out.size; have h3 := X1.out.out.size; show w1.heap.size ≠ B; omega)
  rw [hy5]
  clear hy5 s6 f6 m1 m2 m4 s4
  go_wp2_with fail
  refine (word4_any B T nm tries (saysS s ms) us LA lk _ HEY.out).mono ?_
  rintro e w5 ⟨rfl, hb5⟩
  rw [show strB (saysS s ms).says = ms from by rw [HSA.out]; exact HTS.out]
  have XU5 : Hid (Ext y5 w5) := ⟨hb5⟩
  have HE5 := Lib.hid (HEY.out.ext (h := XU5.out))
  have HZ5 : Hid (w5.heap[w.heap.size + 1]? = some zPk) := at_ext (h := XU5.out) HZY.out
  have HB5 : Hid (But w w5 B) := HBY.out.step XU5.out
  have HM5 := Lib.hid (at_ext (h := XU5.out) HMY.out)
  have m1 : w5.cell? ⟨w1.heap.size, 1, none⟩ = some (.int .i64 mi) := at_cell HM5.out 1
  obtain ⟨wd, hwd⟩ : ∃ wd, secW ms (strB nm) us = wd := ⟨_, rfl⟩
  rw [hwd] at HF3 ⊢
  clear hb5 hwd
  by_cases e2 : wd.toList = []
  · have HF : Hid (takeR nm us s code id xs v = endR (saysS s ms) 4 mi) := HF3.out.trans (if_neg (fun h => h.1 (strB_none.2 e2)))
    clear HF3
    go_wp2_with fail
    refine (end4_any B T nm tries (saysS s ms) us LA lk 4 mi _ HE5.out).mono ?_
    rintro e w6 ⟨A6, k6, rfl, ho6, hE6, hb6⟩
    obtain ⟨⟨⟨ci, ii⟩, d, er⟩, hwr⟩ : ∃ F, wrE 4 mi 0 [] [] = F := ⟨_, rfl⟩
    have HR6 : Hid (endR (saysS s ms) 4 mi = ⟨endS (saysS s ms) 4, ci, ii, d, true, 0⟩) := by unfold Hid endR; rw [hwr]
    rw [hwr] at ho6 ⊢
    simp only at ho6 ⊢
    have HZ6 : Hid (w6.heap[w.heap.size + 1]? = some zPk) := hb6.at (by have := HBL.out; omega) HZ5.out
    have HO6 := Lib.hid ho6
    have HE6 := Lib.hid hE6
    have HB6 : Hid (But w w6 B) := HB5.out.trans hb6
    have HNE : Hid ((Value.slice A6 d.length k6).ownBlock ≠ some (w.heap.size + 1)) := own_type_ne HO6.out HZ6.out (by decide)
    clear ho6 hE6 hb6 hwr
    go_wp2_with
      (refine wpList_store_row rfl 24 (.tmp 6) (.tmp 114) rfl (w.heap.size + 1) #[.int .i64 ci, .int .i64 ii, .slice A6 d.length k6] rfl rfl 24 #[.int .i64 0, .int .i64 0, .slice none 0 0] HZ6.out (by kernel_rfl) rfl (by simp [Value.oneCell']) ?_)
    refine bodyPost_ret (results_cell_row3 Try.results41 _ _ (w.heap.size + 1) 24 #[.int .i64 ci, .int .i64 ii, .slice A6 d.length k6] (0, 0) _ (.bool true) (.int .i64 0) rfl rfl rfl (setRow_heap _ _ _ _ _ _ HZ6.out) Try.underlying24 rfl (by kernel_rfl)) rfl ?_
    rw [HF.out, HR6.out]
    refine ⟨A6, k6, LA, lk, rfl, own_weaken (own_setRow HO6.out HNE.out _) HB5.out.size, HE6.out.rowY (by have := HBL.out; omega) (fun ad ha => ?_) _, HB6.out.rowY (by omega) _⟩
    have := (HE.out.far ad ha).2
    omega
  have e2b : (wd.toList == []) = false := by simpa using e2
  have e2c : wd.toList.isEmpty = false := by rw [List.isEmpty_eq_false_iff]; exact e2
  have HWN : Hid (strB wd ≠ []) := fun h => e2 (strB_none.1 h)
  clear e2
  go_wp2_with fail
  refine (fits4_any V vn vc hv' _).mono ?_
  rintro e w6 ⟨rfl, rfl⟩
  rcases hft : fitsB vn with _ | _
  · have HF : Hid (takeR nm us s code id xs v = endR (saysS s ms) 4 mi) := HF3.out.trans (if_neg (fun h => by rw [Hv.out, hft] at h; cases h.2))
    clear HF3 hft
    go_wp2_with fail
    refine (end4_any B T nm tries (saysS s ms) us LA lk 4 mi _ HE5.out).mono ?_
    rintro e w6 ⟨A6, k6, rfl, ho6, hE6, hb6⟩
    obtain ⟨⟨⟨ci, ii⟩, d, er⟩, hwr⟩ : ∃ F, wrE 4 mi 0 [] [] = F := ⟨_, rfl⟩
    have HR6 : Hid (endR (saysS s ms) 4 mi = ⟨endS (saysS s ms) 4, ci, ii, d, true, 0⟩) := by unfold Hid endR; rw [hwr]
    rw [hwr] at ho6 ⊢
    simp only at ho6 ⊢
    have HZ6 : Hid (w6.heap[w.heap.size + 1]? = some zPk) := hb6.at (by have := HBL.out; omega) HZ5.out
    have HO6 := Lib.hid ho6
    have HE6 := Lib.hid hE6
    have HB6 : Hid (But w w6 B) := HB5.out.trans hb6
    have HNE : Hid ((Value.slice A6 d.length k6).ownBlock ≠ some (w.heap.size + 1)) := own_type_ne HO6.out HZ6.out (by decide)
    clear ho6 hE6 hb6 hwr
    go_wp2_with
      (refine wpList_store_row rfl 24 (.tmp 6) (.tmp 114) rfl (w.heap.size + 1) #[.int .i64 ci, .int .i64 ii, .slice A6 d.length k6] rfl rfl 24 #[.int .i64 0, .int .i64 0, .slice none 0 0] HZ6.out (by kernel_rfl) rfl (by simp [Value.oneCell']) ?_)
    refine bodyPost_ret (results_cell_row3 Try.results41 _ _ (w.heap.size + 1) 24 #[.int .i64 ci, .int .i64 ii, .slice A6 d.length k6] (0, 0) _ (.bool true) (.int .i64 0) rfl rfl rfl (setRow_heap _ _ _ _ _ _ HZ6.out) Try.underlying24 rfl (by kernel_rfl)) rfl ?_
    rw [HF.out, HR6.out]
    refine ⟨A6, k6, LA, lk, rfl, own_weaken (own_setRow HO6.out HNE.out _) HB5.out.size, HE6.out.rowY (by have := HBL.out; omega) (fun ad ha => ?_) _, HB6.out.rowY (by omega) _⟩
    have := (HE.out.far ad ha).2
    omega
  have HF : Hid (takeR nm us s code id xs v = ⟨proveS nm us (saysS s ms) v, (proveS nm us (saysS s ms) v).lc, (proveS nm us (saysS s ms) v).li, (proveS nm us (saysS s ms) v).ld, true, 0⟩) := HF3.out.trans (if_pos ⟨HWN.out, by rw [Hv.out]; exact hft⟩)
  have hvn : vn ≤ 255 := (of_decide_eq_true hft).2
  clear HF3 hft
  go_wp2_with fail
  refine (prove4_any B T nm tries (saysS s ms) us LA lk V vn vc v Hv.out hvn HBV.out _ (HB5.out.cells HXV.out HFV.out) (fun ad ha => ⟨(HFV.out ad ha).1, Nat.lt_of_lt_of_le (HFV.out ad ha).2 HB5.out.size⟩) HE5.out).mono ?_
  rintro e w6 ⟨A6, k6, LA6, lk6, rfl, ho6, hE6, hb6, hl6⟩
  obtain ⟨s6, hs6⟩ : ∃ s6, proveS nm us (saysS s ms) v = s6 := ⟨_, rfl⟩
  rw [hs6] at HF ho6 hE6 ⊢
  have HZ6 : Hid (w6.heap[w.heap.size + 1]? = some zPk) := hb6.at (by have := HBL.out; omega) HZ5.out
  have HO6 := Lib.hid ho6
  have HE6 := Lib.hid hE6
  have HL6 := Lib.hid hl6
  have HB6 : Hid (But w w6 B) := HB5.out.trans hb6
  have HNE : Hid ((Value.slice A6 s6.ld.length k6).ownBlock ≠ some (w.heap.size + 1)) := own_type_ne HO6.out HZ6.out (by decide)
  have HZL : Hid (w.heap.size + 1 < w5.heap.size) := at_lt HZ5.out
  clear ho6 hE6 hb6 hl6 hs6
  go_wp2_with
    (refine wpList_store_row rfl 24 (.tmp 6) (.tmp 82) rfl (w.heap.size + 1) #[.int .i64 s6.lc, .int .i64 s6.li, .slice A6 s6.ld.length k6] rfl rfl 24 #[.int .i64 0, .int .i64 0, .slice none 0 0] HZ6.out (by kernel_rfl) rfl (by simp [Value.oneCell']) ?_)
  refine bodyPost_ret (results_cell_row3 Try.results41 _ _ (w.heap.size + 1) 24 #[.int .i64 s6.lc, .int .i64 s6.li, .slice A6 s6.ld.length k6] (0, 0) _ (.bool true) (.int .i64 0) rfl rfl rfl (setRow_heap _ _ _ _ _ _ HZ6.out) Try.underlying24 rfl (by kernel_rfl)) rfl ?_
  rw [HF.out]
  refine ⟨A6, k6, LA6, lk6, rfl, own_weaken (own_setRow HO6.out HNE.out _) HB5.out.size, HE6.out.rowY (by have := HBL.out; omega) (fun ad ha => ?_) _, HB6.out.rowY (by omega) _⟩
  have h1 := HL6.out ad ha
  have h2 := HZL.out
  omega
end Go.Proofs.Ytobddmpiljknpaa
