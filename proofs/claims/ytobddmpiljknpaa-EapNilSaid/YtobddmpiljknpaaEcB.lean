/-
  eap: Peer.Take. Conditions: sizes.
-/
import Derived.Test.YtobddmpiljknpaaEcA
namespace Go.Proofs.Ytobddmpiljknpaa
open Go.RowKit
set_option linter.unusedVariables false
set_option linter.unusedSimpArgs false

theorem rdE_four {code id c i : Int} {xs v s : List Int} {e : Int} (hb : Byt xs) (h : rdE code id xs = (⟨c, i, 4, v, s⟩, e)) : v.length ≤ 255 := by
  have nl : ∀ k : Int, (zMV, k) = ((⟨c, i, 4, v, s⟩ : MV), e) → v.length ≤ 255 := by
    intro k h
    injection h with h _
    unfold zMV at h
    injection h with _ _ h3 h4 _
    cases h3
  unfold rdE at h
  split at h
  · exact nl _ h
  split at h
  · exact nl _ h
  split at h
  · exact nl _ h
  split at h
  · injection h with h _
    injection h with _ _ h3 h4 _
    cases h3
  rcases xs with _ | ⟨X, ys⟩
  · exact nl _ h
  have hy : Byt ys := fun y hy => hb y (List.mem_cons_of_mem _ hy)
  replace h : rdB code id X ys = (⟨c, i, 4, v, s⟩, e) := h
  unfold rdB at h
  split at h
  · exact nl _ h
  split at h
  · rename_i h1
    injection h with h _
    injection h with _ _ h3 h4 _
    omega
  split at h
  · rcases hp : prtF ys with _ | ⟨p, r⟩
    · rw [hp] at h
      exact nl _ h
    · rw [hp] at h
      injection h with h _
      injection h with _ _ h3 h4 _
      rw [← h4]
      exact (prtF_some hy hp).1.2
  · rename_i h1
    injection h with h _
    injection h with _ _ h3 h4 _
    exact absurd h3 h1
/-- What a peer makes of a packet. -/
structure PR where
  st : Int
  nt : ByteArray
  c : Int
  i : Int
  d : List Int
  ok : Bool
  e : Int
def noR (st : Int) (nt : ByteArray) (e : Int) : PR := ⟨st, nt, 0, 0, [], false, e⟩
def sayR (st : Int) (nt : ByteArray) (id ty : Int) (v t : List Int) : PR := ⟨st, nt, (wrE 2 id ty v t).1.1, (wrE 2 id ty v t).1.2, (wrE 2 id ty v t).2.1, true, 0⟩
def peerM (nm : ByteArray) (us : List SV) (st : Int) (nt : ByteArray) (m : MV) : PR :=
  if m.c = 2 then noR st nt 90
  else if m.c = 3 ∧ st ≠ 2 then noR st nt 9
  else if m.c = 3 then noR 3 nt 0
  else if m.c = 4 then noR 4 nt 0
  else if m.t = 1 then sayR 1 nt m.i 1 [] (strB nm)
  else if m.t = 2 then sayR st (strOfNums m.s) m.i 2 [] []
  else if m.t = 4 then (if strB (secW (strB nm) m.s us) = [] then sayR st nt m.i 3 [0] [] else sayR 2 nt m.i 4 (respD m.i (secW (strB nm) m.s us) m.v) (strB nm))
  else sayR st nt m.i 3 [4] []
def peerR (nm : ByteArray) (us : List SV) (st : Int) (nt : ByteArray) (code id : Int) (xs : List Int) : PR :=
  if (rdE code id xs).2 ≠ 0 then noR st nt (rdE code id xs).2 else peerM nm us st nt (rdE code id xs).1
def PtTells (B T : Nat) (nm : ByteArray) (us : List SV) (r : PR) (w : World) (e : Ending) (w' : World) : Prop :=
  ∃ A k, e = .returned (.tuple #[.agg #[.int .i64 r.c, .int .i64 r.i, .slice A r.d.length k], .bool r.ok, .int .i64 r.e]) ∧ w'.ownsRow w.heap.size 5 1 (.slice A r.d.length k) r.d.length (nums .u8 r.d) ∧ EPeer w' B T nm r.st r.nt us ∧ But w w' B
set_option maxRecDepth 100000 in
set_option maxHeartbeats 4000000 in
theorem ptake_b1 (B T : Nat) (nm : ByteArray) (st : Int) (nt : ByteArray) (us : List SV) (code id : Int) (A : Option Addr) (n c : Nat) (xs : List Int) (hn : xs.length = n) (hn' : n ≤ 140737488355000) (hnc : n ≤ c) (hb : Byt xs) (w : World) (hx : Cells w A (nums .u8 xs)) (hE : EPeer w B T nm st nt us) (mc mi mt : Int) (mv ms : List Int) (me : Int) (hrd : rdE code id xs = (⟨mc, mi, mt, mv, ms⟩, me)) (z0 : me ≠ 0) :
    Calls Try.prog 55 #[.pointer (some ⟨B, 0, none⟩), .agg #[.int .i64 code, .int .i64 id, .slice A n c]] w (PtTells B T nm us (peerR nm us st nt code id xs) w) := by
  have Hn := Lib.hid hn
  have HX := Lib.hid hx
  have HB := Lib.hid hb
  have HE := Lib.hid hE
  have HBL : Hid (B < w.heap.size) := at_lt hE.b
  have HRD := Lib.hid hrd
  have HRA := Lib.hid (rdE_all hb hrd)
  have HF0 : Hid (peerR nm us st nt code id xs = if me ≠ 0 then noR st nt me else peerM nm us st nt ⟨mc, mi, mt, mv, ms⟩) := by unfold Hid peerR; rw [hrd]; try rfl
  clear hE hn hx hb hrd
  go_enter Try.func55, Try.ntmps55
  go_upto_region 1 with fail
  obtain ⟨wb, hwb⟩ : ∃ wb, (w.alloc (.cells #[.int .i64 code, .int .i64 id, .slice A n c] 24)).alloc zPk = wb := ⟨_, rfl⟩
  have HP : Hid (wb.heap[w.heap.size]? = some (.cells #[.int .i64 code, .int .i64 id, .slice A n c] 24 (0, 0))) := by unfold Hid; rw [← hwb]; exact at_ext (at_new w _)
  have HZ : Hid (wb.heap[w.heap.size + 1]? = some zPk) := by unfold Hid; rw [← hwb]; exact at_new1 (by simp)
  have HW : Hid (Ext w wb) := by unfold Hid; rw [← hwb]; exact inferInstance
  rw [hwb]
  clear hwb
  have p0 : wb.cell? ⟨w.heap.size, 0, none⟩ = some (.int .i64 code) := at_cell HP.out 0
  have p1 : wb.cell? ⟨w.heap.size, 1, none⟩ = some (.int .i64 id) := at_cell HP.out 1
  have p2 : wb.cell? ⟨w.heap.size, 2, none⟩ = some (.slice A n c) := at_cell HP.out 2
  go_wp2_with fail
  refine (eread_any code id A n c xs Hn.out hn' hnc HB.out _ (HX.out.ext (h := HW.out))).mono ?_
  rintro e w1 ⟨A1, k1, rfl, ho1, hb1⟩
  rw [HRD.out] at ho1 ⊢
  simp only at ho1 ⊢
  obtain ⟨tb, htb⟩ : ∃ tb, strOfNums ms = tb := ⟨_, rfl⟩
  have HTB := Lib.hid htb
  rw [htb]
  have X1 : Hid (Ext wb w1) := ⟨hb1⟩
  have HO1 := Lib.hid ho1
  have pp : ∀ o, (w1.alloc o).heap[w1.heap.size]? = some o := at_new w1
  clear ho1 hb1 p0 p1 p2 htb
  go_upto_region 4 with
    (refine wpList_store_row_o rfl 52 (.tmp 7) (.tmp 19) rfl w1.heap.size #[.int .i64 mc, .int .i64 mi, .int .i64 mt, .slice A1 mv.length k1, .string tb] rfl rfl 52 zMs (pp _) (by kernel_rfl) rfl (by simp [Value.oneCell']) ?_
     intro w2 hr2 ho2 hz2 hb2
     have HM2 := Lib.hid hr2
     have X12 : Hid (Ext w1 w2) := ⟨hb2 _ _ (inferInstance : Ext w1 (w1.alloc _)).out (Nat.le_refl _)⟩
     clear hr2 ho2 hz2 hb2 pp)
  have X2 : Hid (Ext w w2) := Ext.trans_ HW.out (Ext.trans_ X1.out X12.out)
  have HZ2 : Hid (w2.heap[w.heap.size + 1]? = some zPk) := at_ext (h := Ext.trans_ X1.out X12.out) HZ.out
  have HE2 := Lib.hid (HE.out.ext (h := X2.out))
  have HO2 := Lib.hid (own_ext (h := X12.out) HO1.out)
  have m0 : w2.cell? ⟨w1.heap.size, 0, none⟩ = some (.int .i64 mc) := at_cell HM2.out 0
  have m1 : w2.cell? ⟨w1.heap.size, 1, none⟩ = some (.int .i64 mi) := at_cell HM2.out 1
  have m2 : w2.cell? ⟨w1.heap.size, 2, none⟩ = some (.int .i64 mt) := at_cell HM2.out 2
  have m4 : w2.cell? ⟨w1.heap.size, 4, none⟩ = some (.string tb) := at_cell HM2.out 4
  have s2 : w2.cell? ⟨B, 2, none⟩ = some (.int .i64 st) := at_cell HE2.out.b 2
  have g2 : w2.frozen? ⟨B, 2, none⟩ = false := at_frozen HE2.out.b 2
  have HF : Hid (peerR nm us st nt code id xs = noR st nt me) := HF0.out.trans (if_pos z0)
  have z0b : (me != 0) = true := by simpa using z0
  clear z0
  go_wp2_with
    (refine wpList_store_row rfl 24 (.tmp 4) (.tmp 24) rfl (w.heap.size + 1) #[.int .i64 0, .int .i64 0, .slice none 0 0] rfl rfl 24 #[.int .i64 0, .int .i64 0, .slice none 0 0] HZ2.out (by kernel_rfl) rfl (by simp [Value.oneCell']) ?_)
  refine bodyPost_ret (results_cell_row3 Try.results55 _ _ (w.heap.size + 1) 24 #[.int .i64 0, .int .i64 0, .slice none 0 0] (0, 0) _ (.bool false) (.int .i64 me) rfl rfl rfl (setRow_heap _ _ _ _ _ _ HZ2.out) Try.underlying24 rfl (by kernel_rfl)) rfl ?_
  rw [HF.out]
  exact ⟨none, 0, rfl, own_nil _ _ _ _, HE2.out.rowY (by have := HBL.out; omega) _, (But.of (h := X2.out)).rowY (by omega) _⟩
set_option maxRecDepth 100000 in
set_option maxHeartbeats 4000000 in
theorem ptake_b2 (B T : Nat) (nm : ByteArray) (st : Int) (nt : ByteArray) (us : List SV) (code id : Int) (A : Option Addr) (n c : Nat) (xs : List Int) (hn : xs.length = n) (hn' : n ≤ 140737488355000) (hnc : n ≤ c) (hb : Byt xs) (w : World) (hx : Cells w A (nums .u8 xs)) (hE : EPeer w B T nm st nt us) (mi mt : Int) (mv ms : List Int) (hrd : rdE code id xs = (⟨2, mi, mt, mv, ms⟩, 0)) :
    Calls Try.prog 55 #[.pointer (some ⟨B, 0, none⟩), .agg #[.int .i64 code, .int .i64 id, .slice A n c]] w (PtTells B T nm us (peerR nm us st nt code id xs) w) := by
  have Hn := Lib.hid hn
  have HX := Lib.hid hx
  have HB := Lib.hid hb
  have HE := Lib.hid hE
  have HBL : Hid (B < w.heap.size) := at_lt hE.b
  have HRD := Lib.hid hrd
  have HRA := Lib.hid (rdE_all hb hrd)
  have HF0 : Hid (peerR nm us st nt code id xs = if 0 ≠ 0 then noR st nt 0 else peerM nm us st nt ⟨2, mi, mt, mv, ms⟩) := by unfold Hid peerR; rw [hrd]; try rfl
  clear hE hn hx hb hrd
  go_enter Try.func55, Try.ntmps55
  go_upto_region 1 with fail
  obtain ⟨wb, hwb⟩ : ∃ wb, (w.alloc (.cells #[.int .i64 code, .int .i64 id, .slice A n c] 24)).alloc zPk = wb := ⟨_, rfl⟩
  have HP : Hid (wb.heap[w.heap.size]? = some (.cells #[.int .i64 code, .int .i64 id, .slice A n c] 24 (0, 0))) := by unfold Hid; rw [← hwb]; exact at_ext (at_new w _)
  have HZ : Hid (wb.heap[w.heap.size + 1]? = some zPk) := by unfold Hid; rw [← hwb]; exact at_new1 (by simp)
  have HW : Hid (Ext w wb) := by unfold Hid; rw [← hwb]; exact inferInstance
  rw [hwb]
  clear hwb
  have p0 : wb.cell? ⟨w.heap.size, 0, none⟩ = some (.int .i64 code) := at_cell HP.out 0
  have p1 : wb.cell? ⟨w.heap.size, 1, none⟩ = some (.int .i64 id) := at_cell HP.out 1
  have p2 : wb.cell? ⟨w.heap.size, 2, none⟩ = some (.slice A n c) := at_cell HP.out 2
  go_wp2_with fail
  refine (eread_any code id A n c xs Hn.out hn' hnc HB.out _ (HX.out.ext (h := HW.out))).mono ?_
  rintro e w1 ⟨A1, k1, rfl, ho1, hb1⟩
  rw [HRD.out] at ho1 ⊢
  simp only at ho1 ⊢
  obtain ⟨tb, htb⟩ : ∃ tb, strOfNums ms = tb := ⟨_, rfl⟩
  have HTB := Lib.hid htb
  rw [htb]
  have X1 : Hid (Ext wb w1) := ⟨hb1⟩
  have HO1 := Lib.hid ho1
  have pp : ∀ o, (w1.alloc o).heap[w1.heap.size]? = some o := at_new w1
  clear ho1 hb1 p0 p1 p2 htb
  go_upto_region 4 with
    (refine wpList_store_row_o rfl 52 (.tmp 7) (.tmp 19) rfl w1.heap.size #[.int .i64 2, .int .i64 mi, .int .i64 mt, .slice A1 mv.length k1, .string tb] rfl rfl 52 zMs (pp _) (by kernel_rfl) rfl (by simp [Value.oneCell']) ?_
     intro w2 hr2 ho2 hz2 hb2
     have HM2 := Lib.hid hr2
     have X12 : Hid (Ext w1 w2) := ⟨hb2 _ _ (inferInstance : Ext w1 (w1.alloc _)).out (Nat.le_refl _)⟩
     clear hr2 ho2 hz2 hb2 pp)
  have X2 : Hid (Ext w w2) := Ext.trans_ HW.out (Ext.trans_ X1.out X12.out)
  have HZ2 : Hid (w2.heap[w.heap.size + 1]? = some zPk) := at_ext (h := Ext.trans_ X1.out X12.out) HZ.out
  have HE2 := Lib.hid (HE.out.ext (h := X2.out))
  have HO2 := Lib.hid (own_ext (h := X12.out) HO1.out)
  have m0 : w2.cell? ⟨w1.heap.size, 0, none⟩ = some (.int .i64 2) := at_cell HM2.out 0
  have m1 : w2.cell? ⟨w1.heap.size, 1, none⟩ = some (.int .i64 mi) := at_cell HM2.out 1
  have m2 : w2.cell? ⟨w1.heap.size, 2, none⟩ = some (.int .i64 mt) := at_cell HM2.out 2
  have m4 : w2.cell? ⟨w1.heap.size, 4, none⟩ = some (.string tb) := at_cell HM2.out 4
  have s2 : w2.cell? ⟨B, 2, none⟩ = some (.int .i64 st) := at_cell HE2.out.b 2
  have g2 : w2.frozen? ⟨B, 2, none⟩ = false := at_frozen HE2.out.b 2
  have HF : Hid (peerR nm us st nt code id xs = noR st nt 90) := HF0.out.trans ((if_neg (by simp)).trans (if_pos rfl))
  go_wp2_with
    (refine wpList_store_row rfl 24 (.tmp 4) (.tmp 30) rfl (w.heap.size + 1) #[.int .i64 0, .int .i64 0, .slice none 0 0] rfl rfl 24 #[.int .i64 0, .int .i64 0, .slice none 0 0] HZ2.out (by kernel_rfl) rfl (by simp [Value.oneCell']) ?_)
  refine bodyPost_ret (results_cell_row3 Try.results55 _ _ (w.heap.size + 1) 24 #[.int .i64 0, .int .i64 0, .slice none 0 0] (0, 0) _ (.bool false) (.int .i64 90) rfl rfl rfl (setRow_heap _ _ _ _ _ _ HZ2.out) Try.underlying24 rfl (by kernel_rfl)) rfl ?_
  rw [HF.out]
  exact ⟨none, 0, rfl, own_nil _ _ _ _, HE2.out.rowY (by have := HBL.out; omega) _, (But.of (h := X2.out)).rowY (by omega) _⟩
set_option maxRecDepth 100000 in
set_option maxHeartbeats 4000000 in
theorem ptake_b3 (B T : Nat) (nm : ByteArray) (st : Int) (nt : ByteArray) (us : List SV) (code id : Int) (A : Option Addr) (n c : Nat) (xs : List Int) (hn : xs.length = n) (hn' : n ≤ 140737488355000) (hnc : n ≤ c) (hb : Byt xs) (w : World) (hx : Cells w A (nums .u8 xs)) (hE : EPeer w B T nm st nt us) (mi mt : Int) (mv ms : List Int) (hrd : rdE code id xs = (⟨3, mi, mt, mv, ms⟩, 0)) (z : st ≠ 2) :
    Calls Try.prog 55 #[.pointer (some ⟨B, 0, none⟩), .agg #[.int .i64 code, .int .i64 id, .slice A n c]] w (PtTells B T nm us (peerR nm us st nt code id xs) w) := by
  have Hn := Lib.hid hn
  have HX := Lib.hid hx
  have HB := Lib.hid hb
  have HE := Lib.hid hE
  have HBL : Hid (B < w.heap.size) := at_lt hE.b
  have HRD := Lib.hid hrd
  have HRA := Lib.hid (rdE_all hb hrd)
  have HF0 : Hid (peerR nm us st nt code id xs = if 0 ≠ 0 then noR st nt 0 else peerM nm us st nt ⟨3, mi, mt, mv, ms⟩) := by unfold Hid peerR; rw [hrd]; try rfl
  clear hE hn hx hb hrd
  go_enter Try.func55, Try.ntmps55
  go_upto_region 1 with fail
  obtain ⟨wb, hwb⟩ : ∃ wb, (w.alloc (.cells #[.int .i64 code, .int .i64 id, .slice A n c] 24)).alloc zPk = wb := ⟨_, rfl⟩
  have HP : Hid (wb.heap[w.heap.size]? = some (.cells #[.int .i64 code, .int .i64 id, .slice A n c] 24 (0, 0))) := by unfold Hid; rw [← hwb]; exact at_ext (at_new w _)
  have HZ : Hid (wb.heap[w.heap.size + 1]? = some zPk) := by unfold Hid; rw [← hwb]; exact at_new1 (by simp)
  have HW : Hid (Ext w wb) := by unfold Hid; rw [← hwb]; exact inferInstance
  rw [hwb]
  clear hwb
  have p0 : wb.cell? ⟨w.heap.size, 0, none⟩ = some (.int .i64 code) := at_cell HP.out 0
  have p1 : wb.cell? ⟨w.heap.size, 1, none⟩ = some (.int .i64 id) := at_cell HP.out 1
  have p2 : wb.cell? ⟨w.heap.size, 2, none⟩ = some (.slice A n c) := at_cell HP.out 2
  go_wp2_with fail
  refine (eread_any code id A n c xs Hn.out hn' hnc HB.out _ (HX.out.ext (h := HW.out))).mono ?_
  rintro e w1 ⟨A1, k1, rfl, ho1, hb1⟩
  rw [HRD.out] at ho1 ⊢
  simp only at ho1 ⊢
  obtain ⟨tb, htb⟩ : ∃ tb, strOfNums ms = tb := ⟨_, rfl⟩
  have HTB := Lib.hid htb
  rw [htb]
  have X1 : Hid (Ext wb w1) := ⟨hb1⟩
  have HO1 := Lib.hid ho1
  have pp : ∀ o, (w1.alloc o).heap[w1.heap.size]? = some o := at_new w1
  clear ho1 hb1 p0 p1 p2 htb
  go_upto_region 4 with
    (refine wpList_store_row_o rfl 52 (.tmp 7) (.tmp 19) rfl w1.heap.size #[.int .i64 3, .int .i64 mi, .int .i64 mt, .slice A1 mv.length k1, .string tb] rfl rfl 52 zMs (pp _) (by kernel_rfl) rfl (by simp [Value.oneCell']) ?_
     intro w2 hr2 ho2 hz2 hb2
     have HM2 := Lib.hid hr2
     have X12 : Hid (Ext w1 w2) := ⟨hb2 _ _ (inferInstance : Ext w1 (w1.alloc _)).out (Nat.le_refl _)⟩
     clear hr2 ho2 hz2 hb2 pp)
  have X2 : Hid (Ext w w2) := Ext.trans_ HW.out (Ext.trans_ X1.out X12.out)
  have HZ2 : Hid (w2.heap[w.heap.size + 1]? = some zPk) := at_ext (h := Ext.trans_ X1.out X12.out) HZ.out
  have HE2 := Lib.hid (HE.out.ext (h := X2.out))
  have HO2 := Lib.hid (own_ext (h := X12.out) HO1.out)
  have m0 : w2.cell? ⟨w1.heap.size, 0, none⟩ = some (.int .i64 3) := at_cell HM2.out 0
  have m1 : w2.cell? ⟨w1.heap.size, 1, none⟩ = some (.int .i64 mi) := at_cell HM2.out 1
  have m2 : w2.cell? ⟨w1.heap.size, 2, none⟩ = some (.int .i64 mt) := at_cell HM2.out 2
  have m4 : w2.cell? ⟨w1.heap.size, 4, none⟩ = some (.string tb) := at_cell HM2.out 4
  have s2 : w2.cell? ⟨B, 2, none⟩ = some (.int .i64 st) := at_cell HE2.out.b 2
  have g2 : w2.frozen? ⟨B, 2, none⟩ = false := at_frozen HE2.out.b 2
  have HF : Hid (peerR nm us st nt code id xs = noR st nt 9) := HF0.out.trans ((if_neg (by simp)).trans (by unfold peerM; rw [if_neg (by simp), if_pos ⟨rfl, z⟩]))
  have zb : (st != 2) = true := by simpa using z
  clear z
  go_wp2_with
    (refine wpList_store_row rfl 24 (.tmp 4) (.tmp 42) rfl (w.heap.size + 1) #[.int .i64 0, .int .i64 0, .slice none 0 0] rfl rfl 24 #[.int .i64 0, .int .i64 0, .slice none 0 0] HZ2.out (by kernel_rfl) rfl (by simp [Value.oneCell']) ?_)
  refine bodyPost_ret (results_cell_row3 Try.results55 _ _ (w.heap.size + 1) 24 #[.int .i64 0, .int .i64 0, .slice none 0 0] (0, 0) _ (.bool false) (.int .i64 9) rfl rfl rfl (setRow_heap _ _ _ _ _ _ HZ2.out) Try.underlying24 rfl (by kernel_rfl)) rfl ?_
  rw [HF.out]
  exact ⟨none, 0, rfl, own_nil _ _ _ _, HE2.out.rowY (by have := HBL.out; omega) _, (But.of (h := X2.out)).rowY (by omega) _⟩
set_option maxRecDepth 100000 in
set_option maxHeartbeats 4000000 in
theorem ptake_b4 (B T : Nat) (nm : ByteArray) (st : Int) (nt : ByteArray) (us : List SV) (code id : Int) (A : Option Addr) (n c : Nat) (xs : List Int) (hn : xs.length = n) (hn' : n ≤ 140737488355000) (hnc : n ≤ c) (hb : Byt xs) (w : World) (hx : Cells w A (nums .u8 xs)) (hE : EPeer w B T nm st nt us) (mi mt : Int) (mv ms : List Int) (hrd : rdE code id xs = (⟨3, mi, mt, mv, ms⟩, 0)) (z : st = 2) :
    Calls Try.prog 55 #[.pointer (some ⟨B, 0, none⟩), .agg #[.int .i64 code, .int .i64 id, .slice A n c]] w (PtTells B T nm us (peerR nm us st nt code id xs) w) := by
  have Hn := Lib.hid hn
  have HX := Lib.hid hx
  have HB := Lib.hid hb
  have HE := Lib.hid hE
  have HBL : Hid (B < w.heap.size) := at_lt hE.b
  have HRD := Lib.hid hrd
  have HRA := Lib.hid (rdE_all hb hrd)
  have HF0 : Hid (peerR nm us st nt code id xs = if 0 ≠ 0 then noR st nt 0 else peerM nm us st nt ⟨3, mi, mt, mv, ms⟩) := by unfold Hid peerR; rw [hrd]; try rfl
  clear hE hn hx hb hrd
  go_enter Try.func55, Try.ntmps55
  go_upto_region 1 with fail
  obtain ⟨wb, hwb⟩ : ∃ wb, (w.alloc (.cells #[.int .i64 code, .int .i64 id, .slice A n c] 24)).alloc zPk = wb := ⟨_, rfl⟩
  have HP : Hid (wb.heap[w.heap.size]? = some (.cells #[.int .i64 code, .int .i64 id, .slice A n c] 24 (0, 0))) := by unfold Hid; rw [← hwb]; exact at_ext (at_new w _)
  have HZ : Hid (wb.heap[w.heap.size + 1]? = some zPk) := by unfold Hid; rw [← hwb]; exact at_new1 (by simp)
  have HW : Hid (Ext w wb) := by unfold Hid; rw [← hwb]; exact inferInstance
  rw [hwb]
  clear hwb
  have p0 : wb.cell? ⟨w.heap.size, 0, none⟩ = some (.int .i64 code) := at_cell HP.out 0
  have p1 : wb.cell? ⟨w.heap.size, 1, none⟩ = some (.int .i64 id) := at_cell HP.out 1
  have p2 : wb.cell? ⟨w.heap.size, 2, none⟩ = some (.slice A n c) := at_cell HP.out 2
  go_wp2_with fail
  refine (eread_any code id A n c xs Hn.out hn' hnc HB.out _ (HX.out.ext (h := HW.out))).mono ?_
  rintro e w1 ⟨A1, k1, rfl, ho1, hb1⟩
  rw [HRD.out] at ho1 ⊢
  simp only at ho1 ⊢
  obtain ⟨tb, htb⟩ : ∃ tb, strOfNums ms = tb := ⟨_, rfl⟩
  have HTB := Lib.hid htb
  rw [htb]
  have X1 : Hid (Ext wb w1) := ⟨hb1⟩
  have HO1 := Lib.hid ho1
  have pp : ∀ o, (w1.alloc o).heap[w1.heap.size]? = some o := at_new w1
  clear ho1 hb1 p0 p1 p2 htb
  go_upto_region 4 with
    (refine wpList_store_row_o rfl 52 (.tmp 7) (.tmp 19) rfl w1.heap.size #[.int .i64 3, .int .i64 mi, .int .i64 mt, .slice A1 mv.length k1, .string tb] rfl rfl 52 zMs (pp _) (by kernel_rfl) rfl (by simp [Value.oneCell']) ?_
     intro w2 hr2 ho2 hz2 hb2
     have HM2 := Lib.hid hr2
     have X12 : Hid (Ext w1 w2) := ⟨hb2 _ _ (inferInstance : Ext w1 (w1.alloc _)).out (Nat.le_refl _)⟩
     clear hr2 ho2 hz2 hb2 pp)
  have X2 : Hid (Ext w w2) := Ext.trans_ HW.out (Ext.trans_ X1.out X12.out)
  have HZ2 : Hid (w2.heap[w.heap.size + 1]? = some zPk) := at_ext (h := Ext.trans_ X1.out X12.out) HZ.out
  have HE2 := Lib.hid (HE.out.ext (h := X2.out))
  have HO2 := Lib.hid (own_ext (h := X12.out) HO1.out)
  have m0 : w2.cell? ⟨w1.heap.size, 0, none⟩ = some (.int .i64 3) := at_cell HM2.out 0
  have m1 : w2.cell? ⟨w1.heap.size, 1, none⟩ = some (.int .i64 mi) := at_cell HM2.out 1
  have m2 : w2.cell? ⟨w1.heap.size, 2, none⟩ = some (.int .i64 mt) := at_cell HM2.out 2
  have m4 : w2.cell? ⟨w1.heap.size, 4, none⟩ = some (.string tb) := at_cell HM2.out 4
  have s2 : w2.cell? ⟨B, 2, none⟩ = some (.int .i64 st) := at_cell HE2.out.b 2
  have g2 : w2.frozen? ⟨B, 2, none⟩ = false := at_frozen HE2.out.b 2
  have HF : Hid (peerR nm us st nt code id xs = noR 3 nt 0) := HF0.out.trans ((if_neg (by simp)).trans (by unfold peerM; rw [if_neg (by simp), if_neg (fun h => h.2 z), if_pos rfl]))
  have zb : (st != 2) = false := by simpa using z
  clear z
  go_upto_region 12 with fail
  obtain ⟨w3, hw3⟩ : ∃ w3, w2.setCell ⟨B, 2, none⟩ (.int .i64 3) = w3 := ⟨_, rfl⟩
  have HE3 : Hid (EPeer w3 B T nm 3 nt us) := by unfold Hid; rw [← hw3]; exact HE2.out.setS 3
  have HZ3 : Hid (w3.heap[w.heap.size + 1]? = some zPk) := by unfold Hid; rw [← hw3]; exact at_other (p := ⟨B, 2, none⟩) _ HZ2.out (by have := HBL.out; show w.heap.size + 1 ≠ B; omega)
  have HM3 : Hid (w3.heap[w1.heap.size]? = some (.cells #[.int .i64 3, .int .i64 mi, .int .i64 mt, .slice A1 mv.length k1, .string tb] 52 (0, 0))) := by unfold Hid; rw [← hw3]; exact at_other (p := ⟨B, 2, none⟩) _ HM2.out (by have h1 := HBL.out; have h2 := HW.out.out.size; have h3 := X1.out.out.size; show w1.heap.size ≠ B; omega)
  have HB3 : Hid (But w w3 B) := by unfold Hid; rw [← hw3]; exact (But.of (h := X2.out)).set 2 _
  rw [hw3]
  clear hw3 s2 g2 m0 m1 m2 m4
  go_wp2_with
    (refine wpList_store_row rfl 24 (.tmp 4) (.tmp 50) rfl (w.heap.size + 1) #[.int .i64 0, .int .i64 0, .slice none 0 0] rfl rfl 24 #[.int .i64 0, .int .i64 0, .slice none 0 0] HZ3.out (by kernel_rfl) rfl (by simp [Value.oneCell']) ?_)
  refine bodyPost_ret (results_cell_row3 Try.results55 _ _ (w.heap.size + 1) 24 #[.int .i64 0, .int .i64 0, .slice none 0 0] (0, 0) _ (.bool false) (.int .i64 0) rfl rfl rfl (setRow_heap _ _ _ _ _ _ HZ3.out) Try.underlying24 rfl (by kernel_rfl)) rfl ?_
  rw [HF.out]
  exact ⟨none, 0, rfl, own_nil _ _ _ _, HE3.out.rowY (by have := HBL.out; omega) _, HB3.out.rowY (by omega) _⟩
set_option maxRecDepth 100000 in
set_option maxHeartbeats 4000000 in
theorem ptake_b5 (B T : Nat) (nm : ByteArray) (st : Int) (nt : ByteArray) (us : List SV) (code id : Int) (A : Option Addr) (n c : Nat) (xs : List Int) (hn : xs.length = n) (hn' : n ≤ 140737488355000) (hnc : n ≤ c) (hb : Byt xs) (w : World) (hx : Cells w A (nums .u8 xs)) (hE : EPeer w B T nm st nt us) (mi mt : Int) (mv ms : List Int) (hrd : rdE code id xs = (⟨4, mi, mt, mv, ms⟩, 0)) :
    Calls Try.prog 55 #[.pointer (some ⟨B, 0, none⟩), .agg #[.int .i64 code, .int .i64 id, .slice A n c]] w (PtTells B T nm us (peerR nm us st nt code id xs) w) := by
  have Hn := Lib.hid hn
  have HX := Lib.hid hx
  have HB := Lib.hid hb
  have HE := Lib.hid hE
  have HBL : Hid (B < w.heap.size) := at_lt hE.b
  have HRD := Lib.hid hrd
  have HRA := Lib.hid (rdE_all hb hrd)
  have HF0 : Hid (peerR nm us st nt code id xs = if 0 ≠ 0 then noR st nt 0 else peerM nm us st nt ⟨4, mi, mt, mv, ms⟩) := by unfold Hid peerR; rw [hrd]; try rfl
  clear hE hn hx hb hrd
  go_enter Try.func55, Try.ntmps55
  go_upto_region 1 with fail
  obtain ⟨wb, hwb⟩ : ∃ wb, (w.alloc (.cells #[.int .i64 code, .int .i64 id, .slice A n c] 24)).alloc zPk = wb := ⟨_, rfl⟩
  have HP : Hid (wb.heap[w.heap.size]? = some (.cells #[.int .i64 code, .int .i64 id, .slice A n c] 24 (0, 0))) := by unfold Hid; rw [← hwb]; exact at_ext (at_new w _)
  have HZ : Hid (wb.heap[w.heap.size + 1]? = some zPk) := by unfold Hid; rw [← hwb]; exact at_new1 (by simp)
  have HW : Hid (Ext w wb) := by unfold Hid; rw [← hwb]; exact inferInstance
  rw [hwb]
  clear hwb
  have p0 : wb.cell? ⟨w.heap.size, 0, none⟩ = some (.int .i64 code) := at_cell HP.out 0
  have p1 : wb.cell? ⟨w.heap.size, 1, none⟩ = some (.int .i64 id) := at_cell HP.out 1
  have p2 : wb.cell? ⟨w.heap.size, 2, none⟩ = some (.slice A n c) := at_cell HP.out 2
  go_wp2_with fail
  refine (eread_any code id A n c xs Hn.out hn' hnc HB.out _ (HX.out.ext (h := HW.out))).mono ?_
  rintro e w1 ⟨A1, k1, rfl, ho1, hb1⟩
  rw [HRD.out] at ho1 ⊢
  simp only at ho1 ⊢
  obtain ⟨tb, htb⟩ : ∃ tb, strOfNums ms = tb := ⟨_, rfl⟩
  have HTB := Lib.hid htb
  rw [htb]
  have X1 : Hid (Ext wb w1) := ⟨hb1⟩
  have HO1 := Lib.hid ho1
  have pp : ∀ o, (w1.alloc o).heap[w1.heap.size]? = some o := at_new w1
  clear ho1 hb1 p0 p1 p2 htb
  go_upto_region 4 with
    (refine wpList_store_row_o rfl 52 (.tmp 7) (.tmp 19) rfl w1.heap.size #[.int .i64 4, .int .i64 mi, .int .i64 mt, .slice A1 mv.length k1, .string tb] rfl rfl 52 zMs (pp _) (by kernel_rfl) rfl (by simp [Value.oneCell']) ?_
     intro w2 hr2 ho2 hz2 hb2
     have HM2 := Lib.hid hr2
     have X12 : Hid (Ext w1 w2) := ⟨hb2 _ _ (inferInstance : Ext w1 (w1.alloc _)).out (Nat.le_refl _)⟩
     clear hr2 ho2 hz2 hb2 pp)
  have X2 : Hid (Ext w w2) := Ext.trans_ HW.out (Ext.trans_ X1.out X12.out)
  have HZ2 : Hid (w2.heap[w.heap.size + 1]? = some zPk) := at_ext (h := Ext.trans_ X1.out X12.out) HZ.out
  have HE2 := Lib.hid (HE.out.ext (h := X2.out))
  have HO2 := Lib.hid (own_ext (h := X12.out) HO1.out)
  have m0 : w2.cell? ⟨w1.heap.size, 0, none⟩ = some (.int .i64 4) := at_cell HM2.out 0
  have m1 : w2.cell? ⟨w1.heap.size, 1, none⟩ = some (.int .i64 mi) := at_cell HM2.out 1
  have m2 : w2.cell? ⟨w1.heap.size, 2, none⟩ = some (.int .i64 mt) := at_cell HM2.out 2
  have m4 : w2.cell? ⟨w1.heap.size, 4, none⟩ = some (.string tb) := at_cell HM2.out 4
  have s2 : w2.cell? ⟨B, 2, none⟩ = some (.int .i64 st) := at_cell HE2.out.b 2
  have g2 : w2.frozen? ⟨B, 2, none⟩ = false := at_frozen HE2.out.b 2
  have HF : Hid (peerR nm us st nt code id xs = noR 4 nt 0) := HF0.out.trans ((if_neg (by simp)).trans (by unfold peerM; rw [if_neg (by simp), if_neg (by simp), if_neg (by simp), if_pos rfl]))
  go_upto_region 15 with fail
  obtain ⟨w3, hw3⟩ : ∃ w3, w2.setCell ⟨B, 2, none⟩ (.int .i64 4) = w3 := ⟨_, rfl⟩
  have HE3 : Hid (EPeer w3 B T nm 4 nt us) := by unfold Hid; rw [← hw3]; exact HE2.out.setS 4
  have HZ3 : Hid (w3.heap[w.heap.size + 1]? = some zPk) := by unfold Hid; rw [← hw3]; exact at_other (p := ⟨B, 2, none⟩) _ HZ2.out (by have := HBL.out; show w.heap.size + 1 ≠ B; omega)
  have HM3 : Hid (w3.heap[w1.heap.size]? = some (.cells #[.int .i64 4, .int .i64 mi, .int .i64 mt, .slice A1 mv.length k1, .string tb] 52 (0, 0))) := by unfold Hid; rw [← hw3]; exact at_other (p := ⟨B, 2, none⟩) _ HM2.out (by have h1 := HBL.out; have h2 := HW.out.out.size; have h3 := X1.out.out.size; show w1.heap.size ≠ B; omega)
  have HB3 : Hid (But w w3 B) := by unfold Hid; rw [← hw3]; exact (But.of (h := X2.out)).set 2 _
  rw [hw3]
  clear hw3 s2 g2 m0 m1 m2 m4
  go_wp2_with
    (refine wpList_store_row rfl 24 (.tmp 4) (.tmp 58) rfl (w.heap.size + 1) #[.int .i64 0, .int .i64 0, .slice none 0 0] rfl rfl 24 #[.int .i64 0, .int .i64 0, .slice none 0 0] HZ3.out (by kernel_rfl) rfl (by simp [Value.oneCell']) ?_)
  refine bodyPost_ret (results_cell_row3 Try.results55 _ _ (w.heap.size + 1) 24 #[.int .i64 0, .int .i64 0, .slice none 0 0] (0, 0) _ (.bool false) (.int .i64 0) rfl rfl rfl (setRow_heap _ _ _ _ _ _ HZ3.out) Try.underlying24 rfl (by kernel_rfl)) rfl ?_
  rw [HF.out]
  exact ⟨none, 0, rfl, own_nil _ _ _ _, HE3.out.rowY (by have := HBL.out; omega) _, HB3.out.rowY (by omega) _⟩
end Go.Proofs.Ytobddmpiljknpaa
