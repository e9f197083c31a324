/-
  eap: Server.Start, end. Conditions: sizes.
-/
import Derived.Test.YtobddmpiljknpaaEbC
namespace Go.Proofs.Ytobddmpiljknpaa
open Go.RowKit
set_option linter.unusedVariables false
set_option linter.unusedSimpArgs false

abbrev noB : ByteArray := ⟨#[]⟩
def startS (s : SS) : SS := askS { s with st := 1, who := noB, says := noB } 1 [] []
def endS (s : SS) (code : Int) : SS := { s with st := if code = 3 then 3 else 4, who := if code = 3 then s.says else noB }
def StTells (B T : Nat) (nm : ByteArray) (tries : Int) (s' : SS) (us : List SV) (w : World) (e : Ending) (w' : World) : Prop :=
  ∃ A k LA lk, e = .returned (.tuple #[.agg #[.int .i64 s'.lc, .int .i64 s'.li, .slice A s'.ld.length k], .int .i64 0]) ∧ w'.ownsRow w.heap.size 5 1 (.slice A s'.ld.length k) s'.ld.length (nums .u8 s'.ld) ∧ ESrv w' B T nm tries s' us LA lk ∧ But w w' B ∧ ∀ ad, LA = some ad → w.heap.size ≤ ad.block
def EndTells (B T : Nat) (nm : ByteArray) (tries : Int) (s' : SS) (us : List SV) (LA : Option Addr) (lk : Nat) (r : (Int × Int) × List Int × Int) (w : World) (e : Ending) (w' : World) : Prop :=
  ∃ A k, e = .returned (.tuple #[.agg #[.int .i64 r.1.1, .int .i64 r.1.2, .slice A r.2.1.length k], .bool true, .int .i64 0]) ∧ w'.ownsRow w.heap.size 5 1 (.slice A r.2.1.length k) r.2.1.length (nums .u8 r.2.1) ∧ ESrv w' B T nm tries s' us LA lk ∧ But w w' B
set_option maxRecDepth 100000 in
set_option maxHeartbeats 4000000 in
theorem start4_any (B T : Nat) (nm : ByteArray) (tries : Int) (s : SS) (us : List SV) (LA : Option Addr) (lk : Nat) (w : World) (hE : ESrv w B T nm tries s us LA lk) :
    Calls Try.prog 40 #[.pointer (some ⟨B, 0, none⟩)] w (StTells B T nm tries (startS s) us w) := by
  have HE := Lib.hid hE
  have HBL : Hid (B < w.heap.size) := at_lt hE.b
  clear hE
  go_enter Try.func40, Try.ntmps40
  go_upto_region 3 with fail
  obtain ⟨wb, hwb⟩ : ∃ wb, w.alloc zPk = wb := ⟨_, rfl⟩
  have HZ : Hid (wb.heap[w.heap.size]? = some zPk) := by unfold Hid; rw [← hwb]; exact at_new w _
  have HW : Hid (Ext w wb) := by unfold Hid; rw [← hwb]; exact inferInstance
  rw [hwb]
  clear hwb
  have HE0 : Hid (ESrv wb B T nm tries s us LA lk) := HE.out.ext (h := HW.out)
  have s4 : wb.cell? ⟨B, 4, none⟩ = some (.int .i64 s.st) := at_cell HE0.out.b 4
  have s6 : wb.cell? ⟨B, 6, none⟩ = some (.string s.says) := at_cell HE0.out.b 6
  have s7 : wb.cell? ⟨B, 7, none⟩ = some (.string s.who) := at_cell HE0.out.b 7
  have f4 : wb.frozen? ⟨B, 4, none⟩ = false := at_frozen HE0.out.b 4
  have f6 : wb.frozen? ⟨B, 6, none⟩ = false := at_frozen HE0.out.b 6
  have f7 : wb.frozen? ⟨B, 7, none⟩ = false := at_frozen HE0.out.b 7
  go_upto_region 4 with fail
  obtain ⟨w1, hw1⟩ : ∃ w1, ((wb.setCell ⟨B, 4, none⟩ (.int .i64 1)).setCell ⟨B, 7, none⟩ (.string noB)).setCell ⟨B, 6, none⟩ (.string noB) = w1 := ⟨_, rfl⟩
  have HE1 : Hid (ESrv w1 B T nm tries { s with st := 1, who := noB, says := noB } us LA lk) := by
    unfold Hid
    rw [← hw1]
    refine HE0.out.turn (s' := { s with st := 1, who := noB, says := noB }) ?_ (fun j hj => by rw [Below.heap_setCell _ _ _ _ hj, Below.heap_setCell _ _ _ _ hj, Below.heap_setCell _ _ _ _ hj]) rfl rfl HE0.out.id (by simp [World.setCell])
    have h := at_set (at_set (at_set HE0.out.b 4 (.int .i64 1)) 7 (.string noB)) 6 (.string noB)
    rwa [srv_st, srv_who, srv_says] at h
  have HB1 : Hid (But w w1 B) := by unfold Hid; rw [← hw1]; exact (((But.of (h := HW.out)).set 4 _).set 7 _).set 6 _
  have HZ1 : Hid (w1.heap[w.heap.size]? = some zPk) := by
    unfold Hid
    have hb := HBL.out
    have hj : w.heap.size ≠ B := by omega
    rw [← hw1, Below.heap_setCell _ _ _ _ hj, Below.heap_setCell _ _ _ _ hj, Below.heap_setCell _ _ _ _ hj]
    exact HZ.out
  have HS1 : Hid (wb.heap.size ≤ w1.heap.size) := by unfold Hid; rw [← hw1]; simp [World.setCell]
  rw [hw1]
  clear hw1 s4 s6 s7 f4 f6 f7
  go_wp2_with fail
  refine (ask4_any B T nm tries { s with st := 1, who := noB, says := noB } us LA lk 1 none 0 0 [] noB rfl (by omega) (by decide) _ (Cells.nil_ _ _) (fun _ h => by cases h) HE1.out).mono ?_
  rintro e w2 ⟨A2, k2, LA', lk', rfl, ho2, hE2, hb2, hl2⟩
  have HL2 := Lib.hid hl2
  have HZ2 : Hid (w2.heap[w.heap.size]? = some zPk) := hb2.at (by have := HBL.out; omega) HZ1.out
  have HO2 := Lib.hid ho2
  have HE2 := Lib.hid hE2
  have HB2 : Hid (But w w2 B) := HB1.out.trans hb2
  have HNE : Hid ((Value.slice A2 (askS { s with st := 1, who := noB, says := noB } 1 [] (strB noB)).ld.length k2).ownBlock ≠ some w.heap.size) := own_type_ne ho2 HZ2.out (by decide)
  clear ho2 hE2 hb2 hl2
  obtain ⟨s2, hs2⟩ : ∃ s2, askS { s with st := 1, who := noB, says := noB } 1 [] (strB noB) = s2 := ⟨_, rfl⟩
  have HSS : Hid (startS s = s2) := hs2
  rw [hs2] at HO2 HE2 HNE ⊢
  clear hs2
  go_wp2_with
    (refine wpList_store_row rfl 24 (.tmp 2) (.tmp 18) rfl w.heap.size #[.int .i64 s2.lc, .int .i64 s2.li, .slice A2 s2.ld.length k2] rfl rfl 24 #[.int .i64 0, .int .i64 0, .slice none 0 0] HZ2.out (by kernel_rfl) rfl (by simp [Value.oneCell']) ?_)
  refine bodyPost_ret (results_cell_row2 Try.results40 _ _ w.heap.size 24 #[.int .i64 s2.lc, .int .i64 s2.li, .slice A2 s2.ld.length k2] (0, 0) _ (.int .i64 0) rfl rfl (setRow_heap _ _ _ _ _ _ HZ2.out) Try.underlying24 rfl (by kernel_rfl)) rfl ?_
  rw [HSS.out]
  have hsz := at_lt HZ.out
  have hs1 : wb.heap.size ≤ w1.heap.size := HS1.out
  refine ⟨A2, k2, LA', lk', rfl, own_weaken (own_setRow HO2.out HNE.out _) HB1.out.size, HE2.out.rowY HBL.out (fun ad ha => ?_) _, HB2.out.rowY (Nat.le_refl _) _, fun ad ha => ?_⟩
  · have := HL2.out ad ha
    omega
  · have := HL2.out ad ha
    omega
set_option maxRecDepth 100000 in
set_option maxHeartbeats 4000000 in
theorem end4_any (B T : Nat) (nm : ByteArray) (tries : Int) (s : SS) (us : List SV) (LA : Option Addr) (lk : Nat) (code id : Int) (w : World) (hE : ESrv w B T nm tries s us LA lk) :
    Calls Try.prog 83 #[.pointer (some ⟨B, 0, none⟩), .int .i64 code, .int .i64 id] w (EndTells B T nm tries (endS s code) us LA lk (wrE code id 0 [] []) w) := by
  have HE := Lib.hid hE
  have HBL : Hid (B < w.heap.size) := at_lt hE.b
  clear hE
  go_enter Try.func83, Try.ntmps83
  go_upto_region 1 with fail
  obtain ⟨wb, hwb⟩ : ∃ wb, w.alloc zPk = wb := ⟨_, rfl⟩
  have HZ : Hid (wb.heap[w.heap.size]? = some zPk) := by unfold Hid; rw [← hwb]; exact at_new w _
  have HW : Hid (Ext w wb) := by unfold Hid; rw [← hwb]; exact inferInstance
  rw [hwb]
  clear hwb
  have HE0 : Hid (ESrv wb B T nm tries s us LA lk) := HE.out.ext (h := HW.out)
  have s4 : wb.cell? ⟨B, 4, none⟩ = some (.int .i64 s.st) := at_cell HE0.out.b 4
  have s7 : wb.cell? ⟨B, 7, none⟩ = some (.string s.who) := at_cell HE0.out.b 7
  have f4 : wb.frozen? ⟨B, 4, none⟩ = false := at_frozen HE0.out.b 4
  have f7 : wb.frozen? ⟨B, 7, none⟩ = false := at_frozen HE0.out.b 7
  go_upto_region 2 with fail
  obtain ⟨w1, hw1⟩ : ∃ w1, (wb.setCell ⟨B, 4, none⟩ (.int .i64 4)).setCell ⟨B, 7, none⟩ (.string noB) = w1 := ⟨_, rfl⟩
  have HE1 : Hid (ESrv w1 B T nm tries { s with st := 4, who := noB } us LA lk) := by
    unfold Hid
    rw [← hw1]
    refine HE0.out.turn (s' := { s with st := 4, who := noB }) ?_ (fun j hj => by rw [Below.heap_setCell _ _ _ _ hj, Below.heap_setCell _ _ _ _ hj]) rfl rfl HE0.out.id (by simp [World.setCell])
    have h := at_set (at_set HE0.out.b 4 (.int .i64 4)) 7 (.string noB)
    rwa [srv_st, srv_who] at h
  have HB1 : Hid (But w w1 B) := by unfold Hid; rw [← hw1]; exact ((But.of (h := HW.out)).set 4 _).set 7 _
  have HZ1 : Hid (w1.heap[w.heap.size]? = some zPk) := by
    unfold Hid
    have hb := HBL.out
    have hj : w.heap.size ≠ B := by omega
    rw [← hw1, Below.heap_setCell _ _ _ _ hj, Below.heap_setCell _ _ _ _ hj]
    exact HZ.out
  rw [hw1]
  clear hw1 s4 s7 f4 f7
  by_cases c3 : code = 3
  · subst c3
    have s4 : w1.cell? ⟨B, 4, none⟩ = some (.int .i64 4) := at_cell HE1.out.b 4
    have s6 : w1.cell? ⟨B, 6, none⟩ = some (.string s.says) := at_cell HE1.out.b 6
    have s7 : w1.cell? ⟨B, 7, none⟩ = some (.string noB) := at_cell HE1.out.b 7
    have f4 : w1.frozen? ⟨B, 4, none⟩ = false := at_frozen HE1.out.b 4
    have f7 : w1.frozen? ⟨B, 7, none⟩ = false := at_frozen HE1.out.b 7
    go_upto_region 4 with fail
    obtain ⟨w2, hw2⟩ : ∃ w2, (w1.setCell ⟨B, 4, none⟩ (.int .i64 3)).setCell ⟨B, 7, none⟩ (.string s.says) = w2 := ⟨_, rfl⟩
    have HE2 : Hid (ESrv w2 B T nm tries (endS s 3) us LA lk) := by
      unfold Hid
      rw [← hw2]
      refine HE1.out.turn (s' := endS s 3) ?_ (fun j hj => by rw [Below.heap_setCell _ _ _ _ hj, Below.heap_setCell _ _ _ _ hj]) rfl rfl HE0.out.id (by simp [World.setCell])
      have h := at_set (at_set HE1.out.b 4 (.int .i64 3)) 7 (.string s.says)
      rwa [srv_st, srv_who] at h
    have HB2 : Hid (But w w2 B) := by unfold Hid; rw [← hw2]; exact (HB1.out.set 4 _).set 7 _
    have HZ2 : Hid (w2.heap[w.heap.size]? = some zPk) := by
      unfold Hid
      have hb := HBL.out
      have hj : w.heap.size ≠ B := by omega
      rw [← hw2, Below.heap_setCell _ _ _ _ hj, Below.heap_setCell _ _ _ _ hj]
      exact HZ1.out
    rw [hw2]
    clear hw2 s4 s6 s7 f4 f7
    go_wp2_with fail
    refine (write_any 3 id 0 none 0 0 [] noB rfl (by omega) (by decide) _ (Cells.nil_ _ _)).mono ?_
    rintro e w3 ⟨A3, k3, rfl, ho3, hb3⟩
    obtain ⟨⟨⟨ci, ii⟩, d, er⟩, hwr⟩ : ∃ F, wrE 3 id 0 [] (strB noB) = F := ⟨_, rfl⟩
    have HWR : Hid (wrE 3 id 0 [] [] = ((ci, ii), d, er)) := hwr
    rw [hwr] at ho3 ⊢
    simp only at ho3 ⊢
    have X3 : Hid (Ext w2 w3) := ⟨hb3⟩
    have HO3 := Lib.hid ho3
    have pp : ∀ o, (w3.alloc o).heap[w3.heap.size]? = some o := at_new w3
    clear ho3 hb3 hwr
    go_upto_region 5 with
      (refine wpList_store_row_o rfl 24 (.tmp 9) (.tmp 34) rfl w3.heap.size #[.int .i64 ci, .int .i64 ii, .slice A3 d.length k3] rfl rfl 24 #[.int .i64 0, .int .i64 0, .slice none 0 0] (pp _) (by kernel_rfl) rfl (by simp [Value.oneCell']) ?_
       intro w4 hr4 ho4 hz4 hb4
       have HR4 := Lib.hid hr4
       have X34 : Hid (Ext w3 w4) := ⟨hb4 _ _ (inferInstance : Ext w3 (w3.alloc _)).out (Nat.le_refl _)⟩
       clear hr4 ho4 hz4 hb4 pp)
    have X4 : Hid (Ext w2 w4) := Ext.trans_ X3.out X34.out
    have HZ4 : Hid (w4.heap[w.heap.size]? = some zPk) := at_ext (h := X4.out) HZ2.out
    have HE4 := Lib.hid (HE2.out.ext (h := X4.out))
    have HO4 := Lib.hid (own_ext (h := X34.out) HO3.out)
    have HNE : Hid ((Value.slice A3 d.length k3).ownBlock ≠ some w.heap.size) := own_type_ne HO4.out HZ4.out (by decide)
    go_wp2_with
      (first
       | (refine wpList_load_row rfl 24 (.tmp 9) rfl w3.heap.size rfl 24 #[.int .i64 ci, .int .i64 ii, .slice A3 d.length k3] (0, 0) _ HR4.out Try.underlying24 rfl (by kernel_rfl) ?_)
       | (refine wpList_store_row rfl 24 (.tmp 6) (.tmp 36) rfl w.heap.size #[.int .i64 ci, .int .i64 ii, .slice A3 d.length k3] rfl rfl 24 #[.int .i64 0, .int .i64 0, .slice none 0 0] HZ4.out (by kernel_rfl) rfl (by simp [Value.oneCell']) ?_))
    refine bodyPost_ret (results_cell_row3 Try.results83 _ _ w.heap.size 24 #[.int .i64 ci, .int .i64 ii, .slice A3 d.length k3] (0, 0) _ (.bool true) (.int .i64 0) rfl rfl rfl (setRow_heap _ _ _ _ _ _ HZ4.out) Try.underlying24 rfl (by kernel_rfl)) rfl ?_
    rw [HWR.out]
    refine ⟨A3, k3, rfl, own_weaken (own_setRow HO4.out HNE.out _) HB2.out.size, HE4.out.rowY HBL.out (fun ad ha => ?_) _, (HB2.out.step X4.out).rowY (Nat.le_refl _) _⟩
    have := (HE.out.far ad ha).2
    omega
  · have c3b : (code == 3) = false := by simpa using c3
    have HE2 : Hid (ESrv w1 B T nm tries (endS s code) us LA lk) := by
      have h : endS s code = { s with st := 4, who := noB } := by unfold endS; rw [if_neg c3, if_neg c3]
      unfold Hid
      rw [h]
      exact HE1.out
    have HB2 := HB1
    have HZ2 := HZ1
    clear c3
    obtain ⟨w2, rfl⟩ : ∃ w2, w2 = w1 := ⟨w1, rfl⟩
    go_wp2_with fail
    refine (write_any code id 0 none 0 0 [] noB rfl (by omega) (by decide) _ (Cells.nil_ _ _)).mono ?_
    rintro e w3 ⟨A3, k3, rfl, ho3, hb3⟩
    obtain ⟨⟨⟨ci, ii⟩, d, er⟩, hwr⟩ : ∃ F, wrE code id 0 [] (strB noB) = F := ⟨_, rfl⟩
    have HWR : Hid (wrE code id 0 [] [] = ((ci, ii), d, er)) := hwr
    rw [hwr] at ho3 ⊢
    simp only at ho3 ⊢
    have X3 : Hid (Ext w2 w3) := ⟨hb3⟩
    have HO3 := Lib.hid ho3
    have pp : ∀ o, (w3.alloc o).heap[w3.heap.size]? = some o := at_new w3
    clear ho3 hb3 hwr
    go_upto_region 5 with
      (refine wpList_store_row_o rfl 24 (.tmp 9) (.tmp 34) rfl w3.heap.size #[.int .i64 ci, .int .i64 ii, .slice A3 d.length k3] rfl rfl 24 #[.int .i64 0, .int .i64 0, .slice none 0 0] (pp _) (by kernel_rfl) rfl (by simp [Value.oneCell']) ?_
       intro w4 hr4 ho4 hz4 hb4
       have HR4 := Lib.hid hr4
       have X34 : Hid (Ext w3 w4) := ⟨hb4 _ _ (inferInstance : Ext w3 (w3.alloc _)).out (Nat.le_refl _)⟩
       clear hr4 ho4 hz4 hb4 pp)
    have X4 : Hid (Ext w2 w4) := Ext.trans_ X3.out X34.out
    have HZ4 : Hid (w4.heap[w.heap.size]? = some zPk) := at_ext (h := X4.out) HZ2.out
    have HE4 := Lib.hid (HE2.out.ext (h := X4.out))
    have HO4 := Lib.hid (own_ext (h := X34.out) HO3.out)
    have HNE : Hid ((Value.slice A3 d.length k3).ownBlock ≠ some w.heap.size) := own_type_ne HO4.out HZ4.out (by decide)
    go_wp2_with
      (first
       | (refine wpList_load_row rfl 24 (.tmp 9) rfl w3.heap.size rfl 24 #[.int .i64 ci, .int .i64 ii, .slice A3 d.length k3] (0, 0) _ HR4.out Try.underlying24 rfl (by kernel_rfl) ?_)
       | (refine wpList_store_row rfl 24 (.tmp 6) (.tmp 36) rfl w.heap.size #[.int .i64 ci, .int .i64 ii, .slice A3 d.length k3] rfl rfl 24 #[.int .i64 0, .int .i64 0, .slice none 0 0] HZ4.out (by kernel_rfl) rfl (by simp [Value.oneCell']) ?_))
    refine bodyPost_ret (results_cell_row3 Try.results83 _ _ w.heap.size 24 #[.int .i64 ci, .int .i64 ii, .slice A3 d.length k3] (0, 0) _ (.bool true) (.int .i64 0) rfl rfl rfl (setRow_heap _ _ _ _ _ _ HZ4.out) Try.underlying24 rfl (by kernel_rfl)) rfl ?_
    rw [HWR.out]
    refine ⟨A3, k3, rfl, own_weaken (own_setRow HO4.out HNE.out _) HB2.out.size, HE4.out.rowY HBL.out (fun ad ha => ?_) _, (HB2.out.step X4.out).rowY (Nat.le_refl _) _⟩
    have := (HE.out.far ad ha).2
    omega
end Go.Proofs.Ytobddmpiljknpaa
