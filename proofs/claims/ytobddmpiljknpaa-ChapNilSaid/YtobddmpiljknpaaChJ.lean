/-
  chap: Judge.verdict of one that has passed; Take of a Response that holds. Conditions: sizes.
-/
import Derived.Test.YtobddmpiljknpaaChI
namespace Go.Proofs.Ytobddmpiljknpaa
open Go.RowKit
set_option linter.unusedVariables false
set_option linter.unusedSimpArgs false

abbrev bWelc : ByteArray := ⟨#[119, 101, 108, 99, 111, 109, 101]⟩
def JTook (J : Nat) (w : World) (id : Int) (e : Ending) (w' : World) : Prop :=
  ∃ A k, e = .returned (.tuple #[.agg #[.int .i64 3, .int .i64 id, .slice A 7 k], .int .i64 0]) ∧ But w w' J
theorem td_welc {id : Int} (h0 : 0 ≤ id) (h1 : id ≤ 255) : tdF 3 id (strB bWelc) = ((3, id), strB bWelc, 0) := by
  unfold tdF
  rw [if_neg (by omega), if_neg (by rw [show plainF (strB bWelc) = true by decide +kernel]; simp), if_neg (by decide +kernel)]
set_option maxRecDepth 100000 in
set_option maxHeartbeats 8000000 in
theorem verdict_any (J : Nat) (nm : ByteArray) (LA : Option Addr) (ln lc : Nat) (who : ByteArray) (ask pc pid : Int) (PA : Option Addr) (pn pk : Nat) (id : Int) (h0 : 0 ≤ id) (h1 : id ≤ 255) (w : World)
    (hj : JudgeAt w J nm LA ln lc 2 who ask pc pid PA pn pk) :
    Calls Try.prog 89 #[.pointer (some ⟨J, 0, none⟩), .int .i64 id] w fun e w' => ∃ A k, e = .returned (.tuple #[.agg #[.int .i64 3, .int .i64 id, .slice A 7 k], .int .i64 0]) ∧ Below w.heap.size w w' := by
  have HJ := Lib.hid hj
  clear hj
  have HT := Lib.hid (td_welc h0 h1)
  go_enter Try.func89, Try.ntmps89
  go_upto_region 1 with fail
  obtain ⟨wb, hwb⟩ : ∃ wb, w.alloc zPk = wb := ⟨_, rfl⟩
  have HZ : Hid (wb.heap[w.heap.size]? = some zPk) := by unfold Hid; rw [← hwb]; exact at_new w _
  have HW : Hid (Ext w wb) := by unfold Hid; rw [← hwb]; exact inferInstance
  have HJB : Hid (wb.heap[J]? = some (.cells #[.string nm, .slice LA ln lc, .int .i64 2, .string who, .int .i64 ask, .int .i64 pc, .int .i64 pid, .slice PA pn pk] 137 (0, 0))) := at_ext (h := HW.out) HJ.out
  rw [hwb]
  clear hwb
  have p2 : wb.cell? ⟨J, 2, none⟩ = some (.int .i64 2) := at_cell HJB.out 2
  go_wp2_with fail
  refine (told_any 3 id bWelc (by decide) _).mono ?_
  rintro e w1 ⟨A1, c1, rfl, _, _, hb1⟩
  rw [HT.out]
  simp only [show (strB bWelc).length = 7 from rfl]
  have X1 : Hid (Ext wb w1) := ⟨hb1⟩
  have HZ1 : Hid (w1.heap[w.heap.size]? = some zPk) := at_ext (h := X1.out) HZ.out
  clear hb1 p2
  go_wp2_with
    (refine wpList_store_row rfl 24 (.tmp 4) (.tmp 13) rfl w.heap.size #[.int .i64 3, .int .i64 id, .slice A1 7 c1] rfl rfl 24 #[.int .i64 0, .int .i64 0, .slice none 0 0] HZ1.out (by kernel_rfl) rfl (by simp [Value.oneCell']) ?_)
  refine bodyPost_ret (results_cell_row2 Try.results89 _ _ w.heap.size 24 #[.int .i64 3, .int .i64 id, .slice A1 7 c1] (0, 0) _ (.int .i64 0) rfl rfl (setRow_heap _ _ _ _ _ _ HZ1.out) Try.underlying24 rfl (by kernel_rfl)) rfl ?_
  exact ⟨A1, c1, rfl, (Ext.setRow_ (Ext.trans_ HW.out X1.out) (Nat.le_refl _) _).out⟩
set_option maxRecDepth 100000 in
set_option maxHeartbeats 8000000 in
theorem jtake_any (J : Nat) (nm : ByteArray) (LA : Option Addr) (ln lc : Nat) (us : List SV) (pc pid : Int) (PA : Option Addr) (pk : Nat) (ys : List Int) (id : Int) (h0 : 0 ≤ id) (h1 : id ≤ 255) (A : Option Addr) (k : Nat) (xs : List Int) (who : ByteArray)
    (hln : us.length = ln) (hln' : ln ≤ 17592186044416) (hyb : Byt ys) (hyl : ys.length ≤ 140737488355200) (hxb : Byt xs) (hxl : xs.length ≤ 140737488355200) (hpid : pid = id) (hr : ptsF xs = ((ptsF xs).1, 0)) (hh : hoF pc pid ys 2 id xs nm us = (who, 0)) (w : World)
    (hj : JudgeAt w J nm LA ln lc 1 ⟨#[]⟩ 1 pc pid PA ys.length pk) (hs : SecsAt w LA us) (hy : Cells w PA (nums .u8 ys)) (hx : Cells w A (nums .u8 xs)) :
    Calls Try.prog 48 #[.pointer (some ⟨J, 0, none⟩), .agg #[.int .i64 2, .int .i64 id, .slice A xs.length k]] w fun e w' => JTook J w id e w' ∧ ∃ PA' pn' pk', JudgeAt w' J nm LA ln lc 2 who 1 pc pid PA' pn' pk' := by
  subst hpid
  have HJ := Lib.hid hj
  have HS := Lib.hid hs
  have HY := Lib.hid hy
  have HX := Lib.hid hx
  have HLN := Lib.hid hln
  have HYB := Lib.hid hyb
  have HXB := Lib.hid hxb
  have HR := Lib.hid hr
  have HH := Lib.hid hh
  have HL : Hid (J < w.heap.size) := at_lt (show w.heap[J]? = some _ from hj)
  have HI : Hid (0 ≤ pid ∧ pid ≤ 255) := ⟨h0, h1⟩
  clear hj hs hy hx hln hyb hxb hr hh h0 h1
  go_enter Try.func48, Try.ntmps48
  go_upto_region 1 with fail
  obtain ⟨wb, hwb⟩ : ∃ wb, (w.alloc (.cells #[.int .i64 2, .int .i64 pid, .slice A xs.length k] 24)).alloc zPk = wb := ⟨_, rfl⟩
  have HP : Hid (wb.heap[w.heap.size]? = some (.cells #[.int .i64 2, .int .i64 pid, .slice A xs.length k] 24 (0, 0))) := by unfold Hid; rw [← hwb]; exact at_ext (at_new w _)
  have HZ : Hid (wb.heap[w.heap.size + 1]? = some zPk) := by unfold Hid; rw [← hwb]; exact at_new1 (by simp)
  have HW : Hid (Ext w wb) := by unfold Hid; rw [← hwb]; exact inferInstance
  have HLB : Hid (w.heap.size + 1 < wb.heap.size) := at_lt HZ.out
  have HJB : Hid (wb.heap[J]? = some (.cells #[.string nm, .slice LA ln lc, .int .i64 1, .string ⟨#[]⟩, .int .i64 1, .int .i64 pc, .int .i64 pid, .slice PA ys.length pk] 137 (0, 0))) := at_ext (h := HW.out) HJ.out
  rw [hwb]
  clear hwb
  have p0 : wb.cell? ⟨w.heap.size, 0, none⟩ = some (.int .i64 2) := at_cell HP.out 0
  have q2 : wb.cell? ⟨J, 2, none⟩ = some (.int .i64 1) := at_cell HJB.out 2
  go_upto_region 7 with fail
  refine wp_region_held_drew (S := Ext wb) (by kernel_rfl) (by exact inferInstance) (fun hHeld => ?_)
  refine wpAnyH_take (i := 0) (v := ?_) rfl (by kernel_rfl) (by kernel_rfl) (by kernel_rfl) (fun _ _ _ h => h) (Yields.yieldsIf (Or.inl ⟨by rfl, ?_⟩)) hHeld ?_
  rotate_left
  · intro W
    go_simp
    try with_reducible rfl
  simp only [List.getElem_toArray, List.getElem_cons_succ, List.getElem_cons_zero, Act.put, List.setIfInBounds_toArray, List.set_cons_zero, List.set_cons_succ]
  refine wpAnyH_take (i := 1) (v := ?_) rfl (by kernel_rfl) (by kernel_rfl) (by kernel_rfl) (fun _ _ _ h => h) (Or.inl ⟨by rfl, ?_⟩) hHeld ?_
  rotate_left
  · intro W hW
    have hcl := cell_ext (h := hW) (at_cell HP.out 1)
    go_simp
    try with_reducible rfl
  simp only [List.getElem_toArray, List.getElem_cons_succ, List.getElem_cons_zero, Act.put, List.setIfInBounds_toArray, List.set_cons_zero, List.set_cons_succ]
  refine wpAnyH_take (i := 2) (v := ?_) rfl (by kernel_rfl) (by kernel_rfl) (by kernel_rfl) (fun _ _ _ h => h) (Yields.yieldsIf (Or.inl ⟨by rfl, ?_⟩)) hHeld ?_
  rotate_left
  · intro W
    go_simp
    try with_reducible rfl
  simp only [List.getElem_toArray, List.getElem_cons_succ, List.getElem_cons_zero, Act.put, List.setIfInBounds_toArray, List.set_cons_zero, List.set_cons_succ]
  refine wpAnyH_take (i := 3) (v := ?_) rfl (by kernel_rfl) (by kernel_rfl) (by kernel_rfl) (fun _ _ _ h => h) (Yields.yieldsIf (Or.inl ⟨by rfl, ?_⟩)) hHeld ?_
  rotate_left
  · intro W
    go_simp
    try with_reducible rfl
  simp only [List.getElem_toArray, List.getElem_cons_succ, List.getElem_cons_zero, Act.put, List.setIfInBounds_toArray, List.set_cons_zero, List.set_cons_succ]
  refine wpAnyH_take (i := 4) (v := ?_) rfl (by kernel_rfl) (by kernel_rfl) (by kernel_rfl) (fun _ _ _ h => h) (Yields.yieldsIf (Or.inl ⟨by rfl, ?_⟩)) hHeld ?_
  rotate_left
  · intro W
    go_simp
    try with_reducible rfl
  simp only [List.getElem_toArray, List.getElem_cons_succ, List.getElem_cons_zero, Act.put, List.setIfInBounds_toArray, List.set_cons_zero, List.set_cons_succ]
  refine wpAnyH_take (i := 5) (v := ?_) rfl (by kernel_rfl) (by kernel_rfl) (by kernel_rfl) (fun _ _ _ h => h) (Yields.yieldsIf (Or.inl ⟨by rfl, ?_⟩)) hHeld ?_
  rotate_left
  · intro W
    go_simp
    try with_reducible rfl
  simp only [List.getElem_toArray, List.getElem_cons_succ, List.getElem_cons_zero, Act.put, List.setIfInBounds_toArray, List.set_cons_zero, List.set_cons_succ]
  refine wpAnyH_take (i := 6) (v := ?_) rfl (by kernel_rfl) (by kernel_rfl) (by kernel_rfl) (fun _ _ _ h => h) (Or.inl ⟨by rfl, ?_⟩) hHeld ?_
  rotate_left
  · intro W hW
    have hcl := cell_ext (h := hW) (at_cell HJB.out 6)
    go_simp
    try with_reducible rfl
  simp only [List.getElem_toArray, List.getElem_cons_succ, List.getElem_cons_zero, Act.put, List.setIfInBounds_toArray, List.set_cons_zero, List.set_cons_succ]
  refine wpAnyH_take (i := 7) (v := ?_) rfl (by kernel_rfl) (by kernel_rfl) (by kernel_rfl) (fun _ _ _ h => h) (Yields.yieldsIf (Or.inl ⟨by rfl, ?_⟩)) hHeld ?_
  rotate_left
  · intro W
    go_simp
    try with_reducible rfl
  simp only [List.getElem_toArray, List.getElem_cons_succ, List.getElem_cons_zero, Act.put, List.setIfInBounds_toArray, List.set_cons_zero, List.set_cons_succ]
  refine wpAnyH_take (i := 8) (v := ?_) rfl (by kernel_rfl) (by kernel_rfl) (by kernel_rfl) (fun _ _ _ h => h) (Yields.yieldsIf (Or.inl ⟨by rfl, ?_⟩)) hHeld ?_
  rotate_left
  · intro W
    go_simp
    try with_reducible rfl
  simp only [List.getElem_toArray, List.getElem_cons_succ, List.getElem_cons_zero, Act.put, List.setIfInBounds_toArray, List.set_cons_zero, List.set_cons_succ]
  refine wpAnyH_done (by kernel_rfl) ?_ _
  clear hHeld
  obtain ⟨wd, hwd⟩ : ∃ wd, wb.drew = wd := ⟨_, rfl⟩
  have XD : Hid (Ext wb wd) := by unfold Hid; rw [← hwd]; exact inferInstance
  have HXS : Hid (Cells wd A (nums .u8 xs)) := by have := HW.out; have := XD.out; exact HX.out.ext (w' := wb) |>.ext
  rw [hwd]
  clear hwd p0 q2
  have p0 : wd.cell? ⟨w.heap.size, 0, none⟩ = some (.int .i64 2) := cell_ext (h := XD.out) (at_cell HP.out 0)
  have p1 : wd.cell? ⟨w.heap.size, 1, none⟩ = some (.int .i64 pid) := cell_ext (h := XD.out) (at_cell HP.out 1)
  have p2 : wd.cell? ⟨w.heap.size, 2, none⟩ = some (.slice A xs.length k) := cell_ext (h := XD.out) (at_cell HP.out 2)
  have q2 : wd.cell? ⟨J, 2, none⟩ = some (.int .i64 1) := cell_ext (h := XD.out) (at_cell HJB.out 2)
  go_wp2_with fail
  refine (kind_any 2 pid A xs.length k _).mono ?_
  rintro e w1 ⟨rfl, hb1⟩
  rw [show kindV 2 pid A xs.length k = .iface 140 (.agg #[.slice A xs.length k]) from if_neg (by have := HI.out; unfold badP; rw [decide_eq_false (by omega)]; simp)]
  have X1 : Hid (Ext wd w1) := ⟨hb1⟩
  have hta : ∀ W : World, (Instr.typeAssert (.iface 140 (.agg #[.slice A xs.length k])) 102 140 true).run Try.prog W = .ok (.tuple #[.agg #[.slice A xs.length k], .bool true]) W := fun _ => by kernel_rfl
  have pn : ∀ o, (w1.alloc o).heap[w1.heap.size]? = some o := at_new w1
  clear hb1 p0 p1 p2 q2
  go_wp2_with fail
  refine (parts_any A xs.length k xs rfl hxl HXB.out _ (by have := X1.out; exact HXS.out.ext (w' := w1) |>.alloc _)).mono ?_
  rintro e w2 ⟨A2, c2, rfl, _, hb2⟩
  rw [HR.out]
  simp only
  have X2 : Hid (Ext wb w2) := Ext.trans_ (Ext.trans_ XD.out X1.out) (Ext.trans_ (inferInstance : Ext w1 (w1.alloc _)) ⟨hb2⟩)
  obtain ⟨rp, hrp⟩ : ∃ rp, (ptsF xs).1.1 = rp := ⟨_, rfl⟩
  obtain ⟨rn, hrn⟩ : ∃ rn, strOfNums (ptsF xs).1.2 = rn := ⟨_, rfl⟩
  simp only [hrp, hrn]
  clear hb2 hta pn hrp hrn
  go_upto_region 19 with fail
  refine wp_region_held_drew (S := Ext w2) (by kernel_rfl) (by exact inferInstance) (fun hHeld => ?_)
  have HP2 : Hid (w2.heap[w.heap.size]? = some (.cells #[.int .i64 2, .int .i64 pid, .slice A xs.length k] 24 (0, 0))) := at_ext (h := X2.out) HP.out
  have HJ2 : Hid (w2.heap[J]? = some (.cells #[.string nm, .slice LA ln lc, .int .i64 1, .string ⟨#[]⟩, .int .i64 1, .int .i64 pc, .int .i64 pid, .slice PA ys.length pk] 137 (0, 0))) := at_ext (h := X2.out) HJB.out
  refine wpAnyH_take (i := 0) (v := ?_) rfl (by kernel_rfl) (by kernel_rfl) (by kernel_rfl) (fun _ _ _ h => h) (Yields.yieldsIf (Or.inl ⟨by rfl, ?_⟩)) hHeld ?_
  rotate_left
  · intro W
    go_simp
    try with_reducible rfl
  simp only [List.getElem_toArray, List.getElem_cons_succ, List.getElem_cons_zero, Act.put, List.setIfInBounds_toArray, List.set_cons_zero, List.set_cons_succ]
  refine wpAnyH_take (i := 1) (v := ?_) rfl (by kernel_rfl) (by kernel_rfl) (by kernel_rfl) (fun _ _ _ h => h) (Yields.yieldsIf (Or.inl ⟨by rfl, ?_⟩)) hHeld ?_
  rotate_left
  · intro W
    go_simp
    try with_reducible rfl
  simp only [List.getElem_toArray, List.getElem_cons_succ, List.getElem_cons_zero, Act.put, List.setIfInBounds_toArray, List.set_cons_zero, List.set_cons_succ]
  refine wpAnyH_take (i := 2) (v := ?_) rfl (by kernel_rfl) (by kernel_rfl) (by kernel_rfl) (fun _ _ _ h => h) (Yields.yieldsIf (Or.inl ⟨by rfl, ?_⟩)) hHeld ?_
  rotate_left
  · intro W
    go_simp
    try with_reducible rfl
  simp only [List.getElem_toArray, List.getElem_cons_succ, List.getElem_cons_zero, Act.put, List.setIfInBounds_toArray, List.set_cons_zero, List.set_cons_succ]
  refine wpAnyH_take (i := 3) (v := ?_) rfl (by kernel_rfl) (by kernel_rfl) (by kernel_rfl) (fun _ _ _ h => h) (Or.inl ⟨by rfl, ?_⟩) hHeld ?_
  rotate_left
  · intro W hW
    have hcl0 := cell_ext (h := hW) (at_cell HJ2.out 5)
    have hcl1 := cell_ext (h := hW) (at_cell HJ2.out 6)
    have hcl2 := cell_ext (h := hW) (at_cell HJ2.out 7)
    go_simp
    try with_reducible rfl
  simp only [List.getElem_toArray, List.getElem_cons_succ, List.getElem_cons_zero, Act.put, List.setIfInBounds_toArray, List.set_cons_zero, List.set_cons_succ]
  refine wpAnyH_take (i := 4) (v := ?_) rfl (by kernel_rfl) (by kernel_rfl) (by kernel_rfl) (fun _ _ _ h => h) (Or.inl ⟨by rfl, ?_⟩) hHeld ?_
  rotate_left
  · intro W hW
    have hcl0 := cell_ext (h := hW) (at_cell HP2.out 0)
    have hcl1 := cell_ext (h := hW) (at_cell HP2.out 1)
    have hcl2 := cell_ext (h := hW) (at_cell HP2.out 2)
    go_simp
    try with_reducible rfl
  simp only [List.getElem_toArray, List.getElem_cons_succ, List.getElem_cons_zero, Act.put, List.setIfInBounds_toArray, List.set_cons_zero, List.set_cons_succ]
  refine wpAnyH_take (i := 5) (v := ?_) rfl (by kernel_rfl) (by kernel_rfl) (by kernel_rfl) (fun _ _ _ h => h) (Yields.yieldsIf (Or.inl ⟨by rfl, ?_⟩)) hHeld ?_
  rotate_left
  · intro W
    go_simp
    try with_reducible rfl
  simp only [List.getElem_toArray, List.getElem_cons_succ, List.getElem_cons_zero, Act.put, List.setIfInBounds_toArray, List.set_cons_zero, List.set_cons_succ]
  refine wpAnyH_take (i := 6) (v := ?_) rfl (by kernel_rfl) (by kernel_rfl) (by kernel_rfl) (fun _ _ _ h => h) (Yields.yieldsIf (Or.inl ⟨by rfl, ?_⟩)) hHeld ?_
  rotate_left
  · intro W
    go_simp
    try with_reducible rfl
  simp only [List.getElem_toArray, List.getElem_cons_succ, List.getElem_cons_zero, Act.put, List.setIfInBounds_toArray, List.set_cons_zero, List.set_cons_succ]
  refine wpAnyH_take (i := 7) (v := ?_) rfl (by kernel_rfl) (by kernel_rfl) (by kernel_rfl) (fun _ _ _ h => h) (Yields.yieldsIf (Or.inl ⟨by rfl, ?_⟩)) hHeld ?_
  rotate_left
  · intro W
    go_simp
    try with_reducible rfl
  simp only [List.getElem_toArray, List.getElem_cons_succ, List.getElem_cons_zero, Act.put, List.setIfInBounds_toArray, List.set_cons_zero, List.set_cons_succ]
  refine wpAnyH_take (i := 8) (v := ?_) rfl (by kernel_rfl) (by kernel_rfl) (by kernel_rfl) (fun _ _ _ h => h) (Or.inl ⟨by rfl, ?_⟩) hHeld ?_
  rotate_left
  · intro W hW
    have hcl := cell_ext (h := hW) (at_cell HJ2.out 0)
    go_simp
    try with_reducible rfl
  simp only [List.getElem_toArray, List.getElem_cons_succ, List.getElem_cons_zero, Act.put, List.setIfInBounds_toArray, List.set_cons_zero, List.set_cons_succ]
  refine wpAnyH_take (i := 9) (v := ?_) rfl (by kernel_rfl) (by kernel_rfl) (by kernel_rfl) (fun _ _ _ h => h) (Yields.yieldsIf (Or.inl ⟨by rfl, ?_⟩)) hHeld ?_
  rotate_left
  · intro W
    go_simp
    try with_reducible rfl
  simp only [List.getElem_toArray, List.getElem_cons_succ, List.getElem_cons_zero, Act.put, List.setIfInBounds_toArray, List.set_cons_zero, List.set_cons_succ]
  refine wpAnyH_take (i := 10) (v := ?_) rfl (by kernel_rfl) (by kernel_rfl) (by kernel_rfl) (fun _ _ _ h => h) (Yields.yieldsIf (Or.inl ⟨by rfl, ?_⟩)) hHeld ?_
  rotate_left
  · intro W
    go_simp
    try with_reducible rfl
  simp only [List.getElem_toArray, List.getElem_cons_succ, List.getElem_cons_zero, Act.put, List.setIfInBounds_toArray, List.set_cons_zero, List.set_cons_succ]
  refine wpAnyH_take (i := 11) (v := ?_) rfl (by kernel_rfl) (by kernel_rfl) (by kernel_rfl) (fun _ _ _ h => h) (Yields.yieldsIf (Or.inl ⟨by rfl, ?_⟩)) hHeld ?_
  rotate_left
  · intro W
    go_simp
    try with_reducible rfl
  simp only [List.getElem_toArray, List.getElem_cons_succ, List.getElem_cons_zero, Act.put, List.setIfInBounds_toArray, List.set_cons_zero, List.set_cons_succ]
  refine wpAnyH_take (i := 12) (v := ?_) rfl (by kernel_rfl) (by kernel_rfl) (by kernel_rfl) (fun _ _ _ h => h) (Or.inl ⟨by rfl, ?_⟩) hHeld ?_
  rotate_left
  · intro W hW
    have hcl := cell_ext (h := hW) (at_cell HJ2.out 1)
    go_simp
    try with_reducible rfl
  simp only [List.getElem_toArray, List.getElem_cons_succ, List.getElem_cons_zero, Act.put, List.setIfInBounds_toArray, List.set_cons_zero, List.set_cons_succ]
  have X3 : Hid (Ext w w2.drew) := Ext.trans_ HW.out (Ext.trans_ X2.out (inferInstance : Ext w2 w2.drew))
  refine wpAnyH_ready (rs := [13]) (by kernel_rfl) (by simp) ?_
  refine AllReadyH.cons rfl (fun K hK => ?_) AllReadyH.nil
  refine step_call_w (by rfl) Try.func27 (by kernel_rfl) (by kernel_rfl) #[.tmp 67, .tmp 68, .tmp 72, .tmp 76] #[24, 24, 9, 37] rfl #[.agg #[.int .i64 pc, .int .i64 pid, .slice PA ys.length pk], .agg #[.int .i64 2, .int .i64 pid, .slice A xs.length k], .string nm, .slice LA ln lc] ?hv (holds_any pc pid PA ys.length pk ys 2 pid A xs.length k xs nm LA ln lc us rfl hyl HYB.out rfl hxl HXB.out HLN.out hln' _ (HY.out.ext (h := X3.out)) (HX.out.ext (h := X3.out)) (HS.out.ext (h := X3.out))) ?_
  case hv => go_simp
  rintro e w4 ⟨rfl, hb4⟩
  refine ⟨_, rfl, ?_⟩
  rw [HH.out]
  simp only
  have X4 : Hid (Ext w2 w4) := Ext.trans_ (inferInstance : Ext w2 w2.drew) ⟨hb4⟩
  clear hb4 hHeld
  refine hK.out _ _ X4.out (fun hHeld => ?_)
  clear hK K
  simp only [List.getElem_toArray, List.getElem_cons_succ, List.getElem_cons_zero, Act.put, List.setIfInBounds_toArray, List.set_cons_zero, List.set_cons_succ]
  refine wpAnyH_take (i := 14) (v := ?_) rfl (by kernel_rfl) (by kernel_rfl) (by kernel_rfl) (fun _ _ _ h => h) (Yields.yieldsIf (Or.inl ⟨by rfl, ?_⟩)) hHeld ?_
  rotate_left
  · intro W
    go_simp
    try with_reducible rfl
  simp only [List.getElem_toArray, List.getElem_cons_succ, List.getElem_cons_zero, Act.put, List.setIfInBounds_toArray, List.set_cons_zero, List.set_cons_succ]
  refine wpAnyH_take (i := 15) (v := ?_) rfl (by kernel_rfl) (by kernel_rfl) (by kernel_rfl) (fun _ _ _ h => h) (Yields.yieldsIf (Or.inl ⟨by rfl, ?_⟩)) hHeld ?_
  rotate_left
  · intro W
    go_simp
    try with_reducible rfl
  simp only [List.getElem_toArray, List.getElem_cons_succ, List.getElem_cons_zero, Act.put, List.setIfInBounds_toArray, List.set_cons_zero, List.set_cons_succ]
  refine wpAnyH_take (i := 16) (v := ?_) rfl (by kernel_rfl) (by kernel_rfl) (by kernel_rfl) (fun _ _ _ h => h) (Yields.yieldsIf (Or.inl ⟨by rfl, ?_⟩)) hHeld ?_
  rotate_left
  · intro W
    go_simp
    try with_reducible rfl
  simp only [List.getElem_toArray, List.getElem_cons_succ, List.getElem_cons_zero, Act.put, List.setIfInBounds_toArray, List.set_cons_zero, List.set_cons_succ]
  refine wpAnyH_take (i := 17) (v := ?_) rfl (by kernel_rfl) (by kernel_rfl) (by kernel_rfl) (fun _ _ _ h => h) (Yields.yieldsIf (Or.inl ⟨by rfl, ?_⟩)) hHeld ?_
  rotate_left
  · intro W
    go_simp
    try with_reducible rfl
  simp only [List.getElem_toArray, List.getElem_cons_succ, List.getElem_cons_zero, Act.put, List.setIfInBounds_toArray, List.set_cons_zero, List.set_cons_succ]
  refine wpAnyH_take (i := 18) (v := ?_) rfl (by kernel_rfl) (by kernel_rfl) (by kernel_rfl) (fun _ _ _ h => h) (Yields.yieldsIf (Or.inl ⟨by rfl, ?_⟩)) hHeld ?_
  rotate_left
  · intro W
    go_simp
    try with_reducible rfl
  simp only [List.getElem_toArray, List.getElem_cons_succ, List.getElem_cons_zero, Act.put, List.setIfInBounds_toArray, List.set_cons_zero, List.set_cons_succ]
  refine wpAnyH_done (by kernel_rfl) ?_ _
  clear hHeld
  have X5 : Hid (Ext w w4) := Ext.trans_ HW.out (Ext.trans_ X2.out X4.out)
  have HJ4 : Hid (w4.heap[J]? = some (.cells #[.string nm, .slice LA ln lc, .int .i64 1, .string ⟨#[]⟩, .int .i64 1, .int .i64 pc, .int .i64 pid, .slice PA ys.length pk] 137 (0, 0))) := at_ext (h := X4.out) HJ2
  have HP4 : Hid (w4.heap[w.heap.size]? = some (.cells #[.int .i64 2, .int .i64 pid, .slice A xs.length k] 24 (0, 0))) := at_ext (h := X4.out) HP2
  have HZ4 : Hid (w4.heap[w.heap.size + 1]? = some zPk) := at_ext (h := X4.out) (at_ext (h := X2.out) HZ.out)
  have q2 : w4.cell? ⟨J, 2, none⟩ = some (.int .i64 1) := at_cell HJ4.out 2
  have q3 : w4.cell? ⟨J, 3, none⟩ = some (.string ⟨#[]⟩) := at_cell HJ4.out 3
  have r2 : w4.frozen? ⟨J, 2, none⟩ = false := at_frozen HJ4.out 2
  have r3 : w4.frozen? ⟨J, 3, none⟩ = false := at_frozen HJ4.out 3
  clear HP2 HJ2
  go_upto_region 21 with fail
  obtain ⟨w5, hw5⟩ : ∃ w5, (w4.setCell ⟨J, 2, none⟩ (.int .i64 2)).setCell ⟨J, 3, none⟩ (.string who) = w5 := ⟨_, rfl⟩
  have HJ5 : Hid (JudgeAt w5 J nm LA ln lc 2 who 1 pc pid PA ys.length pk) := by unfold Hid; rw [← hw5]; exact at_set (at_set HJ4.out 2 _) 3 _
  have HO5 : Hid (∀ g, g ≠ J → w5.heap[g]? = w4.heap[g]?) := fun g hg => by rw [← hw5, Below.heap_setCell _ _ _ _ hg, Below.heap_setCell _ _ _ _ hg]
  have HS5 : Hid (w5.heap.size = w4.heap.size) := by unfold Hid; rw [← hw5]; simp only [World.size_setCell]
  have HB5 : Hid (But w w5 J) := by
    unfold Hid
    rw [← hw5]
    exact But.set (But.set (But.of (h := X5.out)) 2 _) 3 _
  rw [hw5]
  clear hw5 q2 q3 r2 r3
  have p1 : w5.cell? ⟨w.heap.size, 1, none⟩ = some (.int .i64 pid) := at_cell ((HO5.out _ (by have := HL.out; omega)).trans HP4.out) 1
  go_wp2_with fail
  refine (verdict_any J nm LA ln lc who 1 pc pid PA ys.length pk pid HI.out.1 HI.out.2 _ HJ5.out).mono ?_
  rintro e w6 ⟨A6, c6, rfl, hb6⟩
  have X6 : Hid (Ext w5 w6) := ⟨hb6⟩
  have HZ6 : Hid (w6.heap[w.heap.size + 1]? = some zPk) := at_ext (h := X6.out) ((HO5.out _ (by have := HL.out; omega)).trans HZ4.out)
  clear hb6 p1
  go_wp2_with
    (refine wpList_store_row rfl 24 (.tmp 4) (.tmp 96) rfl (w.heap.size + 1) #[.int .i64 3, .int .i64 pid, .slice A6 7 c6] rfl rfl 24 #[.int .i64 0, .int .i64 0, .slice none 0 0] HZ6.out (by kernel_rfl) rfl (by simp [Value.oneCell']) ?_)
  refine bodyPost_ret (results_cell_row2 Try.results48 _ _ (w.heap.size + 1) 24 #[.int .i64 3, .int .i64 pid, .slice A6 7 c6] (0, 0) _ (.int .i64 0) rfl rfl (setRow_heap _ _ _ _ _ _ HZ6.out) Try.underlying24 rfl (by kernel_rfl)) rfl ?_
  have hlt := HL.out
  have hs5 := HS5.out
  have hx5 := X5.out.out.size
  have hx6 := X6.out.out.size
  refine ⟨⟨A6, c6, rfl, (HB5.out.then_ X6.out).row_ (by omega) _⟩, PA, ys.length, pk, ?_⟩
  · exact (setRow_other _ _ _ _ (by omega)).trans ((X6.out.out.block J (by omega)).trans HJ5.out)
end Go.Proofs.Ytobddmpiljknpaa
