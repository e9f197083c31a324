/-
  chap: Judge.Ask of a Challenge that can be made. Conditions: sizes.
-/
import Derived.Test.YtobddmpiljknpaaChH
namespace Go.Proofs.Ytobddmpiljknpaa
open Go.RowKit
set_option linter.unusedVariables false
set_option linter.unusedSimpArgs false

theorem at_setj {w : World} {J : Nat} {t : TypeId} {x0 x1 x2 x3 x4 x5 x6 x7 a b c d e : Value} (h : w.heap[J]? = some (.cells #[x0, x1, x2, x3, x4, x5, x6, x7] t (0, 0))) :
    (((((w.setCell ⟨J, 5, none⟩ a).setCell ⟨J, 6, none⟩ b).setCell ⟨J, 7, none⟩ c).setCell ⟨J, 2, none⟩ d).setCell ⟨J, 4, none⟩ e).heap[J]? = some (.cells #[x0, x1, d, x3, e, a, b, c] t (0, 0)) :=
  at_set (at_set (at_set (at_set (at_set h 5 a) 6 b) 7 c) 2 d) 4 e
theorem at_setj_o {w : World} {J g : Nat} {a b c d e : Value} (h : g ≠ J) :
    (((((w.setCell ⟨J, 5, none⟩ a).setCell ⟨J, 6, none⟩ b).setCell ⟨J, 7, none⟩ c).setCell ⟨J, 2, none⟩ d).setCell ⟨J, 4, none⟩ e).heap[g]? = w.heap[g]? := by
  rw [Below.heap_setCell _ _ _ _ h, Below.heap_setCell _ _ _ _ h, Below.heap_setCell _ _ _ _ h, Below.heap_setCell _ _ _ _ h, Below.heap_setCell _ _ _ _ h]
theorem size_setj {w : World} {J : Nat} {a b c d e : Value} :
    (((((w.setCell ⟨J, 5, none⟩ a).setCell ⟨J, 6, none⟩ b).setCell ⟨J, 7, none⟩ c).setCell ⟨J, 2, none⟩ d).setCell ⟨J, 4, none⟩ e).heap.size = w.heap.size := by
  simp only [World.size_setCell]
theorem But.then_ {w w1 w2 : World} {B : Nat} (h : But w w1 B) (e : Ext w1 w2) : But w w2 B :=
  ⟨e.out.os.trans h.os, e.out.tape.trans h.tape, e.out.output.trans h.output, Nat.le_trans h.size e.out.size, fun k hk hB => (e.out.block k (Nat.lt_of_lt_of_le hk h.size)).trans (h.block k hk hB)⟩
theorem But.row_ {w w1 : World} {B g : Nat} (h : But w w1 B) (hg : w.heap.size ≤ g) (cs : Array Value) : But w (w1.setRow g cs) B :=
  ⟨h.os, h.tape, h.output, by have := h.size; simpa using this, fun k hk hB => (setRow_other _ _ _ _ (by omega)).trans (h.block k hk hB)⟩
def JAsked (J : Nat) (nm : ByteArray) (LA : Option Addr) (ln lc : Nat) (c i : Int) (rd : List Int) (w : World) (e : Ending) (w' : World) : Prop :=
  ∃ A k PA pk, e = .returned (.tuple #[.agg #[.int .i64 c, .int .i64 i, .slice A rd.length k], .int .i64 0]) ∧ Cells w' A (nums .u8 rd) ∧ JudgeAt w' J nm LA ln lc 1 ⟨#[]⟩ 1 c i PA rd.length pk ∧ Cells w' PA (nums .u8 rd) ∧
  But w w' J
set_option maxRecDepth 100000 in
set_option maxHeartbeats 8000000 in
theorem ask_any (J : Nat) (nm : ByteArray) (hnm : nm.size ≤ 140737488355328) (LA : Option Addr) (ln lc : Nat) (id : Int) (A : Option Addr) (n c : Nat) (xs : List Int) (hn : xs.length = n) (hn' : n ≤ 140737488355200) (ci ii : Int) (rd : List Int) (hmk : mkF 1 id xs (strB nm) = ((ci, ii), rd, 0)) (hrd : rd.length ≤ 140737488355300) (w : World)
    (hj : JudgeAt w J nm LA ln lc 0 ⟨#[]⟩ 0 0 0 none 0 0) (hx : Cells w A (nums .u8 xs)) :
    Calls Try.prog 46 #[.pointer (some ⟨J, 0, none⟩), .int .i64 id, .slice A n c] w (JAsked J nm LA ln lc ci ii rd w) := by
  have HJ := Lib.hid hj
  have HX := Lib.hid hx
  have HN := Lib.hid hn
  have HM := Lib.hid hmk
  have HL : Hid (J < w.heap.size) := at_lt (show w.heap[J]? = some _ from hj)
  clear hj hx hn hmk
  go_enter Try.func46, Try.ntmps46
  go_upto_region 1 with fail
  obtain ⟨wb, hwb⟩ : ∃ wb, w.alloc zPk = wb := ⟨_, rfl⟩
  have HZ : Hid (wb.heap[w.heap.size]? = some zPk) := by unfold Hid; rw [← hwb]; exact at_new w _
  have HW : Hid (Ext w wb) := by unfold Hid; rw [← hwb]; exact inferInstance
  have HLB : Hid (w.heap.size < wb.heap.size) := at_lt HZ.out
  have HJB : Hid (wb.heap[J]? = some (.cells #[.string nm, .slice LA ln lc, .int .i64 0, .string ⟨#[]⟩, .int .i64 0, .int .i64 0, .int .i64 0, .slice none 0 0] 137 (0, 0))) := at_ext (h := HW.out) HJ.out
  rw [hwb]
  clear hwb
  have p0 : wb.cell? ⟨J, 0, none⟩ = some (.string nm) := at_cell HJB.out 0
  go_wp2_with fail
  refine (make_any 1 id A n c xs nm HN.out hnm (by omega) _ (HX.out.ext (h := HW.out))).mono ?_
  rintro e w1 ⟨A1, c1, rfl, ho1, hb1⟩
  rw [HM.out] at ho1 ⊢
  simp only at ho1 ⊢
  have X1 : Hid (Ext wb w1) := ⟨hb1⟩
  have HO1 := Lib.hid ho1
  have HZ1 : Hid (w1.heap[w.heap.size]? = some zPk) := at_ext (h := X1.out) HZ.out
  have HJ1 : Hid (w1.heap[J]? = some (.cells #[.string nm, .slice LA ln lc, .int .i64 0, .string ⟨#[]⟩, .int .i64 0, .int .i64 0, .int .i64 0, .slice none 0 0] 137 (0, 0))) := at_ext (h := X1.out) HJB.out
  clear hb1 ho1 p0
  go_upto_region 4 with fail
  obtain ⟨w2, hw2⟩ : ∃ w2, w1.alloc (.cells #[.int .i64 ci, .int .i64 ii, .slice A1 rd.length c1] 24) = w2 := ⟨_, rfl⟩
  have HP2 : Hid (w2.heap[w1.heap.size]? = some (.cells #[.int .i64 ci, .int .i64 ii, .slice A1 rd.length c1] 24 (0, 0))) := by unfold Hid; rw [← hw2]; exact at_new w1 _
  have X2 : Hid (Ext w1 w2) := by unfold Hid; rw [← hw2]; exact inferInstance
  rw [hw2]
  clear hw2
  have HJ2 : Hid (w2.heap[J]? = some (.cells #[.string nm, .slice LA ln lc, .int .i64 0, .string ⟨#[]⟩, .int .i64 0, .int .i64 0, .int .i64 0, .slice none 0 0] 137 (0, 0))) := at_ext (h := X2.out) HJ1.out
  have p0 : w2.cell? ⟨w1.heap.size, 0, none⟩ = some (.int .i64 ci) := at_cell HP2.out 0
  have p1 : w2.cell? ⟨w1.heap.size, 1, none⟩ = some (.int .i64 ii) := at_cell HP2.out 1
  have p2 : w2.cell? ⟨w1.heap.size, 2, none⟩ = some (.slice A1 rd.length c1) := at_cell HP2.out 2
  have q2 : w2.cell? ⟨J, 2, none⟩ = some (.int .i64 0) := at_cell HJ2.out 2
  have q4 : w2.cell? ⟨J, 4, none⟩ = some (.int .i64 0) := at_cell HJ2.out 4
  have q5 : w2.cell? ⟨J, 5, none⟩ = some (.int .i64 0) := at_cell HJ2.out 5
  have q6 : w2.cell? ⟨J, 6, none⟩ = some (.int .i64 0) := at_cell HJ2.out 6
  have q7 : w2.cell? ⟨J, 7, none⟩ = some (.slice none 0 0) := at_cell HJ2.out 7
  have r2 : w2.frozen? ⟨J, 2, none⟩ = false := at_frozen HJ2.out 2
  have r4 : w2.frozen? ⟨J, 4, none⟩ = false := at_frozen HJ2.out 4
  have r5 : w2.frozen? ⟨J, 5, none⟩ = false := at_frozen HJ2.out 5
  have r6 : w2.frozen? ⟨J, 6, none⟩ = false := at_frozen HJ2.out 6
  have r7 : w2.frozen? ⟨J, 7, none⟩ = false := at_frozen HJ2.out 7
  go_upto_region 7 with
   (refine wpList_load_row rfl 24 (.tmp 8) rfl w1.heap.size rfl 24 #[.int .i64 ci, .int .i64 ii, .slice A1 rd.length c1] (0, 0) _ HP2.out Try.underlying24 rfl (by kernel_rfl) ?_)
  obtain ⟨w3, hw3⟩ : ∃ w3, (((((w2.setCell ⟨J, 5, none⟩ (.int .i64 ci)).setCell ⟨J, 6, none⟩ (.int .i64 ii)).setCell ⟨J, 7, none⟩ (.slice A1 rd.length c1)).setCell ⟨J, 2, none⟩ (.int .i64 1)).setCell ⟨J, 4, none⟩ (.int .i64 1)) = w3 := ⟨_, rfl⟩
  have HJ3 : Hid (JudgeAt w3 J nm LA ln lc 1 ⟨#[]⟩ 1 ci ii A1 rd.length c1) := by unfold Hid; rw [← hw3]; exact at_setj HJ2.out
  have HO3 : Hid (∀ g, g ≠ J → w3.heap[g]? = w2.heap[g]?) := fun g hg => by rw [← hw3]; exact at_setj_o hg
  have HS3 : Hid (w3.heap.size = w2.heap.size) := by unfold Hid; rw [← hw3]; exact size_setj
  have HB3 : Hid (But w w3 J) := by
    unfold Hid
    rw [← hw3]
    exact But.set (But.set (But.set (But.set (But.set (But.of (h := Ext.trans_ (Ext.trans_ HW.out X1.out) X2.out)) 5 _) 6 _) 7 _) 2 _) 4 _
  rw [hw3]
  clear hw3 p0 p1 p2 q2 q4 q5 q6 q7 r2 r4 r5 r6 r7
  have HP3 : Hid (w3.heap[w1.heap.size]? = some (.cells #[.int .i64 ci, .int .i64 ii, .slice A1 rd.length c1] 24 (0, 0))) := (HO3.out _ (by have := HL.out; have := HW.out.out.size; have := X1.out.out.size; omega)).trans HP2.out
  have HZ3 : Hid (w3.heap[w.heap.size]? = some zPk) := (HO3.out _ (by have := HL.out; omega)).trans (at_ext (h := X2.out) HZ1.out)
  have HC3 : Hid (Cells w3 A1 (nums .u8 rd)) := own_cells (own_heap (w := w2) (own_ext (h := X2.out) HO1.out) fun k hk => HO3.out k (by have := HL.out; have := HW.out.out.size; omega))
  go_wp2_with
   (refine wpList_load_row rfl 24 (.tmp 8) rfl w1.heap.size rfl 24 #[.int .i64 ci, .int .i64 ii, .slice A1 rd.length c1] (0, 0) _ HP3.out Try.underlying24 rfl (by kernel_rfl) ?_)
  refine (cagain_any ci ii A1 rd.length c1 rd rfl hrd _ HC3.out).mono ?_
  rintro e w4 ⟨A4, c4, rfl, ho4, hb4⟩
  have X4 : Hid (Ext w3 w4) := ⟨hb4⟩
  have HO4 := Lib.hid ho4
  have HZ4 : Hid (w4.heap[w.heap.size]? = some zPk) := at_ext (h := X4.out) HZ3.out
  clear ho4 hb4
  go_wp2_with
    (refine wpList_store_row rfl 24 (.tmp 6) (.tmp 38) rfl w.heap.size #[.int .i64 ci, .int .i64 ii, .slice A4 rd.length c4] rfl rfl 24 #[.int .i64 0, .int .i64 0, .slice none 0 0] HZ4.out (by kernel_rfl) rfl (by simp [Value.oneCell']) ?_)
  have HX2 : Hid (Ext w w2) := Ext.trans_ (Ext.trans_ HW.out X1.out) X2.out
  refine bodyPost_ret (results_cell_row2 Try.results46 _ _ w.heap.size 24 #[.int .i64 ci, .int .i64 ii, .slice A4 rd.length c4] (0, 0) _ (.int .i64 0) rfl rfl (setRow_heap _ _ _ _ _ _ HZ4.out) Try.underlying24 rfl (by kernel_rfl)) rfl ?_
  have hne : ∀ g, g ≠ w.heap.size → (w4.setRow w.heap.size #[.int .i64 ci, .int .i64 ii, .slice A4 rd.length c4]).heap[g]? = w4.heap[g]? := fun g hg => setRow_other _ _ _ _ hg
  have hw2 := HX2.out.out.size
  have hlt := HL.out
  have hJ4 : w4.heap[J]? = w3.heap[J]? := X4.out.out.block J (by rw [HS3.out]; omega)
  refine ⟨A4, c4, A1, c1, rfl, ?_, ?_, ?_, ?_⟩
  · refine cells_setRow (own_cells HO4.out) (fun ad ha e => ?_) _
    have h1 := own_base HO4.out ad.block (by rw [ha]; rfl)
    rw [HS3.out] at h1
    have := at_lt HZ.out
    have := X1.out.out.size
    have := X2.out.out.size
    omega
  · exact (hne J (by omega)).trans (hJ4.trans HJ3.out)
  · refine cells_setRow (HC3.out.ext (h := X4.out)) (fun ad ha e => ?_) _
    have h1 := own_base HO1.out ad.block (by rw [ha]; rfl)
    have := HLB.out
    omega
  · exact (HB3.out.then_ X4.out).row_ (Nat.le_refl _) _
end Go.Proofs.Ytobddmpiljknpaa
