/-
  ref13.Make. Conditions: sizes.
  ref13.Told. Conditions: sizes.
  ref13.Read. Conditions: sizes.
  ref13.right, ref13.Answer. Conditions: sizes.
  ref13.Holds. Conditions: sizes.
-/
import Derived.Test.YtobddmpiljknpaaB4
import Derived.Test.YtobddmpiljknpaaB3
namespace Go.Proofs.Ytobddmpiljknpaa
open Go.RowKit
set_option linter.unusedVariables false
set_option linter.unusedSimpArgs false

/-- A row of a type's own is no block of another type. -/
theorem own_type_ne {w : World} {base n size g : Nat} {e t : TypeId} {v : Value} {cs : List Value} {cur : Array Value} {fr : Nat × Nat} (h : w.ownsRow base e size v n cs) (hg : w.heap[g]? = some (.cells cur t fr)) (ht : t ≠ e) : v.ownBlock ≠ some g := by
  intro hv
  rcases h.2 with ⟨h1, _⟩ | ⟨g', cap', cur', h1, _, h2, _⟩
  · rw [h1] at hv; cases hv
  · rw [h1] at hv
    injection hv with hv
    have hv : g' = g := hv
    subst hv
    rw [h2] at hg
    injection hg with hg
    injection hg with _ hg _
    exact ht hg.symm
set_option maxRecDepth 100000 in
set_option maxHeartbeats 4000000 in
theorem rmake_any (code id : Int) (A : Option Addr) (n c : Nat) (v : List Int) (s : ByteArray) (hn : v.length = n) (hs : s.size ≤ 140737488355328) (hx0 : n ≤ 140737488355328) (w : World) (hx : Cells w A (nums .u8 v)) :
    Calls Try.prog 15 #[.int .i64 code, .int .i64 id, .slice A n c, .string s] w (ReplyTells (mkF code id v (strB s)) w) := by
  have Hn := Lib.hid hn
  have HX := Lib.hid hx
  have HSL := Lib.hid (strB_len s)
  clear hn hx
  go_enter Try.func15, Try.ntmps15
  go_upto_region 1 with fail
  obtain ⟨wb, hwb⟩ : ∃ wb, w.alloc zPk = wb := ⟨_, rfl⟩
  have HZ : Hid (wb.heap[w.heap.size]? = some zPk) := by unfold Hid; rw [← hwb]; exact at_new w _
  have HW : Hid (Ext w wb) := by unfold Hid; rw [← hwb]; exact inferInstance
  have HLB : Hid (w.heap.size < wb.heap.size) := at_lt HZ.out
  rw [hwb]
  clear hwb
  obtain ⟨q, hq⟩ : ∃ q, decide ((code ≠ 1 ∧ code ≠ 2) ∨ id < 0 ∨ 255 < id) = q := ⟨_, rfl⟩
  have HQ := Lib.hid hq
  clear hq
  go_cut [24] (fun s wx => s = .bool q ∧ wb = wx)
  case first =>
    by_cases c1 : code = 1
    · subst c1
      by_cases i1 : id < 0
      · skip
        go_wp2_with fail
        go_meet
        case rel => exact ⟨by rw [← HQ.out, decide_eq_true (by omega)], rfl⟩
      by_cases i2 : 255 < id
      · skip
        go_wp2_with fail
        go_meet
        case rel => exact ⟨by rw [← HQ.out, decide_eq_true (by omega)], rfl⟩
      go_wp2_with fail
      go_meet
      case rel => exact ⟨by rw [← HQ.out, decide_eq_false (by omega)], rfl⟩
    have c1' : (code != 1) = true := by simpa using c1
    by_cases c2 : code = 2
    · subst c2
      by_cases i1 : id < 0
      · skip
        go_wp2_with fail
        go_meet
        case rel => exact ⟨by rw [← HQ.out, decide_eq_true (by omega)], rfl⟩
      by_cases i2 : 255 < id
      · skip
        go_wp2_with fail
        go_meet
        case rel => exact ⟨by rw [← HQ.out, decide_eq_true (by omega)], rfl⟩
      go_wp2_with fail
      go_meet
      case rel => exact ⟨by rw [← HQ.out, decide_eq_false (by omega)], rfl⟩
    have c2' : (code != 2) = true := by simpa using c2
    go_wp2_with fail
    go_meet
    case rel => exact ⟨by rw [← HQ.out, decide_eq_true (by omega)], rfl⟩
  case' rest =>
    obtain ⟨rfl, rfl⟩ := hcut
  cases q
  case true =>
    have HR : Hid (mkF code id v (strB s) = ((0, 0), [], 90)) := if_pos (of_decide_eq_true HQ.out)
    go_wp2_with
      (refine wpList_store_row rfl 24 (.tmp 8) (.tmp 25) rfl w.heap.size #[.int .i64 0, .int .i64 0, .slice none 0 0] rfl rfl 24 #[.int .i64 0, .int .i64 0, .slice none 0 0] HZ.out (by kernel_rfl) rfl (by simp [Value.oneCell']) ?_)
    refine bodyPost_ret (results_cell_row2 Try.results15 _ _ w.heap.size 24 #[.int .i64 0, .int .i64 0, .slice none 0 0] (0, 0) _ (.int .i64 90) rfl rfl (setRow_heap _ _ _ _ _ _ HZ.out) Try.underlying24 rfl (by kernel_rfl)) rfl ?_
    rw [HR.out]
    exact ⟨none, 0, rfl, own_nil _ _ _ _, (Ext.setRow_ HW.out (Nat.le_refl _) _).out⟩
  have HG := Lib.hid (of_decide_eq_false HQ.out)
  by_cases l1 : n < 1
  · have HR : Hid (mkF code id v (strB s) = ((0, 0), [], 4)) := by unfold Hid mkF; rw [if_neg HG.out, if_pos (by rw [Hn.out]; omega)]
    have l1I : (n : Int) < 1 := by omega
    go_wp2_with
      (refine wpList_store_row rfl 24 (.tmp 8) (.tmp 34) rfl w.heap.size #[.int .i64 0, .int .i64 0, .slice none 0 0] rfl rfl 24 #[.int .i64 0, .int .i64 0, .slice none 0 0] HZ.out (by kernel_rfl) rfl (by simp [Value.oneCell']) ?_)
    refine bodyPost_ret (results_cell_row2 Try.results15 _ _ w.heap.size 24 #[.int .i64 0, .int .i64 0, .slice none 0 0] (0, 0) _ (.int .i64 4) rfl rfl (setRow_heap _ _ _ _ _ _ HZ.out) Try.underlying24 rfl (by kernel_rfl)) rfl ?_
    rw [HR.out]
    exact ⟨none, 0, rfl, own_nil _ _ _ _, (Ext.setRow_ HW.out (Nat.le_refl _) _).out⟩
  have l1I : ¬ (n : Int) < 1 := by omega
  by_cases l2 : 255 < n
  · have HR : Hid (mkF code id v (strB s) = ((0, 0), [], 4)) := by unfold Hid mkF; rw [if_neg HG.out, if_pos (by rw [Hn.out]; omega)]
    have l2I : 255 < (n : Int) := by omega
    go_wp2_with
      (refine wpList_store_row rfl 24 (.tmp 8) (.tmp 34) rfl w.heap.size #[.int .i64 0, .int .i64 0, .slice none 0 0] rfl rfl 24 #[.int .i64 0, .int .i64 0, .slice none 0 0] HZ.out (by kernel_rfl) rfl (by simp [Value.oneCell']) ?_)
    refine bodyPost_ret (results_cell_row2 Try.results15 _ _ w.heap.size 24 #[.int .i64 0, .int .i64 0, .slice none 0 0] (0, 0) _ (.int .i64 4) rfl rfl (setRow_heap _ _ _ _ _ _ HZ.out) Try.underlying24 rfl (by kernel_rfl)) rfl ?_
    rw [HR.out]
    exact ⟨none, 0, rfl, own_nil _ _ _ _, (Ext.setRow_ HW.out (Nat.le_refl _) _).out⟩
  have l2I : ¬ 255 < (n : Int) := by omega
  rcases hnm : nameF (strB s) with _ | _
  · have HR : Hid (mkF code id v (strB s) = ((0, 0), [], 60)) := by unfold Hid mkF; rw [if_neg HG.out, if_neg (by rw [Hn.out]; omega), if_pos hnm]
    have HNM := Lib.hid hnm
    clear hnm
    go_wp2_with fail
    refine (rname_any s hs _).mono ?_
    rintro e w1 ⟨rfl, rfl⟩
    rw [HNM.out]
    go_wp2_with
      (refine wpList_store_row rfl 24 (.tmp 8) (.tmp 38) rfl w.heap.size #[.int .i64 0, .int .i64 0, .slice none 0 0] rfl rfl 24 #[.int .i64 0, .int .i64 0, .slice none 0 0] HZ.out (by kernel_rfl) rfl (by simp [Value.oneCell']) ?_)
    refine bodyPost_ret (results_cell_row2 Try.results15 _ _ w.heap.size 24 #[.int .i64 0, .int .i64 0, .slice none 0 0] (0, 0) _ (.int .i64 60) rfl rfl (setRow_heap _ _ _ _ _ _ HZ.out) Try.underlying24 rfl (by kernel_rfl)) rfl ?_
    rw [HR.out]
    exact ⟨none, 0, rfl, own_nil _ _ _ _, (Ext.setRow_ HW.out (Nat.le_refl _) _).out⟩
  have HR : Hid (mkF code id v (strB s) = ((code, id), [(n : Int)] ++ v ++ strB s, 0)) := by unfold Hid mkF; rw [if_neg HG.out, if_neg (by rw [Hn.out]; omega), if_neg (by simp [hnm]), Hn.out]
  have HNM := Lib.hid hnm
  have HS64 : Hid (s.size ≤ 64) := by
    unfold nameF at hnm
    simp only [Bool.and_eq_true, decide_eq_true_eq] at hnm
    unfold Hid
    rw [← strB_len]
    omega
  have hwn : IntKind.u8.wrap (n : Int) = n := wraps_u8 _ (by omega) (by omega)
  clear hnm
  go_wp2_with fail
  refine (rname_any s hs _).mono ?_
  rintro e w1 ⟨rfl, rfl⟩
  rw [HNM.out]
  have HLL : Hid (([(n : Int)] ++ v ++ strB s).length = 1 + n + s.size) := by unfold Hid; simp only [List.length_append, HSL.out, Hn.out, List.length_cons, List.length_nil]
  have pn : ∀ o o', ((wb.alloc o).alloc o').heap[wb.heap.size + 1]? = some o' := fun o o' => at_new1 (by simp)
  go_upto_region 8 with
    (refine wpList_store_row_o rfl 24 (.tmp 10) (.tmp 45) rfl (wb.heap.size + 1) #[.int .i64 code, .int .i64 id, .slice (some ⟨wb.heap.size, 0, none⟩) 1 1] rfl rfl 24 #[.int .i64 0, .int .i64 0, .slice none 0 0] (pn _ _) (by kernel_rfl) rfl (by simp [Value.oneCell']) ?_
     intro w2 hr2 ho2 hz2 hb2
     have HR2 := Lib.hid hr2
     have XB : Hid (Ext (wb.alloc (.cells #[.int .u8 (n : Int)] 5)) w2) := ⟨hb2 _ _ (inferInstance : Ext (wb.alloc (.cells #[.int .u8 (n : Int)] 5)) _).out (by simp)⟩
     have HO2 := Lib.hid (own_ext (h := XB.out) (own_box wb _ _ rfl (Nat.le_refl _) (nums .u8 [(n : Int)]) 1 1 rfl (by omega) _))
     have X2 : Hid (Ext wb w2) := Ext.trans_ (inferInstance : Ext wb (wb.alloc (.cells #[.int .u8 (n : Int)] 5))) XB.out
     have p2 : w2.cell? ⟨wb.heap.size + 1, 2, none⟩ = some (.slice (some ⟨wb.heap.size, 0, none⟩) 1 1) := at_cell HR2.out 2
     clear hr2 ho2 hz2 hb2 pn)
  have HL2 : Hid (wb.heap.size + 1 < w2.heap.size) := at_lt HR2.out
  go_upto_region 9 with
    (at_builtin
     refine wp_append_cells (w0 := wb) wb.heap.size rfl (.tmp 47) (.tmp 48) 22 5 (.int .u8 0) 1 1 rfl Try.underlying22 info_u8 rfl (by decide) (by decide) (.slice (some ⟨wb.heap.size, 0, none⟩) 1 1) 1 (nums .u8 [(n : Int)]) A n c (nums .u8 v) rfl rfl (by rw [nums_length, Hn.out, Nat.mul_one]) (nums_one _ _) HO2.out (HX.out.ext (h := Ext.trans_ HW.out X2.out)) X2.out.out X2.out.out.size (by omega) ?_
     intro v3 w3 ho3 hb3 hg3 hat3
     obtain ⟨A3, c3, rfl, hc3⟩ := own_slice ho3
     have HO3 := Lib.hid ho3
     have X3 : Hid (Ext wb w3) := ⟨hb3⟩
     have HR3 : Hid (w3.heap[wb.heap.size + 1]? = some (.cells #[.int .i64 code, .int .i64 id, .slice (some ⟨wb.heap.size, 0, none⟩) 1 1] 24 (0, 0))) := (hg3.block (wb.heap.size + 1) HL2.out (by simp [Value.ownBlock])).trans HR2.out
     have HN3 : Hid ((Value.slice A3 (1 + n) c3).ownBlock ≠ some (wb.heap.size + 1)) := by
       have h1 := HL2.out
       unfold Hid
       rcases hat3 with h | h
       · rw [h]; simp [Value.ownBlock]
       · rw [h]; simp; omega
     have p3 : w3.cell? ⟨wb.heap.size + 1, 2, none⟩ = some (.slice (some ⟨wb.heap.size, 0, none⟩) 1 1) := at_cell HR3.out 2
     have f3 : w3.frozen? ⟨wb.heap.size + 1, 2, none⟩ = false := at_frozen HR3.out 2
     clear ho3 hb3 hg3 hat3 p2)
  obtain ⟨w4, hw4⟩ : ∃ w4, w3.setCell ⟨wb.heap.size + 1, 2, none⟩ (.slice A3 (1 + n) c3) = w4 := ⟨_, rfl⟩
  have HR4 : Hid (w4.heap[wb.heap.size + 1]? = some (.cells #[.int .i64 code, .int .i64 id, .slice A3 (1 + n) c3] 24 (0, 0))) := by unfold Hid; rw [← hw4]; exact at_set HR3.out 2 _
  have HO4 := own_setCell HO3.out (p := ⟨wb.heap.size + 1, 2, none⟩) HN3.out (.slice A3 (1 + n) c3)
  have X4 : Hid (Ext wb w4) := by unfold Hid; rw [← hw4]; exact ⟨X3.out.out.setCell (p := ⟨wb.heap.size + 1, 2, none⟩) (by simp) _⟩
  rw [hw4] at HO4 ⊢
  have HO4 := Lib.hid HO4
  clear hw4 p3 f3
  have HL4 : Hid (wb.heap.size + 1 < w4.heap.size) := at_lt HR4.out
  have p4 : w4.cell? ⟨wb.heap.size + 1, 2, none⟩ = some (.slice A3 (1 + n) c3) := at_cell HR4.out 2
  go_upto_region 10 with
    (at_builtin
     refine wp_append_str (w0 := wb) wb.heap.size rfl (.tmp 52) (.tmp 53) 22 9 5 rfl Try.underlying22 Try.underlying9 info_u8 (.slice A3 (1 + n) c3) (1 + n) _ s rfl rfl HO4.out X4.out.out X4.out.out.size (by have := HS64.out; omega) ?_
     intro v5 w5 ho5 hb5 hg5
     obtain ⟨A5, c5, rfl, hc5⟩ := own_slice ho5
     have HO5 := Lib.hid ho5
     have X5 : Hid (Ext wb w5) := ⟨hb5⟩
     have HR5 : Hid (w5.heap[wb.heap.size + 1]? = some (.cells #[.int .i64 code, .int .i64 id, .slice A3 (1 + n) c3] 24 (0, 0))) := (hg5.block _ HL4.out (fun e => HN3.out e.symm)).trans HR4.out
     have HN5 : Hid ((Value.slice A5 (1 + n + s.size) c5).ownBlock ≠ some (wb.heap.size + 1)) := own_type_ne HO5.out HR5.out (by decide)
     have p5 : w5.cell? ⟨wb.heap.size + 1, 2, none⟩ = some (.slice A3 (1 + n) c3) := at_cell HR5.out 2
     have f5 : w5.frozen? ⟨wb.heap.size + 1, 2, none⟩ = false := at_frozen HR5.out 2
     clear ho5 hb5 hg5 p4)
  obtain ⟨w6, hw6⟩ : ∃ w6, w5.setCell ⟨wb.heap.size + 1, 2, none⟩ (.slice A5 (1 + n + s.size) c5) = w6 := ⟨_, rfl⟩
  have HR6 : Hid (w6.heap[wb.heap.size + 1]? = some (.cells #[.int .i64 code, .int .i64 id, .slice A5 (1 + n + s.size) c5] 24 (0, 0))) := by unfold Hid; rw [← hw6]; exact at_set HR5.out 2 _
  have HO6 := own_setCell HO5.out (p := ⟨wb.heap.size + 1, 2, none⟩) HN5.out (.slice A5 (1 + n + s.size) c5)
  have X6 : Hid (Ext wb w6) := by unfold Hid; rw [← hw6]; exact ⟨X5.out.out.setCell (p := ⟨wb.heap.size + 1, 2, none⟩) (by simp) _⟩
  rw [hw6] at HO6 ⊢
  have HO6 := Lib.hid HO6
  clear hw6 p5 f5
  have HZ6 : Hid (w6.heap[w.heap.size]? = some zPk) := at_ext (h := X6.out) HZ.out
  have HNE : Hid ((Value.slice A5 (1 + n + s.size) c5).ownBlock ≠ some w.heap.size) := by
    intro e
    have h1 := own_base HO6.out _ e
    have h2 := HLB.out
    omega
  go_wp2_with
    (first
     | (refine wpList_load_row rfl 24 (.tmp 10) rfl (wb.heap.size + 1) rfl 24 #[.int .i64 code, .int .i64 id, .slice A5 (1 + n + s.size) c5] (0, 0) _ HR6.out Try.underlying24 rfl (by kernel_rfl) ?_)
     | (refine wpList_store_row rfl 24 (.tmp 8) (.tmp 56) rfl w.heap.size #[.int .i64 code, .int .i64 id, .slice A5 (1 + n + s.size) c5] rfl rfl 24 #[.int .i64 0, .int .i64 0, .slice none 0 0] HZ6.out (by kernel_rfl) rfl (by simp [Value.oneCell']) ?_))
  refine bodyPost_ret (results_cell_row2 Try.results15 _ _ w.heap.size 24 #[.int .i64 code, .int .i64 id, .slice A5 (1 + n + s.size) c5] (0, 0) _ (.int .i64 0) rfl rfl (setRow_heap _ _ _ _ _ _ HZ6.out) Try.underlying24 rfl (by kernel_rfl)) rfl ?_
  rw [HR.out]
  refine ⟨A5, c5, ?_, ?_, (Ext.setRow_ (Ext.trans_ HW.out X6.out) (Nat.le_refl _) _).out⟩
  · simp only [HLL.out]
  · simp only [HLL.out, nums_append]
    exact own_weaken (own_setRow HO6.out HNE.out _) (Nat.le_of_lt HLB.out)
end Go.Proofs.Ytobddmpiljknpaa

namespace Go.Proofs.Ytobddmpiljknpaa
open Go.RowKit
set_option linter.unusedVariables false
set_option linter.unusedSimpArgs false

set_option maxRecDepth 100000 in
set_option maxHeartbeats 4000000 in
theorem rtold_any (code id : Int) (s : ByteArray) (hs : s.size ≤ 140737488355328) (w : World) :
    Calls Try.prog 19 #[.int .i64 code, .int .i64 id, .string s] w (ToldTells (tdF code id (strB s)) w) := by
  have HL := Lib.hid (strB_len s)
  go_enter Try.func19, Try.ntmps19
  go_upto_region 1 with fail
  obtain ⟨wb, hwb⟩ : ∃ wb, w.alloc zPk = wb := ⟨_, rfl⟩
  have HZ : Hid (wb.heap[w.heap.size]? = some zPk) := by unfold Hid; rw [← hwb]; exact at_new w _
  have HW : Hid (Ext w wb) := by unfold Hid; rw [← hwb]; exact inferInstance
  have HLB : Hid (w.heap.size < wb.heap.size) := at_lt HZ.out
  rw [hwb]
  clear hwb
  obtain ⟨q, hq⟩ : ∃ q, decide ((code ≠ 3 ∧ code ≠ 4) ∨ id < 0 ∨ 255 < id) = q := ⟨_, rfl⟩
  have HQ := Lib.hid hq
  clear hq
  go_cut [22] (fun s wx => s = .bool q ∧ wb = wx)
  case first =>
    by_cases c1 : code = 3
    · subst c1
      by_cases i1 : id < 0
      · skip
        go_wp2_with fail
        go_meet
        case rel => exact ⟨by rw [← HQ.out, decide_eq_true (by omega)], rfl⟩
      by_cases i2 : 255 < id
      · skip
        go_wp2_with fail
        go_meet
        case rel => exact ⟨by rw [← HQ.out, decide_eq_true (by omega)], rfl⟩
      go_wp2_with fail
      go_meet
      case rel => exact ⟨by rw [← HQ.out, decide_eq_false (by omega)], rfl⟩
    have c1' : (code != 3) = true := by simpa using c1
    by_cases c2 : code = 4
    · subst c2
      by_cases i1 : id < 0
      · skip
        go_wp2_with fail
        go_meet
        case rel => exact ⟨by rw [← HQ.out, decide_eq_true (by omega)], rfl⟩
      by_cases i2 : 255 < id
      · skip
        go_wp2_with fail
        go_meet
        case rel => exact ⟨by rw [← HQ.out, decide_eq_true (by omega)], rfl⟩
      go_wp2_with fail
      go_meet
      case rel => exact ⟨by rw [← HQ.out, decide_eq_false (by omega)], rfl⟩
    have c2' : (code != 4) = true := by simpa using c2
    go_wp2_with fail
    go_meet
    case rel => exact ⟨by rw [← HQ.out, decide_eq_true (by omega)], rfl⟩
  case' rest =>
    obtain ⟨rfl, rfl⟩ := hcut
  cases q
  case true =>
    have HR : Hid (tdF code id (strB s) = ((0, 0), [], 90)) := if_pos (of_decide_eq_true HQ.out)
    go_wp2_with
      (refine wpList_store_row rfl 24 (.tmp 6) (.tmp 23) rfl w.heap.size #[.int .i64 0, .int .i64 0, .slice none 0 0] rfl rfl 24 #[.int .i64 0, .int .i64 0, .slice none 0 0] HZ.out (by kernel_rfl) rfl (by simp [Value.oneCell']) ?_)
    refine bodyPost_ret (results_cell_row2 Try.results19 _ _ w.heap.size 24 #[.int .i64 0, .int .i64 0, .slice none 0 0] (0, 0) _ (.int .i64 90) rfl rfl (setRow_heap _ _ _ _ _ _ HZ.out) Try.underlying24 rfl (by kernel_rfl)) rfl ?_
    rw [HR.out]
    exact ⟨none, 0, rfl, Nat.le_refl _, Cells.nil_ _ _, (Ext.setRow_ HW.out (Nat.le_refl _) _).out⟩
  have HG := Lib.hid (of_decide_eq_false HQ.out)
  by_cases l1 : 255 < s.size
  · have HR : Hid (tdF code id (strB s) = ((0, 0), [], 3)) := by
      unfold Hid tdF
      rw [if_neg HG.out]
      rcases plainF (strB s) with _ | _
      · exact if_pos rfl
      · rw [if_neg (by simp), if_pos (by rw [HL.out]; exact l1)]
    have l1I : 255 < (s.size : Int) := by omega
    go_wp2_with
      (refine wpList_store_row rfl 24 (.tmp 6) (.tmp 27) rfl w.heap.size #[.int .i64 0, .int .i64 0, .slice none 0 0] rfl rfl 24 #[.int .i64 0, .int .i64 0, .slice none 0 0] HZ.out (by kernel_rfl) rfl (by simp [Value.oneCell']) ?_)
    refine bodyPost_ret (results_cell_row2 Try.results19 _ _ w.heap.size 24 #[.int .i64 0, .int .i64 0, .slice none 0 0] (0, 0) _ (.int .i64 3) rfl rfl (setRow_heap _ _ _ _ _ _ HZ.out) Try.underlying24 rfl (by kernel_rfl)) rfl ?_
    rw [HR.out]
    exact ⟨none, 0, rfl, Nat.le_refl _, Cells.nil_ _ _, (Ext.setRow_ HW.out (Nat.le_refl _) _).out⟩
  have l1I : ¬ 255 < (s.size : Int) := by omega
  go_wp2_with fail
  go_loopw [8] (fun i wr => ∃ k : Nat, i = .int .i64 k ∧ k ≤ s.size ∧ Hid (((strB s).take k).all okP = true) ∧ wb = wr) (fun i _ => s.size - (intOf i).toNat)
  case atStart => exact ⟨0, rfl, by omega, rfl, rfl⟩
  case round =>
    obtain ⟨k, rfl, hk, HA, rfl⟩ := hrel
    by_cases hlt : k < s.size
    · have hI : (k : Int) < (s.size : Int) := by omega
      have HLT := Lib.hid (show k < (strB s).length by rw [HL.out]; exact hlt)
      have HX : Hid ((strB s).getD k 0 = ((s[k]'hlt).toNat : Int)) := by
        unfold Hid strB
        rw [List.getD_eq_getElem?_getD, List.getElem?_map]
        have h2 : k < s.data.toList.length := by rw [Array.length_toList]; exact hlt
        rw [List.getElem?_eq_getElem h2]
        rfl
      by_cases p1 : ((s[k]'hlt).toNat : Int) < 32
      · have HR : Hid (tdF code id (strB s) = ((0, 0), [], 3)) := by unfold Hid tdF; rw [if_neg HG.out, if_pos (show plainF (strB s) = false from all_not HLT.out (by rw [HX.out]; unfold okP; exact decide_eq_false (by omega)))]
        go_wp2_with
          (refine wpList_store_row rfl 24 (.tmp 6) (.tmp 44) rfl w.heap.size #[.int .i64 0, .int .i64 0, .slice none 0 0] rfl rfl 24 #[.int .i64 0, .int .i64 0, .slice none 0 0] HZ.out (by kernel_rfl) rfl (by simp [Value.oneCell']) ?_)
        refine bodyPost_ret (results_cell_row2 Try.results19 _ _ w.heap.size 24 #[.int .i64 0, .int .i64 0, .slice none 0 0] (0, 0) _ (.int .i64 3) rfl rfl (setRow_heap _ _ _ _ _ _ HZ.out) Try.underlying24 rfl (by kernel_rfl)) rfl ?_
        rw [HR.out]
        exact ⟨none, 0, rfl, Nat.le_refl _, Cells.nil_ _ _, (Ext.setRow_ HW.out (Nat.le_refl _) _).out⟩
      by_cases p2 : 126 < ((s[k]'hlt).toNat : Int)
      · have HR : Hid (tdF code id (strB s) = ((0, 0), [], 3)) := by unfold Hid tdF; rw [if_neg HG.out, if_pos (show plainF (strB s) = false from all_not HLT.out (by rw [HX.out]; unfold okP; exact decide_eq_false (by omega)))]
        go_wp2_with
          (refine wpList_store_row rfl 24 (.tmp 6) (.tmp 44) rfl w.heap.size #[.int .i64 0, .int .i64 0, .slice none 0 0] rfl rfl 24 #[.int .i64 0, .int .i64 0, .slice none 0 0] HZ.out (by kernel_rfl) rfl (by simp [Value.oneCell']) ?_)
        refine bodyPost_ret (results_cell_row2 Try.results19 _ _ w.heap.size 24 #[.int .i64 0, .int .i64 0, .slice none 0 0] (0, 0) _ (.int .i64 3) rfl rfl (setRow_heap _ _ _ _ _ _ HZ.out) Try.underlying24 rfl (by kernel_rfl)) rfl ?_
        rw [HR.out]
        exact ⟨none, 0, rfl, Nat.le_refl _, Cells.nil_ _ _, (Ext.setRow_ HW.out (Nat.le_refl _) _).out⟩
      have HA2 := Lib.hid (all_take_succ HA.out HLT.out (by rw [HX.out]; unfold okP; exact decide_eq_true (by omega)))
      go_wp2_with fail
      go_roundw
      case rel => exact ⟨k + 1, by go_num, by omega, HA2.out, trivial⟩
      case measure => simp [intOf]; omega
    · obtain rfl : k = s.size := by omega
      have HPL : Hid (plainF (strB s) = true) := by
        have h1 := HA.out
        rw [List.take_of_length_le (by rw [HL.out]; exact Nat.le_refl _)] at h1
        exact h1
      have HR : Hid (tdF code id (strB s) = ((code, id), strB s, 0)) := by unfold Hid tdF; rw [if_neg HG.out, if_neg (by rw [HPL.out]; simp), if_neg (by rw [HL.out]; exact l1)]
      obtain ⟨w1, c1, hcv, hsc, hC1, hB1, _⟩ := conv_str (P := Try.prog) wb 9 22 5 s Try.underlying9 Try.underlying22 Try.underlying5
      have HC1 := Lib.hid hC1
      have HSC := Lib.hid hsc
      have X1 : Hid (Ext wb w1) := ⟨hB1⟩
      have HZ1 : Hid (w1.heap[w.heap.size]? = some zPk) := at_ext (h := X1.out) HZ.out
      clear hC1 hB1 hsc
      go_wp2_with
        (refine wpList_store_row rfl 24 (.tmp 6) (.tmp 49) rfl w.heap.size #[.int .i64 code, .int .i64 id, .slice (some ⟨wb.heap.size, 0, none⟩) s.size c1] rfl rfl 24 #[.int .i64 0, .int .i64 0, .slice none 0 0] HZ1.out (by kernel_rfl) rfl (by simp [Value.oneCell']) ?_)
      refine bodyPost_ret (results_cell_row2 Try.results19 _ _ w.heap.size 24 #[.int .i64 code, .int .i64 id, .slice (some ⟨wb.heap.size, 0, none⟩) s.size c1] (0, 0) _ (.int .i64 0) rfl rfl (setRow_heap _ _ _ _ _ _ HZ1.out) Try.underlying24 rfl (by kernel_rfl)) rfl ?_
      rw [HR.out]
      refine ⟨some ⟨wb.heap.size, 0, none⟩, c1, ?_, ?_, ?_, (Ext.setRow_ (Ext.trans_ HW.out X1.out) (Nat.le_refl _) _).out⟩
      · simp only [HL.out]
      · simp only [HL.out]; exact HSC.out
      · exact cells_setRow HC1.out (fun ad ha => by injection ha with ha; rw [← ha]; have := HLB.out; show wb.heap.size ≠ w.heap.size; omega) _
end Go.Proofs.Ytobddmpiljknpaa

namespace Go.Proofs.Ytobddmpiljknpaa
open Go.RowKit
set_option linter.unusedVariables false
set_option linter.unusedSimpArgs false

set_option maxRecDepth 100000 in
set_option maxHeartbeats 8000000 in
theorem rread_any (code id : Int) (A : Option Addr) (n c : Nat) (xs : List Int) (hn : xs.length = n) (hn' : n ≤ 140737488355200) (hnc : n ≤ c) (hb : Byt xs) (w : World) (hx : Cells w A (nums .u8 xs)) :
    Calls Try.prog 23 #[.agg #[.int .i64 code, .int .i64 id, .slice A n c]] w (PartsTells (rdF code id xs) w) := by
  have Hn := Lib.hid hn
  have HX := Lib.hid hx
  have HB := Lib.hid hb
  clear hn hx hb
  go_enter Try.func23, Try.ntmps23
  go_upto_region 1 with fail
  obtain ⟨wb, hwb⟩ : ∃ wb, w.alloc (.cells #[.int .i64 code, .int .i64 id, .slice A n c] 24) = wb := ⟨_, rfl⟩
  have HP : Hid (wb.heap[w.heap.size]? = some (.cells #[.int .i64 code, .int .i64 id, .slice A n c] 24 (0, 0))) := by unfold Hid; rw [← hwb]; exact at_new w _
  have HW : Hid (Ext w wb) := by unfold Hid; rw [← hwb]; exact inferInstance
  rw [hwb]
  clear hwb
  have p0 : wb.cell? ⟨w.heap.size, 0, none⟩ = some (.int .i64 code) := at_cell HP.out 0
  have p1 : wb.cell? ⟨w.heap.size, 1, none⟩ = some (.int .i64 id) := at_cell HP.out 1
  have p2 : wb.cell? ⟨w.heap.size, 2, none⟩ = some (.slice A n c) := at_cell HP.out 2
  obtain ⟨q, hq⟩ : ∃ q, badP code id = q := ⟨_, rfl⟩
  have HQ := Lib.hid hq
  clear hq
  go_cut [25] (fun s wx => s = .bool q ∧ wb = wx)
  case first =>
    by_cases c1 : code = 1
    · subst c1
      by_cases i1 : id < 0
      · skip
        go_wp2_with fail
        go_meet
        case rel => exact ⟨by rw [← HQ.out]; unfold badP; rw [decide_eq_true (by omega)], rfl⟩
      by_cases i2 : 255 < id
      · skip
        go_wp2_with fail
        go_meet
        case rel => exact ⟨by rw [← HQ.out]; unfold badP; rw [decide_eq_true (by omega)], rfl⟩
      go_wp2_with fail
      go_meet
      case rel => exact ⟨by rw [← HQ.out]; unfold badP; rw [decide_eq_false (by omega)], rfl⟩
    have c1' : (code != 1) = true := by simpa using c1
    by_cases c2 : code = 2
    · subst c2
      by_cases i1 : id < 0
      · skip
        go_wp2_with fail
        go_meet
        case rel => exact ⟨by rw [← HQ.out]; unfold badP; rw [decide_eq_true (by omega)], rfl⟩
      by_cases i2 : 255 < id
      · skip
        go_wp2_with fail
        go_meet
        case rel => exact ⟨by rw [← HQ.out]; unfold badP; rw [decide_eq_true (by omega)], rfl⟩
      go_wp2_with fail
      go_meet
      case rel => exact ⟨by rw [← HQ.out]; unfold badP; rw [decide_eq_false (by omega)], rfl⟩
    have c2' : (code != 2) = true := by simpa using c2
    go_wp2_with fail
    go_meet
    case rel => exact ⟨by rw [← HQ.out]; unfold badP; rw [decide_eq_true (by omega)], rfl⟩
  case' rest =>
    obtain ⟨rfl, rfl⟩ := hcut
  cases q
  case true =>
    have HF : Hid (rdF code id xs = (([], []), 90)) := by unfold Hid rdF; rw [HQ.out]; rfl
    go_wp2_with fail
    go_ret3
    exact parts_no HF.out HW.out.out
  have HG : Hid (∀ F, ptsF xs = F → rdF code id xs = F) := by
    intro F h
    unfold rdF
    rw [HQ.out]
    exact h
  rcases xs with _ | ⟨X, ys⟩
  · obtain rfl : n = 0 := Hn.out.symm
    have HF : Hid (rdF code id [] = (([], []), 8)) := HG.out _ rfl
    go_upto_region 3 with fail
    refine wp_region_held_drew (S := Ext wb) (by kernel_rfl) (by exact inferInstance) (fun hHeld => ?_)
    refine wpAnyH_take (i := 0) (v := ?_) rfl (by kernel_rfl) (by kernel_rfl) (by kernel_rfl) (fun _ _ _ h => h) (Yields.yieldsIf (Or.inl ⟨by rfl, ?_⟩)) hHeld ?_
    rotate_left
    · intro W
      go_simp
      try with_reducible rfl
    simp only [List.getElem_toArray, List.getElem_cons_succ, List.getElem_cons_zero, Act.put, List.setIfInBounds_toArray, List.set_cons_zero, List.set_cons_succ]
    refine wpAnyH_take (i := 1) (v := ?_) rfl (by kernel_rfl) (by kernel_rfl) (by kernel_rfl) (fun _ _ _ h => h) (Or.inl ⟨by rfl, ?_⟩) hHeld ?_
    rotate_left
    · intro W hW
      have hcl := cell_ext (h := hW) (at_cell HP.out 2)
      go_simp
      try with_reducible rfl
    simp only [List.getElem_toArray, List.getElem_cons_succ, List.getElem_cons_zero, Act.put, List.setIfInBounds_toArray, List.set_cons_zero, List.set_cons_succ]
    refine wpAnyH_take (i := 2) (v := ?_) rfl (by kernel_rfl) (by kernel_rfl) (by kernel_rfl) (fun _ _ _ h => h) (Yields.yieldsIf (Or.inl ⟨by rfl, ?_⟩)) hHeld ?_
    rotate_left
    · intro W
      go_simp
      try with_reducible rfl
    simp only [List.getElem_toArray, List.getElem_cons_succ, List.getElem_cons_zero, Act.put, List.setIfInBounds_toArray, List.set_cons_zero, List.set_cons_succ]
    refine wpAnyH_take (i := 3) (v := ?_) rfl (by kernel_rfl) (by kernel_rfl) (by kernel_rfl) (fun _ _ _ h => h) (Yields.yieldsIf (Or.inl ⟨by rfl, ?_⟩)) hHeld ?_
    rotate_left
    · intro W
      go_simp
      try with_reducible rfl
    simp only [List.getElem_toArray, List.getElem_cons_succ, List.getElem_cons_zero, Act.put, List.setIfInBounds_toArray, List.set_cons_zero, List.set_cons_succ]
    refine wpAnyH_take (i := 4) (v := ?_) rfl (by kernel_rfl) (by kernel_rfl) (by kernel_rfl) (fun _ _ _ h => h) (Yields.yieldsIf (Or.inl ⟨by rfl, ?_⟩)) hHeld ?_
    rotate_left
    · intro W
      go_simp
      try with_reducible rfl
    simp only [List.getElem_toArray, List.getElem_cons_succ, List.getElem_cons_zero, Act.put, List.setIfInBounds_toArray, List.set_cons_zero, List.set_cons_succ]
    refine wpAnyH_take (i := 5) (v := undef) rfl (by kernel_rfl) (by kernel_rfl) (by kernel_rfl) (fun _ _ _ h => h) (Yields.yieldsIf (Or.inr ⟨by rfl, rfl⟩)) hHeld ?_
    simp only [List.getElem_toArray, List.getElem_cons_succ, List.getElem_cons_zero, Act.put, List.setIfInBounds_toArray, List.set_cons_zero, List.set_cons_succ]
    refine wpAnyH_take (i := 6) (v := undef) rfl (by kernel_rfl) (by kernel_rfl) (by kernel_rfl) (fun _ _ _ h => h) (Yields.yieldsIf (Or.inr ⟨by rfl, rfl⟩)) hHeld ?_
    simp only [List.getElem_toArray, List.getElem_cons_succ, List.getElem_cons_zero, Act.put, List.setIfInBounds_toArray, List.set_cons_zero, List.set_cons_succ]
    refine wpAnyH_take (i := 7) (v := undef) rfl (by kernel_rfl) (by kernel_rfl) (by kernel_rfl) (fun _ _ _ h => h) (Yields.yieldsIf (Or.inr ⟨by rfl, rfl⟩)) hHeld ?_
    simp only [List.getElem_toArray, List.getElem_cons_succ, List.getElem_cons_zero, Act.put, List.setIfInBounds_toArray, List.set_cons_zero, List.set_cons_succ]
    refine wpAnyH_take (i := 8) (v := undef) rfl (by kernel_rfl) (by kernel_rfl) (by kernel_rfl) (fun _ _ _ h => h) (Yields.yieldsIf (Or.inr ⟨by rfl, rfl⟩)) hHeld ?_
    simp only [List.getElem_toArray, List.getElem_cons_succ, List.getElem_cons_zero, Act.put, List.setIfInBounds_toArray, List.set_cons_zero, List.set_cons_succ]
    refine wpAnyH_take (i := 9) (v := undef) rfl (by kernel_rfl) (by kernel_rfl) (by kernel_rfl) (fun _ _ _ h => h) (Yields.yieldsIf (Or.inr ⟨by rfl, rfl⟩)) hHeld ?_
    simp only [List.getElem_toArray, List.getElem_cons_succ, List.getElem_cons_zero, Act.put, List.setIfInBounds_toArray, List.set_cons_zero, List.set_cons_succ]
    refine wpAnyH_take (i := 10) (v := undef) rfl (by kernel_rfl) (by kernel_rfl) (by kernel_rfl) (fun _ _ _ h => h) (Yields.yieldsIf (Or.inr ⟨by rfl, rfl⟩)) hHeld ?_
    simp only [List.getElem_toArray, List.getElem_cons_succ, List.getElem_cons_zero, Act.put, List.setIfInBounds_toArray, List.set_cons_zero, List.set_cons_succ]
    refine wpAnyH_take (i := 11) (v := undef) rfl (by kernel_rfl) (by kernel_rfl) (by kernel_rfl) (fun _ _ _ h => h) (Yields.yieldsIf (Or.inr ⟨by rfl, rfl⟩)) hHeld ?_
    simp only [List.getElem_toArray, List.getElem_cons_succ, List.getElem_cons_zero, Act.put, List.setIfInBounds_toArray, List.set_cons_zero, List.set_cons_succ]
    refine wpAnyH_take (i := 12) (v := undef) rfl (by kernel_rfl) (by kernel_rfl) (by kernel_rfl) (fun _ _ _ h => h) (Yields.yieldsIf (Or.inr ⟨by rfl, rfl⟩)) hHeld ?_
    simp only [List.getElem_toArray, List.getElem_cons_succ, List.getElem_cons_zero, Act.put, List.setIfInBounds_toArray, List.set_cons_zero, List.set_cons_succ]
    refine wpAnyH_take (i := 13) (v := undef) rfl (by kernel_rfl) (by kernel_rfl) (by kernel_rfl) (fun _ _ _ h => h) (Yields.yieldsIf (Or.inr ⟨by rfl, rfl⟩)) hHeld ?_
    simp only [List.getElem_toArray, List.getElem_cons_succ, List.getElem_cons_zero, Act.put, List.setIfInBounds_toArray, List.set_cons_zero, List.set_cons_succ]
    refine wpAnyH_take (i := 14) (v := undef) rfl (by kernel_rfl) (by kernel_rfl) (by kernel_rfl) (fun _ _ _ h => h) (Yields.yieldsIf (Or.inr ⟨by rfl, rfl⟩)) hHeld ?_
    simp only [List.getElem_toArray, List.getElem_cons_succ, List.getElem_cons_zero, Act.put, List.setIfInBounds_toArray, List.set_cons_zero, List.set_cons_succ]
    refine wpAnyH_take (i := 15) (v := ?_) rfl (by kernel_rfl) (by kernel_rfl) (by kernel_rfl) (fun _ _ _ h => h) (Yields.yieldsIf (Or.inl ⟨by rfl, ?_⟩)) hHeld ?_
    rotate_left
    · intro W
      go_simp
      try with_reducible rfl
    simp only [List.getElem_toArray, List.getElem_cons_succ, List.getElem_cons_zero, Act.put, List.setIfInBounds_toArray, List.set_cons_zero, List.set_cons_succ]
    refine wpAnyH_done (by kernel_rfl) ?_ _
    clear hHeld
    go_wp2
    go_ret3
    exact parts_no HF.out HW.out.out.drew
  have hl : ys.length + 1 = n := Hn.out
  have hX := HB.out X (by simp)
  obtain ⟨ad, rfl, hc⟩ := (HX.out.ext (h := HW.out)).num (xs := X :: ys) (i := 0) (by simp)
  have hc0 : wb.cell? ad = some (.int .u8 X) := by
    have h := hc
    unfold Addr.add at h
    rw [if_pos rfl] at h
    exact h
  have hX0 := hX.1
  have hX1 := hX.2
  have hn1 : ¬ (n : Int) < 1 := by omega
  have hn1b : (0 : Int) < (n : Int) := by omega
  have hn1c : 0 < n := by omega
  have hwX : IntKind.i64.wrap X = X := by rw [IntKind.wrap_i64]; omega
  have hw1 : IntKind.i64.wrap ((n : Int) - 1) = (n : Int) - 1 := by rw [IntKind.wrap_i64]; omega
  clear hc hX
  by_cases hlt : (ys.length : Int) < X
  · have HF : Hid (rdF code id (X :: ys) = (([], []), 8)) := HG.out _ (by unfold ptsF; rw [show prtF (X :: ys) = none from if_pos hlt])
    have hle : (n : Int) - 1 < X := by omega
    have hled : decide ((n : Int) - 1 < X) = true := decide_eq_true hle
    go_upto_region 3 with fail
    refine wp_region_held_drew (S := Ext wb) (by kernel_rfl) (by exact inferInstance) (fun hHeld => ?_)
    refine wpAnyH_take (i := 0) (v := ?_) rfl (by kernel_rfl) (by kernel_rfl) (by kernel_rfl) (fun _ _ _ h => h) (Yields.yieldsIf (Or.inl ⟨by rfl, ?_⟩)) hHeld ?_
    rotate_left
    · intro W
      go_simp
      try with_reducible rfl
    simp only [List.getElem_toArray, List.getElem_cons_succ, List.getElem_cons_zero, Act.put, List.setIfInBounds_toArray, List.set_cons_zero, List.set_cons_succ]
    refine wpAnyH_take (i := 1) (v := ?_) rfl (by kernel_rfl) (by kernel_rfl) (by kernel_rfl) (fun _ _ _ h => h) (Or.inl ⟨by rfl, ?_⟩) hHeld ?_
    rotate_left
    · intro W hW
      have hcl := cell_ext (h := hW) (at_cell HP.out 2)
      go_simp
      try with_reducible rfl
    simp only [List.getElem_toArray, List.getElem_cons_succ, List.getElem_cons_zero, Act.put, List.setIfInBounds_toArray, List.set_cons_zero, List.set_cons_succ]
    refine wpAnyH_take (i := 2) (v := ?_) rfl (by kernel_rfl) (by kernel_rfl) (by kernel_rfl) (fun _ _ _ h => h) (Yields.yieldsIf (Or.inl ⟨by rfl, ?_⟩)) hHeld ?_
    rotate_left
    · intro W
      go_simp
      try with_reducible rfl
    simp only [List.getElem_toArray, List.getElem_cons_succ, List.getElem_cons_zero, Act.put, List.setIfInBounds_toArray, List.set_cons_zero, List.set_cons_succ]
    refine wpAnyH_take (i := 3) (v := ?_) rfl (by kernel_rfl) (by kernel_rfl) (by kernel_rfl) (fun _ _ _ h => h) (Yields.yieldsIf (Or.inl ⟨by rfl, ?_⟩)) hHeld ?_
    rotate_left
    · intro W
      go_simp
      try with_reducible rfl
    simp only [List.getElem_toArray, List.getElem_cons_succ, List.getElem_cons_zero, Act.put, List.setIfInBounds_toArray, List.set_cons_zero, List.set_cons_succ]
    refine wpAnyH_take (i := 4) (v := ?_) rfl (by kernel_rfl) (by kernel_rfl) (by kernel_rfl) (fun _ _ _ h => h) (Yields.yieldsIf (Or.inl ⟨by rfl, ?_⟩)) hHeld ?_
    rotate_left
    · intro W
      go_simp
      try with_reducible rfl
    simp only [List.getElem_toArray, List.getElem_cons_succ, List.getElem_cons_zero, Act.put, List.setIfInBounds_toArray, List.set_cons_zero, List.set_cons_succ]
    refine wpAnyH_take (i := 5) (v := ?_) rfl (by kernel_rfl) (by kernel_rfl) (by kernel_rfl) (fun _ _ _ h => h) (Yields.yieldsIf (Or.inl ⟨by rfl, ?_⟩)) hHeld ?_
    rotate_left
    · intro W
      go_simp
      try with_reducible rfl
    simp only [List.getElem_toArray, List.getElem_cons_succ, List.getElem_cons_zero, Act.put, List.setIfInBounds_toArray, List.set_cons_zero, List.set_cons_succ]
    refine wpAnyH_take (i := 6) (v := ?_) rfl (by kernel_rfl) (by kernel_rfl) (by kernel_rfl) (fun _ _ _ h => h) (Or.inl ⟨by rfl, ?_⟩) hHeld ?_
    rotate_left
    · intro W hW
      have hcl := cell_ext (h := hW) (at_cell HP.out 2)
      go_simp
      try with_reducible rfl
    simp only [List.getElem_toArray, List.getElem_cons_succ, List.getElem_cons_zero, Act.put, List.setIfInBounds_toArray, List.set_cons_zero, List.set_cons_succ]
    refine wpAnyH_take (i := 7) (v := ?_) rfl (by kernel_rfl) (by kernel_rfl) (by kernel_rfl) (fun _ _ _ h => h) (Yields.yieldsIf (Or.inl ⟨by rfl, ?_⟩)) hHeld ?_
    rotate_left
    · intro W
      go_simp
      try with_reducible rfl
    simp only [List.getElem_toArray, List.getElem_cons_succ, List.getElem_cons_zero, Act.put, List.setIfInBounds_toArray, List.set_cons_zero, List.set_cons_succ]
    refine wpAnyH_take (i := 8) (v := ?_) rfl (by kernel_rfl) (by kernel_rfl) (by kernel_rfl) (fun _ _ _ h => h) (Yields.yieldsIf (Or.inl ⟨by rfl, ?_⟩)) hHeld ?_
    rotate_left
    · intro W
      go_simp
      try with_reducible rfl
    simp only [List.getElem_toArray, List.getElem_cons_succ, List.getElem_cons_zero, Act.put, List.setIfInBounds_toArray, List.set_cons_zero, List.set_cons_succ]
    refine wpAnyH_take (i := 9) (v := ?_) rfl (by kernel_rfl) (by kernel_rfl) (by kernel_rfl) (fun _ _ _ h => h) (Yields.yieldsIf (Or.inl ⟨by rfl, ?_⟩)) hHeld ?_
    rotate_left
    · intro W
      go_simp
      try with_reducible rfl
    simp only [List.getElem_toArray, List.getElem_cons_succ, List.getElem_cons_zero, Act.put, List.setIfInBounds_toArray, List.set_cons_zero, List.set_cons_succ]
    refine wpAnyH_take (i := 10) (v := ?_) rfl (by kernel_rfl) (by kernel_rfl) (by kernel_rfl) (fun _ _ _ h => h) (Or.inl ⟨by rfl, ?_⟩) hHeld ?_
    rotate_left
    · intro W hW
      have hcl := cell_ext (h := hW) (at_cell HP.out 2)
      go_simp
      try with_reducible rfl
    simp only [List.getElem_toArray, List.getElem_cons_succ, List.getElem_cons_zero, Act.put, List.setIfInBounds_toArray, List.set_cons_zero, List.set_cons_succ]
    refine wpAnyH_take (i := 11) (v := ?_) rfl (by kernel_rfl) (by kernel_rfl) (by kernel_rfl) (fun _ _ _ h => h) (Yields.yieldsIf (Or.inl ⟨by rfl, ?_⟩)) hHeld ?_
    rotate_left
    · intro W
      go_simp
      try with_reducible rfl
    simp only [List.getElem_toArray, List.getElem_cons_succ, List.getElem_cons_zero, Act.put, List.setIfInBounds_toArray, List.set_cons_zero, List.set_cons_succ]
    refine wpAnyH_take (i := 12) (v := ?_) rfl (by kernel_rfl) (by kernel_rfl) (by kernel_rfl) (fun _ _ _ h => h) (Or.inl ⟨by rfl, ?_⟩) hHeld ?_
    rotate_left
    · intro W hW
      have hcl := cell_ext (h := hW) hc0
      go_simp
      try with_reducible rfl
    simp only [List.getElem_toArray, List.getElem_cons_succ, List.getElem_cons_zero, Act.put, List.setIfInBounds_toArray, List.set_cons_zero, List.set_cons_succ]
    refine wpAnyH_take (i := 13) (v := ?_) rfl (by kernel_rfl) (by kernel_rfl) (by kernel_rfl) (fun _ _ _ h => h) (Yields.yieldsIf (Or.inl ⟨by rfl, ?_⟩)) hHeld ?_
    rotate_left
    · intro W
      go_simp
      try with_reducible rfl
    simp only [List.getElem_toArray, List.getElem_cons_succ, List.getElem_cons_zero, Act.put, List.setIfInBounds_toArray, List.set_cons_zero, List.set_cons_succ]
    refine wpAnyH_take (i := 14) (v := ?_) rfl (by kernel_rfl) (by kernel_rfl) (by kernel_rfl) (fun _ _ _ h => h) (Yields.yieldsIf (Or.inl ⟨by rfl, ?_⟩)) hHeld ?_
    rotate_left
    · intro W
      go_simp
      try with_reducible rfl
    simp only [List.getElem_toArray, List.getElem_cons_succ, List.getElem_cons_zero, Act.put, List.setIfInBounds_toArray, List.set_cons_zero, List.set_cons_succ]
    refine wpAnyH_take (i := 15) (v := ?_) rfl (by kernel_rfl) (by kernel_rfl) (by kernel_rfl) (fun _ _ _ h => h) (Yields.yieldsIf (Or.inl ⟨by rfl, ?_⟩)) hHeld ?_
    rotate_left
    · intro W
      go_simp
      try with_reducible rfl
    simp only [List.getElem_toArray, List.getElem_cons_succ, List.getElem_cons_zero, Act.put, List.setIfInBounds_toArray, List.set_cons_zero, List.set_cons_succ]
    refine wpAnyH_done (by kernel_rfl) ?_ _
    clear hHeld
    go_wp2
    go_ret3
    exact parts_no HF.out HW.out.out.drew
  have hle : ¬ (n : Int) - 1 < X := by omega
  have hled : decide ((n : Int) - 1 < X) = false := decide_eq_false hle
  go_upto_region 3 with fail
  refine wp_region_held_drew (S := Ext wb) (by kernel_rfl) (by exact inferInstance) (fun hHeld => ?_)
  refine wpAnyH_take (i := 0) (v := ?_) rfl (by kernel_rfl) (by kernel_rfl) (by kernel_rfl) (fun _ _ _ h => h) (Yields.yieldsIf (Or.inl ⟨by rfl, ?_⟩)) hHeld ?_
  rotate_left
  · intro W
    go_simp
    try with_reducible rfl
  simp only [List.getElem_toArray, List.getElem_cons_succ, List.getElem_cons_zero, Act.put, List.setIfInBounds_toArray, List.set_cons_zero, List.set_cons_succ]
  refine wpAnyH_take (i := 1) (v := ?_) rfl (by kernel_rfl) (by kernel_rfl) (by kernel_rfl) (fun _ _ _ h => h) (Or.inl ⟨by rfl, ?_⟩) hHeld ?_
  rotate_left
  · intro W hW
    have hcl := cell_ext (h := hW) (at_cell HP.out 2)
    go_simp
    try with_reducible rfl
  simp only [List.getElem_toArray, List.getElem_cons_succ, List.getElem_cons_zero, Act.put, List.setIfInBounds_toArray, List.set_cons_zero, List.set_cons_succ]
  refine wpAnyH_take (i := 2) (v := ?_) rfl (by kernel_rfl) (by kernel_rfl) (by kernel_rfl) (fun _ _ _ h => h) (Yields.yieldsIf (Or.inl ⟨by rfl, ?_⟩)) hHeld ?_
  rotate_left
  · intro W
    go_simp
    try with_reducible rfl
  simp only [List.getElem_toArray, List.getElem_cons_succ, List.getElem_cons_zero, Act.put, List.setIfInBounds_toArray, List.set_cons_zero, List.set_cons_succ]
  refine wpAnyH_take (i := 3) (v := ?_) rfl (by kernel_rfl) (by kernel_rfl) (by kernel_rfl) (fun _ _ _ h => h) (Yields.yieldsIf (Or.inl ⟨by rfl, ?_⟩)) hHeld ?_
  rotate_left
  · intro W
    go_simp
    try with_reducible rfl
  simp only [List.getElem_toArray, List.getElem_cons_succ, List.getElem_cons_zero, Act.put, List.setIfInBounds_toArray, List.set_cons_zero, List.set_cons_succ]
  refine wpAnyH_take (i := 4) (v := ?_) rfl (by kernel_rfl) (by kernel_rfl) (by kernel_rfl) (fun _ _ _ h => h) (Yields.yieldsIf (Or.inl ⟨by rfl, ?_⟩)) hHeld ?_
  rotate_left
  · intro W
    go_simp
    try with_reducible rfl
  simp only [List.getElem_toArray, List.getElem_cons_succ, List.getElem_cons_zero, Act.put, List.setIfInBounds_toArray, List.set_cons_zero, List.set_cons_succ]
  refine wpAnyH_take (i := 5) (v := ?_) rfl (by kernel_rfl) (by kernel_rfl) (by kernel_rfl) (fun _ _ _ h => h) (Yields.yieldsIf (Or.inl ⟨by rfl, ?_⟩)) hHeld ?_
  rotate_left
  · intro W
    go_simp
    try with_reducible rfl
  simp only [List.getElem_toArray, List.getElem_cons_succ, List.getElem_cons_zero, Act.put, List.setIfInBounds_toArray, List.set_cons_zero, List.set_cons_succ]
  refine wpAnyH_take (i := 6) (v := ?_) rfl (by kernel_rfl) (by kernel_rfl) (by kernel_rfl) (fun _ _ _ h => h) (Or.inl ⟨by rfl, ?_⟩) hHeld ?_
  rotate_left
  · intro W hW
    have hcl := cell_ext (h := hW) (at_cell HP.out 2)
    go_simp
    try with_reducible rfl
  simp only [List.getElem_toArray, List.getElem_cons_succ, List.getElem_cons_zero, Act.put, List.setIfInBounds_toArray, List.set_cons_zero, List.set_cons_succ]
  refine wpAnyH_take (i := 7) (v := ?_) rfl (by kernel_rfl) (by kernel_rfl) (by kernel_rfl) (fun _ _ _ h => h) (Yields.yieldsIf (Or.inl ⟨by rfl, ?_⟩)) hHeld ?_
  rotate_left
  · intro W
    go_simp
    try with_reducible rfl
  simp only [List.getElem_toArray, List.getElem_cons_succ, List.getElem_cons_zero, Act.put, List.setIfInBounds_toArray, List.set_cons_zero, List.set_cons_succ]
  refine wpAnyH_take (i := 8) (v := ?_) rfl (by kernel_rfl) (by kernel_rfl) (by kernel_rfl) (fun _ _ _ h => h) (Yields.yieldsIf (Or.inl ⟨by rfl, ?_⟩)) hHeld ?_
  rotate_left
  · intro W
    go_simp
    try with_reducible rfl
  simp only [List.getElem_toArray, List.getElem_cons_succ, List.getElem_cons_zero, Act.put, List.setIfInBounds_toArray, List.set_cons_zero, List.set_cons_succ]
  refine wpAnyH_take (i := 9) (v := ?_) rfl (by kernel_rfl) (by kernel_rfl) (by kernel_rfl) (fun _ _ _ h => h) (Yields.yieldsIf (Or.inl ⟨by rfl, ?_⟩)) hHeld ?_
  rotate_left
  · intro W
    go_simp
    try with_reducible rfl
  simp only [List.getElem_toArray, List.getElem_cons_succ, List.getElem_cons_zero, Act.put, List.setIfInBounds_toArray, List.set_cons_zero, List.set_cons_succ]
  refine wpAnyH_take (i := 10) (v := ?_) rfl (by kernel_rfl) (by kernel_rfl) (by kernel_rfl) (fun _ _ _ h => h) (Or.inl ⟨by rfl, ?_⟩) hHeld ?_
  rotate_left
  · intro W hW
    have hcl := cell_ext (h := hW) (at_cell HP.out 2)
    go_simp
    try with_reducible rfl
  simp only [List.getElem_toArray, List.getElem_cons_succ, List.getElem_cons_zero, Act.put, List.setIfInBounds_toArray, List.set_cons_zero, List.set_cons_succ]
  refine wpAnyH_take (i := 11) (v := ?_) rfl (by kernel_rfl) (by kernel_rfl) (by kernel_rfl) (fun _ _ _ h => h) (Yields.yieldsIf (Or.inl ⟨by rfl, ?_⟩)) hHeld ?_
  rotate_left
  · intro W
    go_simp
    try with_reducible rfl
  simp only [List.getElem_toArray, List.getElem_cons_succ, List.getElem_cons_zero, Act.put, List.setIfInBounds_toArray, List.set_cons_zero, List.set_cons_succ]
  refine wpAnyH_take (i := 12) (v := ?_) rfl (by kernel_rfl) (by kernel_rfl) (by kernel_rfl) (fun _ _ _ h => h) (Or.inl ⟨by rfl, ?_⟩) hHeld ?_
  rotate_left
  · intro W hW
    have hcl := cell_ext (h := hW) hc0
    go_simp
    try with_reducible rfl
  simp only [List.getElem_toArray, List.getElem_cons_succ, List.getElem_cons_zero, Act.put, List.setIfInBounds_toArray, List.set_cons_zero, List.set_cons_succ]
  refine wpAnyH_take (i := 13) (v := ?_) rfl (by kernel_rfl) (by kernel_rfl) (by kernel_rfl) (fun _ _ _ h => h) (Yields.yieldsIf (Or.inl ⟨by rfl, ?_⟩)) hHeld ?_
  rotate_left
  · intro W
    go_simp
    try with_reducible rfl
  simp only [List.getElem_toArray, List.getElem_cons_succ, List.getElem_cons_zero, Act.put, List.setIfInBounds_toArray, List.set_cons_zero, List.set_cons_succ]
  refine wpAnyH_take (i := 14) (v := ?_) rfl (by kernel_rfl) (by kernel_rfl) (by kernel_rfl) (fun _ _ _ h => h) (Yields.yieldsIf (Or.inl ⟨by rfl, ?_⟩)) hHeld ?_
  rotate_left
  · intro W
    go_simp
    try with_reducible rfl
  simp only [List.getElem_toArray, List.getElem_cons_succ, List.getElem_cons_zero, Act.put, List.setIfInBounds_toArray, List.set_cons_zero, List.set_cons_succ]
  refine wpAnyH_take (i := 15) (v := ?_) rfl (by kernel_rfl) (by kernel_rfl) (by kernel_rfl) (fun _ _ _ h => h) (Yields.yieldsIf (Or.inl ⟨by rfl, ?_⟩)) hHeld ?_
  rotate_left
  · intro W
    go_simp
    try with_reducible rfl
  simp only [List.getElem_toArray, List.getElem_cons_succ, List.getElem_cons_zero, Act.put, List.setIfInBounds_toArray, List.set_cons_zero, List.set_cons_succ]
  refine wpAnyH_done (by kernel_rfl) ?_ _
  clear hHeld
  obtain ⟨x, rfl⟩ : ∃ x : Nat, X = x := ⟨X.toNat, by omega⟩
  obtain ⟨wd, hwd⟩ : ∃ wd, wb.drew = wd := ⟨_, rfl⟩
  have XD : Hid (Ext w wd) := by unfold Hid; rw [← hwd]; exact Ext.trans_ HW.out inferInstance
  have HPD : Hid (wd.heap[w.heap.size]? = some (.cells #[.int .i64 code, .int .i64 id, .slice (some ad) n c] 24 (0, 0))) := by unfold Hid; rw [← hwd]; exact HP.out
  have hcd : wd.cell? ad = some (.int .u8 x) := by rw [← hwd]; exact hc0
  have HXD : Hid (Cells wd (some ad) (nums .u8 ((x : Int) :: ys))) := HX.out.ext (h := XD.out)
  rw [hwd]
  clear hwd p0 p1 p2 hc0
  have p2 : wd.cell? ⟨w.heap.size, 2, none⟩ = some (.slice (some ad) n c) := at_cell HPD.out 2
  have HPR : Hid (prtF ((x : Int) :: ys) = some (ys.take x, ys.drop x)) := by
    unfold Hid
    have h : prtF ((x : Int) :: ys) = some (ys.take (x : Int).toNat, ys.drop (x : Int).toNat) := if_neg hlt
    rw [h, Int.toNat_natCast]
  have hxy : x ≤ ys.length := by omega
  clear hlt
  by_cases hz : x = 0
  · have HF : Hid (rdF code id ((x : Int) :: ys) = (([], []), 4)) := HG.out _ (by unfold ptsF; rw [HPR.out]; simp only; rw [if_pos (by rw [hz]; rfl)])
    have hzb : ((x : Int) == 0) = true := by simpa using hz
    clear hz
    go_wp2
    go_ret3
    exact parts_no HF.out XD.out.out
  have hzb : ((x : Int) == 0) = false := by simpa using hz
  have HPN : Hid (ys.take x ≠ []) := fun h => by
    have h2 := congrArg List.length h
    rw [List.length_take, List.length_nil] at h2
    omega
  clear hz
  have hw : IntKind.i64.wrap (1 + (x : Int)) = 1 + (x : Int) := by rw [IntKind.wrap_i64]; omega
  have b1 : ¬ (c : Int) < 1 + (x : Int) := by omega
  have b2 : 1 + (x : Int) ≤ (n : Int) := by omega
  have b3 : 1 + (x : Int) ≤ (c : Int) := by omega
  have b4 : 0 ≤ 1 + (x : Int) := by omega
  have b5 : 1 ≤ 1 + (x : Int) := by omega
  have ht : (1 + (x : Int)).toNat = 1 + x := by omega
  have hd1 := Cells.drop (size := 1) (n := n) (c := c) HXD.out (by rw [nums_length, Hn.out, Nat.mul_one]) hnc 1 (by omega)
  have hd2 := Cells.drop (size := 1) (n := n) (c := c) HXD.out (by rw [nums_length, Hn.out, Nat.mul_one]) hnc (1 + x) (by omega)
  rw [Nat.mul_one, ← nums_drop, Nat.add_comm 1 x, List.drop_succ_cons, Option.map_some, Nat.add_comm x 1] at hd2
  rw [Nat.mul_one, ← nums_drop, List.drop_succ_cons, List.drop_zero, Option.map_some] at hd1
  have e1 : ad.add 1 = ⟨ad.block, ad.off + 1, none⟩ := by unfold Addr.add; rw [if_neg (by decide)]
  rw [e1] at hd1
  obtain ⟨A1, hA1⟩ : ∃ A1, (if c = 1 then some ad else some (⟨ad.block, ad.off + 1, none⟩ : Addr)) = A1 := ⟨_, rfl⟩
  obtain ⟨A2, hA2⟩ : ∃ A2, (if c = 1 + x then some ad else some (ad.add (1 + x))) = A2 := ⟨_, rfl⟩
  rw [hA1] at hd1
  rw [hA2] at hd2
  have HC1 : Hid (Cells wd A1 (nums .u8 (ys.take x))) := by unfold Hid; rw [nums_take]; exact hd1.take x
  have k2 : (convert 22 9 (.slice A2 (n - (1 + x)) (c - (1 + x)))).run Try.prog wd = .ok (.string (strOfNums (ys.drop x))) wd :=
    conv_cells (P := Try.prog) (c := c - (1 + x)) 22 5 9 Try.underlying22 Try.underlying5 Try.underlying9 (by rw [List.length_drop]; omega) hd2
  have HRB : Hid (Byt (ys.drop x)) := fun y hy => HB.out y (List.mem_cons_of_mem _ (List.mem_of_mem_drop hy))
  have HNS : Hid ((strOfNums (ys.drop x)).size ≤ 140737488355328) := by unfold Hid; rw [← strB_len, strB_str _ HRB.out, List.length_drop]; omega
  have HTL : Hid ((ys.take x).length = x) := by unfold Hid; rw [List.length_take]; omega
  clear hd1 hd2 e1 hl
  go_wp2_with fail
  refine (rname_any (strOfNums (ys.drop x)) HNS.out _).mono ?_
  rintro e w1 ⟨rfl, rfl⟩
  rcases hnm : nameF (ys.drop x) with _ | _
  · have HF : Hid (rdF code id ((x : Int) :: ys) = (([], []), 60)) := HG.out _ (by unfold ptsF; rw [HPR.out]; simp only; rw [if_neg HPN.out, if_pos hnm])
    rw [strB_str _ HRB.out, hnm]
    clear hnm
    go_wp2
    go_ret3
    exact parts_no HF.out XD.out.out
  have HF : Hid (rdF code id ((x : Int) :: ys) = ((ys.take x, ys.drop x), 0)) := HG.out _ (by unfold ptsF; rw [HPR.out]; simp only; rw [if_neg HPN.out, if_neg (by simp [hnm])])
  rw [strB_str _ HRB.out, hnm]
  clear hnm k2
  go_wp2_with
    (at_builtin
     refine wp_append_cells (w0 := wd) wd.heap.size rfl (.tmp 58) (.tmp 63) 22 5 (.int .u8 0) 1 1 rfl Try.underlying22 info_u8 rfl (by decide) (by decide) (.slice none 0 0) 0 [] A1 x (c - 1) (nums .u8 (ys.take x)) rfl rfl (by rw [nums_length, HTL.out, Nat.mul_one]) (nums_one _ _) (own_nil _ _ _ _) HC1.out (Below.refl _ _) (Nat.le_refl _) (by omega) ?_
     intro v3 w3 ho3 hb3 hg3 hat3
     obtain ⟨A3, c3, rfl, hc3⟩ := own_slice ho3
     have HO3 := Lib.hid ho3
     have X3 : Hid (Ext wd w3) := ⟨hb3⟩
     clear ho3 hb3 hg3 hat3)
  go_ret3
  rw [HF.out]
  refine ⟨A3, c3, ?_, ?_, (Ext.trans_ XD.out X3.out).out⟩
  · simp only [HTL.out]
    rfl
  · have h := HO3.out
    simp only [List.nil_append, Nat.zero_add] at h
    simp only [HTL.out]
    exact own_weaken h XD.out.out.size
end Go.Proofs.Ytobddmpiljknpaa

namespace Go.Proofs.Ytobddmpiljknpaa
open Go.RowKit
set_option linter.unusedVariables false
set_option linter.unusedSimpArgs false

set_option maxRecDepth 100000 in
set_option maxHeartbeats 4000000 in
theorem rgt_any (id : Int) (s : ByteArray) (A : Option Addr) (n c : Nat) (xs : List Int) (hn : xs.length = n) (hsn : s.size + n ≤ 70368744177664) (hb : Byt xs) (w : World) (hx : Cells w A (nums .u8 xs)) :
    Calls Try.prog 68 #[.int .i64 id, .string s, .slice A n c] w fun e w' => ∃ A' c', e = .returned (.slice A' 16 c') ∧ w'.ownsRow w.heap.size 5 1 (.slice A' 16 c') 16 (nums .u8 (respD id s xs)) ∧ Below w.heap.size w w' := by
  go_enter Try.func68, Try.ntmps68
  go_wp2_with fail
  refine (rresp4_any id s A n c xs hn hsn hb _ hx).mono ?_
  rintro e w4 ⟨rfl, hb4⟩
  have S4 : Step w4 w := ⟨hb4⟩
  have hl := respD_len id s xs
  obtain ⟨ds, hds⟩ : ∃ ds, respD id s xs = ds := ⟨_, rfl⟩
  rw [hds] at hl
  have HDS := Lib.hid hds
  have HI16 : Hid ((Try.prog.info? 47).map (·.size) = some (nums .u8 ds).toArray.size) := by
    unfold Hid
    rw [List.size_toArray, nums_length, hl]
    kernel_rfl
  have HZ16 : Hid ((nums .u8 (List.replicate 16 0)).toArray.size = (nums .u8 ds).toArray.size) := by
    unfold Hid
    rw [List.size_toArray, List.size_toArray, nums_length, nums_length, hl]
    rfl
  have HL := Lib.hid hl
  have pn : ∀ o, (w4.alloc o).heap[w4.heap.size]? = some o := at_new w4
  rw [HDS.out]
  clear hb4 hl hds hn hsn hb hx
  go_upto_region 3 with
    (refine wpList_store_row_o rfl 47 (.tmp 7) (.tmp 15) rfl w4.heap.size (nums .u8 ds).toArray rfl rfl 47 (nums .u8 (List.replicate 16 0)).toArray (pn _) HI16.out HZ16.out (one_all _ _) ?_
     intro w5 hr5 ho5 hz5 hb5
     have HR5 := Lib.hid hr5
     have X45 : Hid (Ext w4 w5) := ⟨hb5 _ _ (inferInstance : Ext w4 (w4.alloc _)).out (Nat.le_refl _)⟩
     clear hr5 ho5 hz5 hb5 pn)
  have X5 : Hid (Ext w w5) := Ext.trans_ (inferInstance : Ext w w4) X45.out
  go_wp2_with
    (at_builtin
     refine wp_append_cells (w0 := w5) w5.heap.size rfl (.tmp 17) (.tmp 18) 22 5 (.int .u8 0) 1 1 rfl Try.underlying22 info_u8 rfl (by decide) (by decide) (.slice none 0 0) 0 [] (some ⟨w4.heap.size, 0, none⟩) 16 16 (nums .u8 ds) rfl rfl (by rw [nums_length, HL.out]) (nums_one _ _) (own_nil _ _ _ _) (cells_row HR5.out) (Below.refl _ _) (Nat.le_refl _) (by omega) ?_
     intro v3 w3 ho3 hb3 hg3 hat3
     obtain ⟨A3, c3, rfl, hc3⟩ := own_slice ho3
     have HO3 := Lib.hid ho3
     have X3 : Hid (Ext w5 w3) := ⟨hb3⟩
     clear ho3 hb3 hg3 hat3)
  go_ret
  refine ⟨A3, c3, rfl, ?_, (Ext.trans_ X5.out X3.out).out⟩
  have h := HO3.out
  simp only [List.nil_append, Nat.zero_add] at h
  rw [HDS.out]
  exact own_weaken h X5.out.out.size
set_option maxRecDepth 100000 in
set_option maxHeartbeats 8000000 in
theorem ranswer_any (code id : Int) (A : Option Addr) (n c : Nat) (xs : List Int) (nm rm : ByteArray) (LA : Option Addr) (ln lc : Nat) (us : List SV) (hn : xs.length = n) (hn' : n ≤ 140737488355200) (hnc : n ≤ c) (hb : Byt xs) (hnm : nm.size ≤ 140737488355328) (hln : us.length = ln) (hln' : ln ≤ 17592186044416) (w : World) (hx : Cells w A (nums .u8 xs)) (hs : SecsAt w LA us) :
    Calls Try.prog 26 #[.agg #[.int .i64 code, .int .i64 id, .slice A n c], .string nm, .string rm, .slice LA ln lc] w (ReplyTells (anF code id xs nm rm us) w) := by
  have Hn := Lib.hid hn
  have HX := Lib.hid hx
  have HB := Lib.hid hb
  have HLN := Lib.hid hln
  have HS := Lib.hid hs
  clear hn hx hb hln hs
  go_enter Try.func26, Try.ntmps26
  go_upto_region 1 with fail
  obtain ⟨wb, hwb⟩ : ∃ wb, (w.alloc (.cells #[.int .i64 code, .int .i64 id, .slice A n c] 24)).alloc zPk = wb := ⟨_, rfl⟩
  have HP : Hid (wb.heap[w.heap.size]? = some (.cells #[.int .i64 code, .int .i64 id, .slice A n c] 24 (0, 0))) := by unfold Hid; rw [← hwb]; exact at_ext (at_new w _)
  have HZ : Hid (wb.heap[w.heap.size + 1]? = some zPk) := by unfold Hid; rw [← hwb]; exact at_new1 (by simp)
  have HW : Hid (Ext w wb) := by unfold Hid; rw [← hwb]; exact inferInstance
  have HLB : Hid (w.heap.size + 1 < wb.heap.size) := at_lt HZ.out
  have Sb : Step wb w := ⟨HW.out.out⟩
  rw [hwb]
  clear hwb
  have p0 : wb.cell? ⟨w.heap.size, 0, none⟩ = some (.int .i64 code) := at_cell HP.out 0
  have p1 : wb.cell? ⟨w.heap.size, 1, none⟩ = some (.int .i64 id) := at_cell HP.out 1
  have p2 : wb.cell? ⟨w.heap.size, 2, none⟩ = some (.slice A n c) := at_cell HP.out 2
  by_cases c1 : code = 1
  case neg =>
    have HF : Hid (anF code id xs nm rm us = ((0, 0), [], 90)) := if_pos c1
    have c1' : (code != 1) = true := by simpa using c1
    clear c1
    go_wp2_with
      (refine wpList_store_row rfl 24 (.tmp 8) (.tmp 18) rfl (w.heap.size + 1) #[.int .i64 0, .int .i64 0, .slice none 0 0] rfl rfl 24 #[.int .i64 0, .int .i64 0, .slice none 0 0] HZ.out (by kernel_rfl) rfl (by simp [Value.oneCell']) ?_)
    refine bodyPost_ret (results_cell_row2 Try.results26 _ _ (w.heap.size + 1) 24 #[.int .i64 0, .int .i64 0, .slice none 0 0] (0, 0) _ (.int .i64 90) rfl rfl (setRow_heap _ _ _ _ _ _ HZ.out) Try.underlying24 rfl (by kernel_rfl)) rfl ?_
    rw [HF.out]
    exact ⟨none, 0, rfl, own_nil _ _ _ _, (Ext.setRow_ HW.out (by omega) _).out⟩
  subst c1
  obtain ⟨⟨⟨p, r⟩, e0⟩, hr⟩ : ∃ F, rdF 1 id xs = F := ⟨_, rfl⟩
  have HR := Lib.hid hr
  have HPR := Lib.hid (rdF_all HB.out hr)
  clear hr
  go_wp2_with fail
  refine (rread_any 1 id A n c xs Hn.out hn' hnc HB.out _ (by exact HX.out.ext)).mono ?_
  rintro e w1 ⟨A1, k1, rfl, ho1, hb1⟩
  rw [HR.out] at ho1 ⊢
  simp only at ho1 ⊢
  have S1 : Step w1 wb := ⟨hb1⟩
  have HO1 := Lib.hid ho1
  have X1 : Hid (Ext w w1) := (inferInstance : Ext w w1)
  have HZ1 : Hid (w1.heap[w.heap.size + 1]? = some zPk) := at_ext HZ.out
  obtain ⟨sd, hsd⟩ : ∃ sd, strOfNums r = sd := ⟨_, rfl⟩
  simp only [hsd]
  have HSD := Lib.hid hsd
  clear ho1 hb1 p0 p1 p2 hsd
  by_cases z0 : e0 = 0
  case neg =>
    have HF : Hid (anF 1 id xs nm rm us = ((0, 0), [], e0)) := by unfold Hid anF; rw [if_neg (by simp), HR.out, if_pos z0]
    have z0' : (e0 != 0) = true := by simpa using z0
    clear z0
    go_wp2_with
      (refine wpList_store_row rfl 24 (.tmp 8) (.tmp 27) rfl (w.heap.size + 1) #[.int .i64 0, .int .i64 0, .slice none 0 0] rfl rfl 24 #[.int .i64 0, .int .i64 0, .slice none 0 0] HZ1.out (by kernel_rfl) rfl (by simp [Value.oneCell']) ?_)
    refine bodyPost_ret (results_cell_row2 Try.results26 _ _ (w.heap.size + 1) 24 #[.int .i64 0, .int .i64 0, .slice none 0 0] (0, 0) _ (.int .i64 e0) rfl rfl (setRow_heap _ _ _ _ _ _ HZ1.out) Try.underlying24 rfl (by kernel_rfl)) rfl ?_
    rw [HF.out]
    exact ⟨none, 0, rfl, own_nil _ _ _ _, (Ext.setRow_ X1.out (by omega) _).out⟩
  subst z0
  go_wp2_with fail
  refine (rname_any nm hnm _).mono ?_
  rintro e w2 ⟨rfl, rfl⟩
  rcases hnn : nameF (strB nm) with _ | _
  · have HF : Hid (anF 1 id xs nm rm us = ((0, 0), [], 60)) := by unfold Hid anF; rw [if_neg (by simp), HR.out, if_neg (by simp), if_pos hnn]
    clear hnn
    go_wp2_with
      (refine wpList_store_row rfl 24 (.tmp 8) (.tmp 32) rfl (w.heap.size + 1) #[.int .i64 0, .int .i64 0, .slice none 0 0] rfl rfl 24 #[.int .i64 0, .int .i64 0, .slice none 0 0] HZ1.out (by kernel_rfl) rfl (by simp [Value.oneCell']) ?_)
    refine bodyPost_ret (results_cell_row2 Try.results26 _ _ (w.heap.size + 1) 24 #[.int .i64 0, .int .i64 0, .slice none 0 0] (0, 0) _ (.int .i64 60) rfl rfl (setRow_heap _ _ _ _ _ _ HZ1.out) Try.underlying24 rfl (by kernel_rfl)) rfl ?_
    rw [HF.out]
    exact ⟨none, 0, rfl, own_nil _ _ _ _, (Ext.setRow_ X1.out (by omega) _).out⟩
  have HFN : Hid (∀ R, (if strB (secW (strB nm) (strB (rmF sd rm)) us) = [] then ((0, 0), [], 5)
      else mkF 2 id (respD id (secW (strB nm) (strB (rmF sd rm)) us) p) (strB nm)) = R → anF 1 id xs nm rm us = R) := by
    intro R h
    unfold anF
    rw [if_neg (by simp), HR.out, if_neg (by simp), if_neg (by simp [hnn])]
    simp only [HSD.out]
    exact h
  clear hnn
  obtain ⟨rB, hrB⟩ : ∃ rB, rmF sd rm = rB := ⟨_, rfl⟩
  have HRM := Lib.hid hrB
  rw [hrB] at HFN
  clear hrB
  go_upto_if 34 with fail
  obtain ⟨z1, hz1⟩ : ∃ z1, rm.toList.isEmpty = z1 := ⟨_, rfl⟩
  rw [hz1]
  have HZ1' := Lib.hid hz1
  clear hz1
  go_cut [11] (fun s wx => s = .string rB ∧ w1 = wx)
  case first =>
    cases z1
    · have HV : Hid (rB = rm) := by
        unfold Hid
        rw [← HRM.out]
        refine if_neg (fun h => ?_)
        have h2 : rm.toList = [] := by unfold strB at h; rw [Lib.toList_data]; exact List.map_eq_nil_iff.1 h
        have h3 := HZ1'.out
        rw [h2] at h3
        cases h3
      go_wp2_with fail
      go_meet
      case rel => exact ⟨by rw [HV.out], rfl⟩
    · have HV : Hid (rB = sd) := by
        unfold Hid
        rw [← HRM.out]
        have h2 : rm.toList = [] := List.isEmpty_iff.1 HZ1'.out
        exact if_pos (by unfold strB; rw [← Lib.toList_data, h2]; rfl)
      go_wp2_with fail
      go_meet
      case rel => exact ⟨by rw [HV.out], rfl⟩
  case' rest =>
    obtain ⟨rfl, rfl⟩ := hcut
  go_wp2_with fail
  refine (rfind_any LA ln lc us nm rB HLN.out hln' _ (by exact HS.out.ext)).mono ?_
  rintro e w3 ⟨hb3, he⟩
  have S3 : Step w3 w1 := ⟨hb3⟩
  have X3 : Hid (Ext w w3) := (inferInstance : Ext w w3)
  have HZ3 : Hid (w3.heap[w.heap.size + 1]? = some zPk) := at_ext HZ1.out
  have HP3 : Hid (w3.heap[w.heap.size]? = some (.cells #[.int .i64 1, .int .i64 id, .slice A n c] 24 (0, 0))) := at_ext HP.out
  have HO3 := Lib.hid (own_ext (w' := w3) HO1.out)
  have HWS : Hid ((secW (strB nm) (strB rB) us).size ≤ 64) := secW_size
  clear hb3
  rcases hq : findF (strB nm) (strB rB) us with _ | u
  · have HF : Hid (anF 1 id xs nm rm us = ((0, 0), [], 5)) := HFN.out _ (if_pos (by unfold secW; rw [hq]; rfl))
    rw [hq] at he
    simp only at he
    subst he
    clear hq
    have pn : ∀ o, (w3.alloc o).heap[w3.heap.size]? = some o := at_new w3
    go_upto_region 11 with
      (refine wpList_store_row_o rfl 44 (.tmp 13) (.tmp 41) rfl w3.heap.size zSec rfl rfl 44 zSec (pn _) (by kernel_rfl) rfl (by simp [Value.oneCell']) ?_
       intro w4 hr4 ho4 hz4 hb4
       have HR4 := Lib.hid hr4
       have X34 : Hid (Ext w3 w4) := ⟨hb4 _ _ (inferInstance : Ext w3 (w3.alloc _)).out (Nat.le_refl _)⟩
       have k2 : w4.cell? ⟨w3.heap.size, 2, none⟩ = some (.string ⟨#[]⟩) := at_cell hr4 2
       clear hr4 ho4 hz4 hb4 pn)
    have X4 : Hid (Ext w w4) := Ext.trans_ X3.out X34.out
    have HZ4 : Hid (w4.heap[w.heap.size + 1]? = some zPk) := at_ext (h := X34.out) HZ3.out
    go_wp2_with
      (refine wpList_store_row rfl 24 (.tmp 8) (.tmp 50) rfl (w.heap.size + 1) #[.int .i64 0, .int .i64 0, .slice none 0 0] rfl rfl 24 #[.int .i64 0, .int .i64 0, .slice none 0 0] HZ4.out (by kernel_rfl) rfl (by simp [Value.oneCell']) ?_)
    refine bodyPost_ret (results_cell_row2 Try.results26 _ _ (w.heap.size + 1) 24 #[.int .i64 0, .int .i64 0, .slice none 0 0] (0, 0) _ (.int .i64 5) rfl rfl (setRow_heap _ _ _ _ _ _ HZ4.out) Try.underlying24 rfl (by kernel_rfl)) rfl ?_
    rw [HF.out]
    exact ⟨none, 0, rfl, own_nil _ _ _ _, (Ext.setRow_ X4.out (by omega) _).out⟩
  obtain ⟨uc, uss, wd, uA, un, uk, ux⟩ := u
  have hwd : secW (strB nm) (strB rB) us = wd := by unfold secW; rw [hq]
  rw [hwd] at HFN HWS
  rw [hq] at he
  simp only [SV.val] at he
  subst he
  clear hq hwd
  have pn : ∀ o, (w3.alloc o).heap[w3.heap.size]? = some o := at_new w3
  go_upto_region 11 with
    (refine wpList_store_row_o rfl 44 (.tmp 13) (.tmp 41) rfl w3.heap.size #[.string uc, .string uss, .string wd, .slice uA un uk] rfl rfl 44 zSec (pn _) (by kernel_rfl) rfl (by simp [Value.oneCell']) ?_
     intro w4 hr4 ho4 hz4 hb4
     have HR4 := Lib.hid hr4
     have X34 : Hid (Ext w3 w4) := ⟨hb4 _ _ (inferInstance : Ext w3 (w3.alloc _)).out (Nat.le_refl _)⟩
     have k2 : w4.cell? ⟨w3.heap.size, 2, none⟩ = some (.string wd) := at_cell hr4 2
     clear hr4 ho4 hz4 hb4 pn)
  have X4 : Hid (Ext w w4) := Ext.trans_ X3.out X34.out
  have HZ4 : Hid (w4.heap[w.heap.size + 1]? = some zPk) := at_ext (h := X34.out) HZ3.out
  by_cases e2 : wd.toList = []
  · have HF : Hid (anF 1 id xs nm rm us = ((0, 0), [], 5)) := HFN.out _ (if_pos (by unfold strB; rw [← Lib.toList_data, e2]; rfl))
    go_wp2_with
      (refine wpList_store_row rfl 24 (.tmp 8) (.tmp 50) rfl (w.heap.size + 1) #[.int .i64 0, .int .i64 0, .slice none 0 0] rfl rfl 24 #[.int .i64 0, .int .i64 0, .slice none 0 0] HZ4.out (by kernel_rfl) rfl (by simp [Value.oneCell']) ?_)
    refine bodyPost_ret (results_cell_row2 Try.results26 _ _ (w.heap.size + 1) 24 #[.int .i64 0, .int .i64 0, .slice none 0 0] (0, 0) _ (.int .i64 5) rfl rfl (setRow_heap _ _ _ _ _ _ HZ4.out) Try.underlying24 rfl (by kernel_rfl)) rfl ?_
    rw [HF.out]
    exact ⟨none, 0, rfl, own_nil _ _ _ _, (Ext.setRow_ X4.out (by omega) _).out⟩
  have e2b : (wd.toList == []) = false := by simpa using e2
  have e2c : wd.toList.isEmpty = false := by rw [List.isEmpty_eq_false_iff]; exact e2
  have HF : Hid (anF 1 id xs nm rm us = mkF 2 id (respD id wd p) (strB nm)) := HFN.out _ (if_neg (fun h => e2 (by unfold strB at h; rw [Lib.toList_data]; exact List.map_eq_nil_iff.1 h)))
  clear HFN e2
  have HP4 : Hid (w4.heap[w.heap.size]? = some (.cells #[.int .i64 1, .int .i64 id, .slice A n c] 24 (0, 0))) := at_ext (h := X34.out) HP3.out
  have HO4 := Lib.hid (own_ext (h := X34.out) HO3.out)
  have HDL := Lib.hid (respD_len id wd p)
  obtain ⟨⟨⟨ra, rb⟩, rd, re⟩, hmk⟩ : ∃ F, mkF 2 id (respD id wd p) (strB nm) = F := ⟨_, rfl⟩
  have HMK := Lib.hid hmk
  rw [hmk] at HF
  clear hmk
  go_upto_region 13 with fail
  clear k2
  refine wp_region_held_drew (S := fun W => W.heap[w.heap.size]? = some (.cells #[.int .i64 1, .int .i64 id, .slice A n c] 24 (0, 0)) ∧ W.heap[w3.heap.size]? = some (.cells #[.string uc, .string uss, .string wd, .slice uA un uk] 44 (0, 0))) (by kernel_rfl) ⟨HP4.out, HR4.out⟩ (fun hHeld => ?_)
  refine wpAnyH_take (i := 0) (v := ?_) rfl (by kernel_rfl) (by kernel_rfl) (by kernel_rfl) (fun _ _ _ h => h) (Yields.yieldsIf (Or.inl ⟨by rfl, ?_⟩)) hHeld ?_
  rotate_left
  · intro W
    go_simp
    try with_reducible rfl
  simp only [List.getElem_toArray, List.getElem_cons_succ, List.getElem_cons_zero, Act.put, List.setIfInBounds_toArray, List.set_cons_zero, List.set_cons_succ]
  refine wpAnyH_take (i := 1) (v := ?_) rfl (by kernel_rfl) (by kernel_rfl) (by kernel_rfl) (fun _ _ _ h => h) (Or.inl ⟨by rfl, ?_⟩) hHeld ?_
  rotate_left
  · intro W hW
    have hcl := (at_cell hW.1 1)
    go_simp
    try with_reducible rfl
  simp only [List.getElem_toArray, List.getElem_cons_succ, List.getElem_cons_zero, Act.put, List.setIfInBounds_toArray, List.set_cons_zero, List.set_cons_succ]
  refine wpAnyH_take (i := 2) (v := ?_) rfl (by kernel_rfl) (by kernel_rfl) (by kernel_rfl) (fun _ _ _ h => h) (Yields.yieldsIf (Or.inl ⟨by rfl, ?_⟩)) hHeld ?_
  rotate_left
  · intro W
    go_simp
    try with_reducible rfl
  simp only [List.getElem_toArray, List.getElem_cons_succ, List.getElem_cons_zero, Act.put, List.setIfInBounds_toArray, List.set_cons_zero, List.set_cons_succ]
  refine wpAnyH_take (i := 3) (v := ?_) rfl (by kernel_rfl) (by kernel_rfl) (by kernel_rfl) (fun _ _ _ h => h) (Or.inl ⟨by rfl, ?_⟩) hHeld ?_
  rotate_left
  · intro W hW
    have hcl := (at_cell hW.1 1)
    go_simp
    try with_reducible rfl
  simp only [List.getElem_toArray, List.getElem_cons_succ, List.getElem_cons_zero, Act.put, List.setIfInBounds_toArray, List.set_cons_zero, List.set_cons_succ]
  refine wpAnyH_take (i := 4) (v := ?_) rfl (by kernel_rfl) (by kernel_rfl) (by kernel_rfl) (fun _ _ _ h => h) (Yields.yieldsIf (Or.inl ⟨by rfl, ?_⟩)) hHeld ?_
  rotate_left
  · intro W
    go_simp
    try with_reducible rfl
  simp only [List.getElem_toArray, List.getElem_cons_succ, List.getElem_cons_zero, Act.put, List.setIfInBounds_toArray, List.set_cons_zero, List.set_cons_succ]
  refine wpAnyH_take (i := 5) (v := ?_) rfl (by kernel_rfl) (by kernel_rfl) (by kernel_rfl) (fun _ _ _ h => h) (Or.inl ⟨by rfl, ?_⟩) hHeld ?_
  rotate_left
  · intro W hW
    have hcl := (at_cell hW.2 2)
    go_simp
    try with_reducible rfl
  simp only [List.getElem_toArray, List.getElem_cons_succ, List.getElem_cons_zero, Act.put, List.setIfInBounds_toArray, List.set_cons_zero, List.set_cons_succ]
  refine wpAnyH_take (i := 6) (v := ?_) rfl (by kernel_rfl) (by kernel_rfl) (by kernel_rfl) (fun _ _ _ h => h) (Yields.yieldsIf (Or.inl ⟨by rfl, ?_⟩)) hHeld ?_
  rotate_left
  · intro W
    go_simp
    try with_reducible rfl
  simp only [List.getElem_toArray, List.getElem_cons_succ, List.getElem_cons_zero, Act.put, List.setIfInBounds_toArray, List.set_cons_zero, List.set_cons_succ]
  refine wpAnyH_take (i := 8) (v := ?_) rfl (by kernel_rfl) (by kernel_rfl) (by kernel_rfl) (fun _ _ _ h => h) (Yields.yieldsIf (Or.inl ⟨by rfl, ?_⟩)) hHeld ?_
  rotate_left
  · intro W
    go_simp
    try with_reducible rfl
  simp only [List.getElem_toArray, List.getElem_cons_succ, List.getElem_cons_zero, Act.put, List.setIfInBounds_toArray, List.set_cons_zero, List.set_cons_succ]
  refine wpAnyH_ready (rs := [7]) (by kernel_rfl) (by simp) ?_
  refine AllReadyH.cons rfl (fun K hK => ?_) AllReadyH.nil
  refine step_call_w (by rfl) Try.func68 (by kernel_rfl) (by kernel_rfl) #[.tmp 54, .tmp 56, .tmp 57] #[3, 9, 22] rfl #[.int .i64 id, .string wd, .slice A1 p.length k1] ?hv (rgt_any id wd A1 p.length k1 p rfl (by have h1 := HWS.out; have h2 := HPR.out.1.2; omega) HPR.out.1.1 _ (own_cells HO4.out).drew) ?_
  case hv => go_simp
  rintro e w5 ⟨A5, c5, rfl, ho5, hb5⟩
  refine ⟨_, rfl, ?_⟩
  have X45 : Hid (Ext w4 w5) := Ext.trans_ (inferInstance : Ext w4 w4.drew) ⟨hb5⟩
  have HC5 : Hid (Cells w5 A5 (nums .u8 (respD id wd p))) := own_cells ho5
  have HP5 : Hid (w5.heap[w.heap.size]? = some (.cells #[.int .i64 1, .int .i64 id, .slice A n c] 24 (0, 0))) := at_ext (h := X45.out) HP4.out
  have HR5 : Hid (w5.heap[w3.heap.size]? = some (.cells #[.string uc, .string uss, .string wd, .slice uA un uk] 44 (0, 0))) := at_ext (h := X45.out) HR4.out
  have HZ5 : Hid (w5.heap[w.heap.size + 1]? = some zPk) := at_ext (h := X45.out) HZ4.out
  clear hb5 ho5 hHeld
  refine hK.out _ _ ⟨HP5.out, HR5.out⟩ (fun hHeld => ?_)
  clear hK K
  simp only [List.getElem_toArray, List.getElem_cons_succ, List.getElem_cons_zero, Act.put, List.setIfInBounds_toArray, List.set_cons_zero, List.set_cons_succ]
  refine wpAnyH_ready (rs := [9]) (by kernel_rfl) (by simp) ?_
  refine AllReadyH.cons rfl (fun K hK => ?_) AllReadyH.nil
  refine step_call_w (by rfl) Try.func15 (by kernel_rfl) (by kernel_rfl) #[.const (.int .i64 2), .tmp 52, .tmp 58, .tmp 59] #[3, 3, 22, 9] rfl #[.int .i64 2, .int .i64 id, .slice A5 16 c5, .string nm] ?hv (rmake_any 2 id A5 16 c5 (respD id wd p) nm HDL.out hnm (by omega) _ HC5.out) ?_
  case hv => go_simp
  rintro e w6 ⟨A6, c6, rfl, ho6, hb6⟩
  refine ⟨_, rfl, ?_⟩
  rw [HMK.out] at ho6 ⊢
  simp only at ho6 ⊢
  have X56 : Hid (Ext w5 w6) := ⟨hb6⟩
  have HO6 := Lib.hid ho6
  have HP6 : Hid (w6.heap[w.heap.size]? = some (.cells #[.int .i64 1, .int .i64 id, .slice A n c] 24 (0, 0))) := at_ext (h := X56.out) HP5.out
  have HR6 : Hid (w6.heap[w3.heap.size]? = some (.cells #[.string uc, .string uss, .string wd, .slice uA un uk] 44 (0, 0))) := at_ext (h := X56.out) HR5.out
  have HZ6 : Hid (w6.heap[w.heap.size + 1]? = some zPk) := at_ext (h := X56.out) HZ5.out
  have HNE : Hid ((Value.slice A6 rd.length c6).ownBlock ≠ some (w.heap.size + 1)) := by
    intro e
    have h1 := own_base HO6.out _ e
    have h2 := at_lt HZ5.out
    omega
  have HL3 : Hid (w.heap.size + 1 < w3.heap.size) := at_lt HZ3.out
  clear hb6 ho6 hHeld
  refine hK.out _ _ ⟨HP6.out, HR6.out⟩ (fun hHeld => ?_)
  clear hK K
  simp only [List.getElem_toArray, List.getElem_cons_succ, List.getElem_cons_zero, Act.put, List.setIfInBounds_toArray, List.set_cons_zero, List.set_cons_succ]
  refine wpAnyH_take (i := 10) (v := ?_) rfl (by kernel_rfl) (by kernel_rfl) (by kernel_rfl) (fun _ _ _ h => h) (Yields.yieldsIf (Or.inl ⟨by rfl, ?_⟩)) hHeld ?_
  rotate_left
  · intro W
    go_simp
    try with_reducible rfl
  simp only [List.getElem_toArray, List.getElem_cons_succ, List.getElem_cons_zero, Act.put, List.setIfInBounds_toArray, List.set_cons_zero, List.set_cons_succ]
  refine wpAnyH_take (i := 11) (v := ?_) rfl (by kernel_rfl) (by kernel_rfl) (by kernel_rfl) (fun _ _ _ h => h) (Yields.yieldsIf (Or.inl ⟨by rfl, ?_⟩)) hHeld ?_
  rotate_left
  · intro W
    go_simp
    try with_reducible rfl
  simp only [List.getElem_toArray, List.getElem_cons_succ, List.getElem_cons_zero, Act.put, List.setIfInBounds_toArray, List.set_cons_zero, List.set_cons_succ]
  refine wpAnyH_ready (rs := [12]) (by kernel_rfl) (by simp) ?_
  refine AllReadyH.cons rfl (fun K hK => ?_) AllReadyH.nil
  refine step_store_row (by rfl) 24 (.tmp 8) (.tmp 61) rfl (w.heap.size + 1) #[.int .i64 ra, .int .i64 rb, .slice A6 rd.length c6] rfl rfl 24 #[.int .i64 0, .int .i64 0, .slice none 0 0] HZ6.out (by kernel_rfl) rfl (by simp [Value.oneCell']) ?_
  clear hHeld
  refine hK.out _ _ ⟨(setRow_other _ _ _ _ (by omega)).trans HP6.out, (setRow_other _ _ _ _ (by have := HL3.out; omega)).trans HR6.out⟩ (fun hHeld => ?_)
  clear hK K
  simp only [List.getElem_toArray, List.getElem_cons_succ, List.getElem_cons_zero, Act.put, List.setIfInBounds_toArray, List.set_cons_zero, List.set_cons_succ]
  refine wpAnyH_take (i := 13) (v := ?_) rfl (by kernel_rfl) (by kernel_rfl) (by kernel_rfl) (fun _ _ _ h => h) (Yields.yieldsIf (Or.inl ⟨by rfl, ?_⟩)) hHeld ?_
  rotate_left
  · intro W
    go_simp
    try with_reducible rfl
  simp only [List.getElem_toArray, List.getElem_cons_succ, List.getElem_cons_zero, Act.put, List.setIfInBounds_toArray, List.set_cons_zero, List.set_cons_succ]
  refine wpAnyH_done (by kernel_rfl) ?_ _
  clear hHeld
  go_wp2
  refine bodyPost_ret (results_cell_row2 Try.results26 _ _ (w.heap.size + 1) 24 #[.int .i64 ra, .int .i64 rb, .slice A6 rd.length c6] (0, 0) _ (.int .i64 re) rfl rfl (setRow_heap _ _ _ _ _ _ HZ6.out) Try.underlying24 rfl (by kernel_rfl)) rfl ?_
  rw [HF.out]
  have X6 : Hid (Ext w w6) := Ext.trans_ X4.out (Ext.trans_ X45.out X56.out)
  refine ⟨A6, c6, rfl, ?_, (Ext.setRow_ X6.out (by omega) _).out⟩
  exact own_weaken (own_setRow HO6.out HNE.out _) (Ext.trans_ X4.out X45.out).out.size
end Go.Proofs.Ytobddmpiljknpaa

namespace Go.Proofs.Ytobddmpiljknpaa
open Go.RowKit
set_option linter.unusedVariables false
set_option linter.unusedSimpArgs false

set_option maxRecDepth 100000 in
set_option maxHeartbeats 8000000 in
theorem rholds_any (c1 i1 : Int) (A1 : Option Addr) (n1 k1 : Nat) (xs1 : List Int) (c2 i2 : Int) (A2 : Option Addr) (n2 k2 : Nat) (xs2 : List Int) (nm : ByteArray) (LA : Option Addr) (ln lc : Nat) (us : List SV) (hn1 : xs1.length = n1) (hm1 : n1 ≤ 140737488355200) (hc1 : n1 ≤ k1) (hb1 : Byt xs1) (hn2 : xs2.length = n2) (hm2 : n2 ≤ 140737488355200) (hc2 : n2 ≤ k2) (hb2 : Byt xs2) (hln : us.length = ln) (hln' : ln ≤ 17592186044416) (w : World)
    (hx1 : Cells w A1 (nums .u8 xs1)) (hx2 : Cells w A2 (nums .u8 xs2)) (hs : SecsAt w LA us) :
    Calls Try.prog 28 #[.agg #[.int .i64 c1, .int .i64 i1, .slice A1 n1 k1], .agg #[.int .i64 c2, .int .i64 i2, .slice A2 n2 k2], .string nm, .slice LA ln lc] w fun e w' => e = .returned (.tuple #[.string (hoF c1 i1 xs1 c2 i2 xs2 nm us).1, .int .i64 (hoF c1 i1 xs1 c2 i2 xs2 nm us).2]) ∧ Below w.heap.size w w' := by
  have Hn1 := Lib.hid hn1
  have HX1 := Lib.hid hx1
  have HB1 := Lib.hid hb1
  have Hn2 := Lib.hid hn2
  have HX2 := Lib.hid hx2
  have HB2 := Lib.hid hb2
  have HLN := Lib.hid hln
  have HS := Lib.hid hs
  clear hn1 hx1 hb1 hn2 hx2 hb2 hln hs
  go_enter Try.func28, Try.ntmps28
  go_upto_region 1 with fail
  obtain ⟨wb, hwb⟩ : ∃ wb, (w.alloc (.cells #[.int .i64 c1, .int .i64 i1, .slice A1 n1 k1] 24)).alloc (.cells #[.int .i64 c2, .int .i64 i2, .slice A2 n2 k2] 24) = wb := ⟨_, rfl⟩
  have HP : Hid (wb.heap[w.heap.size]? = some (.cells #[.int .i64 c1, .int .i64 i1, .slice A1 n1 k1] 24 (0, 0))) := by unfold Hid; rw [← hwb]; exact at_ext (at_new w _)
  have HQ : Hid (wb.heap[w.heap.size + 1]? = some (.cells #[.int .i64 c2, .int .i64 i2, .slice A2 n2 k2] 24 (0, 0))) := by unfold Hid; rw [← hwb]; exact at_new1 (by simp)
  have Sb : Step wb w := ⟨by rw [← hwb]; exact Ext.out⟩
  rw [hwb]
  clear hwb
  have p0 : wb.cell? ⟨w.heap.size, 0, none⟩ = some (.int .i64 c1) := at_cell HP.out 0
  have p1 : wb.cell? ⟨w.heap.size, 1, none⟩ = some (.int .i64 i1) := at_cell HP.out 1
  have p2 : wb.cell? ⟨w.heap.size, 2, none⟩ = some (.slice A1 n1 k1) := at_cell HP.out 2
  have q0 : wb.cell? ⟨w.heap.size + 1, 0, none⟩ = some (.int .i64 c2) := at_cell HQ.out 0
  by_cases z1 : c1 = 1
  case neg =>
    have HF : Hid (hoF c1 i1 xs1 c2 i2 xs2 nm us = (⟨#[]⟩, 90)) := if_pos (.inl z1)
    have z1' : (c1 != 1) = true := by simpa using z1
    clear z1
    go_wp2_with fail
    go_ret2
    exact ⟨by rw [HF.out]; rfl, (inferInstance : Ext w wb).out⟩
  subst z1
  by_cases z2 : c2 = 2
  case neg =>
    have HF : Hid (hoF 1 i1 xs1 c2 i2 xs2 nm us = (⟨#[]⟩, 90)) := if_pos (.inr z2)
    have z2' : (c2 != 2) = true := by simpa using z2
    clear z2
    go_wp2_with fail
    go_ret2
    exact ⟨by rw [HF.out]; rfl, (inferInstance : Ext w wb).out⟩
  subst z2
  obtain ⟨⟨⟨p, r⟩, e1⟩, hr1⟩ : ∃ F, rdF 1 i1 xs1 = F := ⟨_, rfl⟩
  obtain ⟨⟨⟨p', r'⟩, e2⟩, hr2⟩ : ∃ F, rdF 2 i2 xs2 = F := ⟨_, rfl⟩
  have HR1 := Lib.hid hr1
  have HR2 := Lib.hid hr2
  have HA1 := Lib.hid (rdF_all HB1.out hr1)
  have HA2 := Lib.hid (rdF_all HB2.out hr2)
  clear hr1 hr2
  go_wp2_with fail
  refine (rread_any 1 i1 A1 n1 k1 xs1 Hn1.out hm1 hc1 HB1.out _ (by exact HX1.out.ext)).mono ?_
  rintro e w1 ⟨B1, m1, rfl, ho1, hb1⟩
  rw [HR1.out] at ho1 ⊢
  simp only at ho1 ⊢
  have S1 : Step w1 wb := ⟨hb1⟩
  have HO1 := Lib.hid ho1
  clear ho1 hb1 p0 p1 p2 q0
  by_cases z3 : e1 = 0
  case neg =>
    have HF : Hid (hoF 1 i1 xs1 2 i2 xs2 nm us = (⟨#[]⟩, e1)) := by unfold Hid hoF; rw [if_neg (by simp), HR1.out, if_pos z3]
    have z3' : (e1 != 0) = true := by simpa using z3
    clear z3
    go_wp2_with fail
    go_ret2
    exact ⟨by rw [HF.out]; rfl, (inferInstance : Ext w w1).out⟩
  subst z3
  have q0 : w1.cell? ⟨w.heap.size + 1, 0, none⟩ = some (.int .i64 2) := at_cell (at_ext HQ.out) 0
  have q1 : w1.cell? ⟨w.heap.size + 1, 1, none⟩ = some (.int .i64 i2) := at_cell (at_ext HQ.out) 1
  have q2 : w1.cell? ⟨w.heap.size + 1, 2, none⟩ = some (.slice A2 n2 k2) := at_cell (at_ext HQ.out) 2
  go_wp2_with fail
  refine (rread_any 2 i2 A2 n2 k2 xs2 Hn2.out hm2 hc2 HB2.out _ (by exact HX2.out.ext)).mono ?_
  rintro e w2 ⟨B2, m2, rfl, ho2, hb2⟩
  rw [HR2.out] at ho2 ⊢
  simp only at ho2 ⊢
  have S2 : Step w2 w1 := ⟨hb2⟩
  have HO2 := Lib.hid ho2
  obtain ⟨sd, hsd⟩ : ∃ sd, strOfNums r' = sd := ⟨_, rfl⟩
  simp only [hsd]
  have HSD := Lib.hid hsd
  clear ho2 hb2 q0 q1 q2 hsd
  by_cases z4 : e2 = 0
  case neg =>
    have HF : Hid (hoF 1 i1 xs1 2 i2 xs2 nm us = (⟨#[]⟩, e2)) := by unfold Hid hoF; rw [if_neg (by simp), HR1.out, HR2.out, if_neg (by simp), if_pos z4]
    have z4' : (e2 != 0) = true := by simpa using z4
    clear z4
    go_wp2_with fail
    go_ret2
    exact ⟨by rw [HF.out]; rfl, (inferInstance : Ext w w2).out⟩
  subst z4
  have p1 : w2.cell? ⟨w.heap.size, 1, none⟩ = some (.int .i64 i1) := at_cell (at_ext HP.out) 1
  have q1 : w2.cell? ⟨w.heap.size + 1, 1, none⟩ = some (.int .i64 i2) := at_cell (at_ext HQ.out) 1
  by_cases z5 : i1 = i2
  case neg =>
    have HF : Hid (hoF 1 i1 xs1 2 i2 xs2 nm us = (⟨#[]⟩, 201)) := by unfold Hid hoF; rw [if_neg (by simp), HR1.out, HR2.out, if_neg (by simp), if_neg (by simp), if_pos z5]
    have z5' : (i1 != i2) = true := by simpa using z5
    clear z5
    go_wp2_with fail
    go_ret2
    exact ⟨by rw [HF.out]; rfl, (inferInstance : Ext w w2).out⟩
  subst z5
  have HFN : Hid (∀ R, (if strB (secW (strB sd) (strB nm) us) = [] then (⟨#[]⟩, 5)
      else if respD i1 (secW (strB sd) (strB nm) us) p ≠ p' then (⟨#[]⟩, 120) else (sd, 0)) = R → hoF 1 i1 xs1 2 i1 xs2 nm us = R) := by
    intro R h
    unfold hoF
    rw [if_neg (by simp), HR1.out, HR2.out, if_neg (by simp), if_neg (by simp), if_neg (by simp)]
    simp only [HSD.out]
    exact h
  go_wp2_with fail
  refine (rfind_any LA ln lc us sd nm HLN.out hln' _ (by exact HS.out.ext)).mono ?_
  rintro e w3 ⟨hb3, he⟩
  have S3 : Step w3 w2 := ⟨hb3⟩
  have HWS : Hid ((secW (strB sd) (strB nm) us).size ≤ 64) := secW_size
  clear hb3 p1 q1
  rcases hq : findF (strB sd) (strB nm) us with _ | u
  · have HF : Hid (hoF 1 i1 xs1 2 i1 xs2 nm us = (⟨#[]⟩, 5)) := HFN.out _ (if_pos (by unfold secW; rw [hq]; rfl))
    rw [hq] at he
    simp only at he
    subst he
    clear hq
    have pn : ∀ o, (w3.alloc o).heap[w3.heap.size]? = some o := at_new w3
    go_upto_region 12 with
      (refine wpList_store_row_o rfl 44 (.tmp 15) (.tmp 53) rfl w3.heap.size zSec rfl rfl 44 zSec (pn _) (by kernel_rfl) rfl (by simp [Value.oneCell']) ?_
       intro w4 hr4 ho4 hz4 hb4
       have HR4 := Lib.hid hr4
       have X34 : Hid (Ext w3 w4) := ⟨hb4 _ _ (inferInstance : Ext w3 (w3.alloc _)).out (Nat.le_refl _)⟩
       have k2 : w4.cell? ⟨w3.heap.size, 2, none⟩ = some (.string ⟨#[]⟩) := at_cell hr4 2
       clear hr4 ho4 hz4 hb4 pn)
    have S4 : Step w4 w3 := ⟨X34.out.out⟩
    go_wp2_with fail
    go_ret2
    exact ⟨by rw [HF.out]; rfl, (inferInstance : Ext w w4).out⟩
  obtain ⟨uc, uss, wd, uA, un, uk, ux⟩ := u
  have hwd : secW (strB sd) (strB nm) us = wd := by unfold secW; rw [hq]
  rw [hwd] at HFN HWS
  rw [hq] at he
  simp only [SV.val] at he
  subst he
  clear hq hwd
  have pn : ∀ o, (w3.alloc o).heap[w3.heap.size]? = some o := at_new w3
  go_upto_region 12 with
    (refine wpList_store_row_o rfl 44 (.tmp 15) (.tmp 53) rfl w3.heap.size #[.string uc, .string uss, .string wd, .slice uA un uk] rfl rfl 44 zSec (pn _) (by kernel_rfl) rfl (by simp [Value.oneCell']) ?_
     intro w4 hr4 ho4 hz4 hb4
     have HR4 := Lib.hid hr4
     have X34 : Hid (Ext w3 w4) := ⟨hb4 _ _ (inferInstance : Ext w3 (w3.alloc _)).out (Nat.le_refl _)⟩
     have k2 : w4.cell? ⟨w3.heap.size, 2, none⟩ = some (.string wd) := at_cell hr4 2
     clear hr4 ho4 hz4 hb4 pn)
  have S4 : Step w4 w3 := ⟨X34.out.out⟩
  by_cases z6 : wd.toList = []
  · have HF : Hid (hoF 1 i1 xs1 2 i1 xs2 nm us = (⟨#[]⟩, 5)) := HFN.out _ (if_pos (by unfold strB; rw [← Lib.toList_data, z6]; rfl))
    go_wp2_with fail
    go_ret2
    exact ⟨by rw [HF.out]; rfl, (inferInstance : Ext w w4).out⟩
  have z6b : (wd.toList == []) = false := by simpa using z6
  have z6c : wd.toList.isEmpty = false := by rw [List.isEmpty_eq_false_iff]; exact z6
  have HFM : Hid (∀ R, (if respD i1 wd p ≠ p' then (⟨#[]⟩, 120) else (sd, 0)) = R → hoF 1 i1 xs1 2 i1 xs2 nm us = R) := fun R h => HFN.out R ((if_neg (fun h => z6 (by unfold strB at h; rw [Lib.toList_data]; exact List.map_eq_nil_iff.1 h))).trans h)
  clear HFN z6
  have p1 : w4.cell? ⟨w.heap.size, 1, none⟩ = some (.int .i64 i1) := at_cell (at_ext HP.out) 1
  go_wp2_with fail
  refine (rgt_any i1 wd B1 p.length m1 p rfl (by have h1 := HWS.out; have h2 := HA1.out.1.2; omega) HA1.out.1.1 _ (own_cells (own_ext (w := w1) HO1.out))).mono ?_
  rintro e w5 ⟨A5, c5, rfl, ho5, hb5⟩
  have S5 : Step w5 w4 := ⟨hb5⟩
  have hl := respD_len i1 wd p
  have HDB : Hid (Byt (respD i1 wd p)) := respD_byt
  have HC5 : Hid (Cells w5 A5 (nums .u8 (respD i1 wd p))) := own_cells ho5
  obtain ⟨ds, hds⟩ : ∃ ds, respD i1 wd p = ds := ⟨_, rfl⟩
  rw [hds] at HFM hl HDB HC5
  have HL := Lib.hid hl
  clear hb5 ho5 hl hds p1 k2
  go_wp2_with fail
  refine (same_any B2 A5 p'.length 16 m2 c5 p' ds rfl HL.out (by have := HA2.out.1.2; omega) (by omega) _ (own_cells (own_ext (w := w2) HO2.out)) HC5.out).mono ?_
  rintro e w6 ⟨rfl, hd6⟩
  have S6 : Step w6 w5 := Step.drawn hd6
  clear hd6
  by_cases z7 : p' = ds
  · have HF : Hid (hoF 1 i1 xs1 2 i1 xs2 nm us = (sd, 0)) := HFM.out _ (if_neg (by simpa using z7.symm))
    rw [decide_eq_true z7]
    clear z7
    go_wp2_with fail
    go_ret2
    exact ⟨by rw [HF.out]; rfl, (inferInstance : Ext w w6).out⟩
  · have HF : Hid (hoF 1 i1 xs1 2 i1 xs2 nm us = (⟨#[]⟩, 120)) := HFM.out _ (if_pos (fun h => z7 h.symm))
    rw [decide_eq_false z7]
    clear z7
    go_wp2_with fail
    go_ret2
    exact ⟨by rw [HF.out]; rfl, (inferInstance : Ext w w6).out⟩
end Go.Proofs.Ytobddmpiljknpaa
