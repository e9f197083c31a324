/-
  eap.Write. Conditions: sizes.
-/
import Derived.Test.YtobddmpiljknpaaEaB
namespace Go.Proofs.Ytobddmpiljknpaa
open Go.RowKit
set_option linter.unusedVariables false
set_option linter.unusedSimpArgs false

theorem bodyD_len {ty : Int} {v t : List Int} (h : bodyE ty v t = 0) (hv : v.length ≤ 140737488355000) (ht : t.length ≤ 140737488355000) : (bodyD ty v t).length ≤ 140737488355256 := by
  unfold bodyE at h
  unfold bodyD
  by_cases h1 : ty = 1 ∨ ty = 2
  · rw [if_pos h1]; omega
  rw [if_neg h1] at h ⊢
  by_cases h4 : ty = 4
  · rw [if_pos h4] at h ⊢
    by_cases h5 : v.length < 1 ∨ 255 < v.length
    · rw [if_pos h5] at h; cases h
    · simp only [List.length_append, List.length_cons, List.length_nil]; omega
  · rw [if_neg h4]; omega
theorem byte_of {n : Int} (h : byteB n = true) : 0 ≤ n ∧ n ≤ 255 := of_decide_eq_true h
set_option maxRecDepth 100000 in
set_option maxHeartbeats 8000000 in
theorem write_any (code id ty : Int) (V : Option Addr) (n c : Nat) (v : List Int) (s : ByteArray) (hn : v.length = n) (hn' : n ≤ 140737488355000) (hs : s.size ≤ 140737488355000) (w : World) (hx : Cells w V (nums .u8 v)) :
    Calls Try.prog 34 #[.agg #[.int .i64 code, .int .i64 id, .int .i64 ty, .slice V n c, .string s]] w (ReplyTells (wrE code id ty v (strB s)) w) := by
  have Hn := Lib.hid hn
  have HX := Lib.hid hx
  clear hn hx
  rcases hb1 : byteB id with _ | _
  · have HB1 := Lib.hid hb1
    have HF : Hid (wrE code id ty v (strB s) = ((0, 0), [], 1)) := if_pos (.inl hb1)
    clear hb1
    go_enter Try.func34, Try.ntmps34
    go_upto_region 1 with fail
    obtain ⟨wb, hwb⟩ : ∃ wb, (w.alloc (.cells #[.int .i64 code, .int .i64 id, .int .i64 ty, .slice V n c, .string s] 52)).alloc zPk = wb := ⟨_, rfl⟩
    have HP : Hid (wb.heap[w.heap.size]? = some (.cells #[.int .i64 code, .int .i64 id, .int .i64 ty, .slice V n c, .string s] 52 (0, 0))) := by unfold Hid; rw [← hwb]; exact at_ext (at_new w _)
    have HZ : Hid (wb.heap[w.heap.size + 1]? = some zPk) := by unfold Hid; rw [← hwb]; exact at_new1 (by simp)
    have HW : Hid (Ext w wb) := by unfold Hid; rw [← hwb]; exact inferInstance
    have HLB : Hid (w.heap.size + 1 < wb.heap.size) := at_lt HZ.out
    rw [hwb]
    clear hwb
    have p0 : wb.cell? ⟨w.heap.size, 0, none⟩ = some (.int .i64 code) := at_cell HP.out 0
    have p1 : wb.cell? ⟨w.heap.size, 1, none⟩ = some (.int .i64 id) := at_cell HP.out 1
    have p2 : wb.cell? ⟨w.heap.size, 2, none⟩ = some (.int .i64 ty) := at_cell HP.out 2
    go_wp2_with fail
    refine (isByte_any id _).mono ?_
    rintro e w1 ⟨rfl, rfl⟩
    rw [HB1.out]
    go_wp2_with
      (refine wpList_store_row rfl 24 (.tmp 2) (.tmp 18) rfl (w.heap.size + 1) #[.int .i64 0, .int .i64 0, .slice none 0 0] rfl rfl 24 #[.int .i64 0, .int .i64 0, .slice none 0 0] HZ.out (by kernel_rfl) rfl (by simp [Value.oneCell']) ?_)
    refine bodyPost_ret (results_cell_row2 Try.results34 _ _ (w.heap.size + 1) 24 #[.int .i64 0, .int .i64 0, .slice none 0 0] (0, 0) _ (.int .i64 1) rfl rfl (setRow_heap _ _ _ _ _ _ HZ.out) Try.underlying24 rfl (by kernel_rfl)) rfl ?_
    rw [HF.out]
    exact ⟨none, 0, rfl, own_nil _ _ _ _, (Ext.setRow_ HW.out (by omega) _).out⟩
  have HB1 := Lib.hid hb1
  rcases hb2 : byteB ty with _ | _
  · have HB2 := Lib.hid hb2
    have HF : Hid (wrE code id ty v (strB s) = ((0, 0), [], 1)) := if_pos (.inr hb2)
    clear hb1 hb2
    go_enter Try.func34, Try.ntmps34
    go_upto_region 1 with fail
    obtain ⟨wb, hwb⟩ : ∃ wb, (w.alloc (.cells #[.int .i64 code, .int .i64 id, .int .i64 ty, .slice V n c, .string s] 52)).alloc zPk = wb := ⟨_, rfl⟩
    have HP : Hid (wb.heap[w.heap.size]? = some (.cells #[.int .i64 code, .int .i64 id, .int .i64 ty, .slice V n c, .string s] 52 (0, 0))) := by unfold Hid; rw [← hwb]; exact at_ext (at_new w _)
    have HZ : Hid (wb.heap[w.heap.size + 1]? = some zPk) := by unfold Hid; rw [← hwb]; exact at_new1 (by simp)
    have HW : Hid (Ext w wb) := by unfold Hid; rw [← hwb]; exact inferInstance
    have HLB : Hid (w.heap.size + 1 < wb.heap.size) := at_lt HZ.out
    rw [hwb]
    clear hwb
    have p0 : wb.cell? ⟨w.heap.size, 0, none⟩ = some (.int .i64 code) := at_cell HP.out 0
    have p1 : wb.cell? ⟨w.heap.size, 1, none⟩ = some (.int .i64 id) := at_cell HP.out 1
    have p2 : wb.cell? ⟨w.heap.size, 2, none⟩ = some (.int .i64 ty) := at_cell HP.out 2
    go_wp2_with fail
    refine (isByte_any id _).mono ?_
    rintro e w1 ⟨rfl, rfl⟩
    rw [HB1.out]
    go_wp2_with fail
    refine (isByte_any ty _).mono ?_
    rintro e w1 ⟨rfl, rfl⟩
    rw [HB2.out]
    go_wp2_with
      (refine wpList_store_row rfl 24 (.tmp 2) (.tmp 18) rfl (w.heap.size + 1) #[.int .i64 0, .int .i64 0, .slice none 0 0] rfl rfl 24 #[.int .i64 0, .int .i64 0, .slice none 0 0] HZ.out (by kernel_rfl) rfl (by simp [Value.oneCell']) ?_)
    refine bodyPost_ret (results_cell_row2 Try.results34 _ _ (w.heap.size + 1) 24 #[.int .i64 0, .int .i64 0, .slice none 0 0] (0, 0) _ (.int .i64 1) rfl rfl (setRow_heap _ _ _ _ _ _ HZ.out) Try.underlying24 rfl (by kernel_rfl)) rfl ?_
    rw [HF.out]
    exact ⟨none, 0, rfl, own_nil _ _ _ _, (Ext.setRow_ HW.out (by omega) _).out⟩
  have HB2 := Lib.hid hb2
  have HFN : Hid (∀ R, (if code < 1 ∨ 4 < code ∨ (code = 1 ∧ ty = 3) then ((0, 0), [], 90)
      else if 3 ≤ code then (if ty ≠ 0 ∨ v ≠ [] ∨ strB s ≠ [] then ((0, 0), [], 3) else ((code, id), [], 0))
      else if bodyE ty v (strB s) ≠ 0 then ((0, 0), [], bodyE ty v (strB s))
      else if 16380 < (bodyD ty v (strB s)).length + 1 then ((0, 0), [], 4)
      else ((code, id), [ty] ++ bodyD ty v (strB s), 0)) = R → wrE code id ty v (strB s) = R) := by
    intro R h
    unfold wrE
    rw [if_neg (by rw [hb1, hb2]; simp)]
    exact h
  have hty := byte_of hb2
  clear hb1 hb2
  go_enter Try.func34, Try.ntmps34
  go_upto_region 1 with fail
  obtain ⟨wb, hwb⟩ : ∃ wb, (w.alloc (.cells #[.int .i64 code, .int .i64 id, .int .i64 ty, .slice V n c, .string s] 52)).alloc zPk = wb := ⟨_, rfl⟩
  have HP : Hid (wb.heap[w.heap.size]? = some (.cells #[.int .i64 code, .int .i64 id, .int .i64 ty, .slice V n c, .string s] 52 (0, 0))) := by unfold Hid; rw [← hwb]; exact at_ext (at_new w _)
  have HZ : Hid (wb.heap[w.heap.size + 1]? = some zPk) := by unfold Hid; rw [← hwb]; exact at_new1 (by simp)
  have HW : Hid (Ext w wb) := by unfold Hid; rw [← hwb]; exact inferInstance
  have HLB : Hid (w.heap.size + 1 < wb.heap.size) := at_lt HZ.out
  rw [hwb]
  clear hwb
  have p0 : wb.cell? ⟨w.heap.size, 0, none⟩ = some (.int .i64 code) := at_cell HP.out 0
  have p1 : wb.cell? ⟨w.heap.size, 1, none⟩ = some (.int .i64 id) := at_cell HP.out 1
  have p2 : wb.cell? ⟨w.heap.size, 2, none⟩ = some (.int .i64 ty) := at_cell HP.out 2
  go_wp2_with fail
  refine (isByte_any id _).mono ?_
  rintro e w1 ⟨rfl, rfl⟩
  rw [HB1.out]
  go_wp2_with fail
  refine (isByte_any ty _).mono ?_
  rintro e w1 ⟨rfl, rfl⟩
  rw [HB2.out]
  go_upto_region 3 with fail
  obtain ⟨q, hq⟩ : ∃ q, decide (code < 1 ∨ 4 < code ∨ (code = 1 ∧ ty = 3)) = q := ⟨_, rfl⟩
  have HQ := Lib.hid hq
  clear hq
  go_cut [19] (fun s wx => s = .bool q ∧ wb = wx)
  case first =>
    by_cases c1 : code < 1
    · skip
      go_wp2_with fail
      go_meet
      case rel => exact ⟨by rw [← HQ.out, decide_eq_true (by omega)], rfl⟩
    by_cases c2 : 4 < code
    · skip
      go_wp2_with fail
      go_meet
      case rel => exact ⟨by rw [← HQ.out, decide_eq_true (by omega)], rfl⟩
    by_cases c3 : code = 1
    · by_cases c4 : ty = 3
      · subst c3
        have c4b : (ty == 3) = true := by simpa using c4
        have hd := Lib.hid (show decide ((1 : Int) < 1 ∨ 4 < (1 : Int) ∨ ((1 : Int) = 1 ∧ ty = 3)) = true from decide_eq_true (by omega))
        clear c4
        go_wp2_with fail
        go_meet
        case rel => exact ⟨by rw [← HQ.out, hd.out], rfl⟩
      · subst c3
        have c4b : (ty == 3) = false := by simpa using c4
        go_wp2_with fail
        go_meet
        case rel => exact ⟨by rw [← HQ.out, decide_eq_false (by omega)], rfl⟩
    · have c3b : (code == 1) = false := by simpa using c3
      go_wp2_with fail
      go_meet
      case rel => exact ⟨by rw [← HQ.out, decide_eq_false (by omega)], rfl⟩
  case' rest =>
    obtain ⟨rfl, rfl⟩ := hcut
  cases q
  case true =>
    have HF : Hid (wrE code id ty v (strB s) = ((0, 0), [], 90)) := HFN.out _ (if_pos (of_decide_eq_true HQ.out))
    go_wp2_with
      (refine wpList_store_row rfl 24 (.tmp 2) (.tmp 38) rfl (w.heap.size + 1) #[.int .i64 0, .int .i64 0, .slice none 0 0] rfl rfl 24 #[.int .i64 0, .int .i64 0, .slice none 0 0] HZ.out (by kernel_rfl) rfl (by simp [Value.oneCell']) ?_)
    refine bodyPost_ret (results_cell_row2 Try.results34 _ _ (w.heap.size + 1) 24 #[.int .i64 0, .int .i64 0, .slice none 0 0] (0, 0) _ (.int .i64 90) rfl rfl (setRow_heap _ _ _ _ _ _ HZ.out) Try.underlying24 rfl (by kernel_rfl)) rfl ?_
    rw [HF.out]
    exact ⟨none, 0, rfl, own_nil _ _ _ _, (Ext.setRow_ HW.out (by omega) _).out⟩
  have HG := Lib.hid (of_decide_eq_false HQ.out)
  have pp : ∀ o, (wb.alloc o).heap[wb.heap.size]? = some o := at_new wb
  go_upto_region 6 with
    (refine wpList_store_row_o rfl 24 (.tmp 4) (.tmp 43) rfl wb.heap.size #[.int .i64 code, .int .i64 id, .slice none 0 0] rfl rfl 24 #[.int .i64 0, .int .i64 0, .slice none 0 0] (pp _) (by kernel_rfl) rfl (by simp [Value.oneCell']) ?_
     intro w2 hr2 ho2 hz2 hb2
     have HR2 := Lib.hid hr2
     have X2 : Hid (Ext wb w2) := ⟨hb2 _ _ (inferInstance : Ext wb (wb.alloc _)).out (Nat.le_refl _)⟩
     clear hr2 ho2 hz2 hb2 pp)
  clear p0 p1 p2
  have HP2 : Hid (w2.heap[w.heap.size]? = some (.cells #[.int .i64 code, .int .i64 id, .int .i64 ty, .slice V n c, .string s] 52 (0, 0))) := at_ext (h := X2.out) HP.out
  have HZ2 : Hid (w2.heap[w.heap.size + 1]? = some zPk) := at_ext (h := X2.out) HZ.out
  have p0 : w2.cell? ⟨w.heap.size, 0, none⟩ = some (.int .i64 code) := at_cell HP2.out 0
  have p1 : w2.cell? ⟨w.heap.size, 1, none⟩ = some (.int .i64 id) := at_cell HP2.out 1
  have p2 : w2.cell? ⟨w.heap.size, 2, none⟩ = some (.int .i64 ty) := at_cell HP2.out 2
  have p3 : w2.cell? ⟨w.heap.size, 3, none⟩ = some (.slice V n c) := at_cell HP2.out 3
  have p4 : w2.cell? ⟨w.heap.size, 4, none⟩ = some (.string s) := at_cell HP2.out 4
  have XW2 : Hid (Ext w w2) := Ext.trans_ HW.out X2.out
  by_cases h3 : 3 ≤ code
  · by_cases t0 : ty = 0
    case neg =>
      have HF : Hid (wrE code id ty v (strB s) = ((0, 0), [], 3)) := HFN.out _ (by rw [if_neg HG.out, if_pos h3, if_pos (.inl t0)])
      have t0b : (ty != 0) = true := by simpa using t0
      clear t0
      go_wp2_with
        (refine wpList_store_row rfl 24 (.tmp 2) (.tmp 61) rfl (w.heap.size + 1) #[.int .i64 0, .int .i64 0, .slice none 0 0] rfl rfl 24 #[.int .i64 0, .int .i64 0, .slice none 0 0] HZ2.out (by kernel_rfl) rfl (by simp [Value.oneCell']) ?_)
      refine bodyPost_ret (results_cell_row2 Try.results34 _ _ (w.heap.size + 1) 24 #[.int .i64 0, .int .i64 0, .slice none 0 0] (0, 0) _ (.int .i64 3) rfl rfl (setRow_heap _ _ _ _ _ _ HZ2.out) Try.underlying24 rfl (by kernel_rfl)) rfl ?_
      rw [HF.out]
      exact ⟨none, 0, rfl, own_nil _ _ _ _, (Ext.setRow_ XW2.out (by omega) _).out⟩
    subst t0
    by_cases hz : n = 0
    case neg =>
      have HF : Hid (wrE code id 0 v (strB s) = ((0, 0), [], 3)) := HFN.out _ (by rw [if_neg HG.out, if_pos h3, if_pos (.inr (.inl (fun h => hz (by rw [← Hn.out, h]; rfl))))])
      have hzI : (0 : Int) < (n : Int) := by omega
      clear hz
      go_wp2_with
        (refine wpList_store_row rfl 24 (.tmp 2) (.tmp 61) rfl (w.heap.size + 1) #[.int .i64 0, .int .i64 0, .slice none 0 0] rfl rfl 24 #[.int .i64 0, .int .i64 0, .slice none 0 0] HZ2.out (by kernel_rfl) rfl (by simp [Value.oneCell']) ?_)
      refine bodyPost_ret (results_cell_row2 Try.results34 _ _ (w.heap.size + 1) 24 #[.int .i64 0, .int .i64 0, .slice none 0 0] (0, 0) _ (.int .i64 3) rfl rfl (setRow_heap _ _ _ _ _ _ HZ2.out) Try.underlying24 rfl (by kernel_rfl)) rfl ?_
      rw [HF.out]
      exact ⟨none, 0, rfl, own_nil _ _ _ _, (Ext.setRow_ XW2.out (by omega) _).out⟩
    have hv : Hid (v = []) := List.eq_nil_of_length_eq_zero (by rw [Hn.out]; exact hz)
    have hzI : ¬ (0 : Int) < (n : Int) := by omega
    clear hz
    by_cases ts : s.toList = []
    case neg =>
      have HF : Hid (wrE code id 0 v (strB s) = ((0, 0), [], 3)) := HFN.out _ (by rw [if_neg HG.out, if_pos h3, if_pos (.inr (.inr (fun h => ts (strB_none.1 h))))])
      have tsb : (s.toList == []) = false := by simpa using ts
      have tsc : s.toList.isEmpty = false := by rw [List.isEmpty_eq_false_iff]; exact ts
      clear ts
      go_wp2_with
        (refine wpList_store_row rfl 24 (.tmp 2) (.tmp 61) rfl (w.heap.size + 1) #[.int .i64 0, .int .i64 0, .slice none 0 0] rfl rfl 24 #[.int .i64 0, .int .i64 0, .slice none 0 0] HZ2.out (by kernel_rfl) rfl (by simp [Value.oneCell']) ?_)
      refine bodyPost_ret (results_cell_row2 Try.results34 _ _ (w.heap.size + 1) 24 #[.int .i64 0, .int .i64 0, .slice none 0 0] (0, 0) _ (.int .i64 3) rfl rfl (setRow_heap _ _ _ _ _ _ HZ2.out) Try.underlying24 rfl (by kernel_rfl)) rfl ?_
      rw [HF.out]
      exact ⟨none, 0, rfl, own_nil _ _ _ _, (Ext.setRow_ XW2.out (by omega) _).out⟩
    have HF : Hid (wrE code id 0 v (strB s) = ((code, id), [], 0)) := HFN.out _ (by rw [if_neg HG.out, if_pos h3, if_neg (by rw [hv.out, strB_none.2 ts]; simp)])
    have tsb : (s.toList == []) = true := by simpa using ts
    have tsc : s.toList.isEmpty = true := by rw [ts]; rfl
    clear ts
    go_wp2_with
      (first
       | (refine wpList_load_row rfl 24 (.tmp 4) rfl wb.heap.size rfl 24 #[.int .i64 code, .int .i64 id, .slice none 0 0] (0, 0) _ HR2.out Try.underlying24 rfl (by kernel_rfl) ?_)
       | (refine wpList_store_row rfl 24 (.tmp 2) (.tmp 62) rfl (w.heap.size + 1) #[.int .i64 code, .int .i64 id, .slice none 0 0] rfl rfl 24 #[.int .i64 0, .int .i64 0, .slice none 0 0] HZ2.out (by kernel_rfl) rfl (by simp [Value.oneCell']) ?_))
    refine bodyPost_ret (results_cell_row2 Try.results34 _ _ (w.heap.size + 1) 24 #[.int .i64 code, .int .i64 id, .slice none 0 0] (0, 0) _ (.int .i64 0) rfl rfl (setRow_heap _ _ _ _ _ _ HZ2.out) Try.underlying24 rfl (by kernel_rfl)) rfl ?_
    rw [HF.out]
    exact ⟨none, 0, rfl, own_nil _ _ _ _, (Ext.setRow_ XW2.out (by omega) _).out⟩
  have HFM : Hid (∀ R, (if bodyE ty v (strB s) ≠ 0 then ((0, 0), [], bodyE ty v (strB s))
      else if 16380 < (bodyD ty v (strB s)).length + 1 then ((0, 0), [], 4)
      else ((code, id), [ty] ++ bodyD ty v (strB s), 0)) = R → wrE code id ty v (strB s) = R) := fun R h => HFN.out R (by rw [if_neg HG.out, if_neg h3]; exact h)
  have HEL := Lib.hid (fun h => bodyD_len (ty := ty) (v := v) (t := strB s) h (by rw [Hn.out]; exact hn') (by rw [strB_len]; exact hs))
  go_wp2_with fail
  refine (body_any code id ty V n c v s Hn.out hn' hs _ (HX.out.ext (h := XW2.out))).mono ?_
  rintro e w3 ⟨bv, rfl, hbv, hb3⟩
  have X3 : Hid (Ext w2 w3) := ⟨hb3⟩
  have HZ3 : Hid (w3.heap[w.heap.size + 1]? = some zPk) := at_ext (h := X3.out) HZ2.out
  have XW3 : Hid (Ext w w3) := Ext.trans_ XW2.out X3.out
  have HBV := Lib.hid hbv
  obtain ⟨er, her⟩ : ∃ er, bodyE ty v (strB s) = er := ⟨_, rfl⟩
  rw [her] at HFM HBV HEL ⊢
  clear hbv hb3 her p0 p1 p2 p3 p4
  by_cases ee : er = 0
  case neg =>
    have HF : Hid (wrE code id ty v (strB s) = ((0, 0), [], er)) := HFM.out _ (if_pos ee)
    have eeb : (er != 0) = true := by simpa using ee
    clear ee
    go_wp2_with
      (refine wpList_store_row rfl 24 (.tmp 2) (.tmp 70) rfl (w.heap.size + 1) #[.int .i64 0, .int .i64 0, .slice none 0 0] rfl rfl 24 #[.int .i64 0, .int .i64 0, .slice none 0 0] HZ3.out (by kernel_rfl) rfl (by simp [Value.oneCell']) ?_)
    refine bodyPost_ret (results_cell_row2 Try.results34 _ _ (w.heap.size + 1) 24 #[.int .i64 0, .int .i64 0, .slice none 0 0] (0, 0) _ (.int .i64 er) rfl rfl (setRow_heap _ _ _ _ _ _ HZ3.out) Try.underlying24 rfl (by kernel_rfl)) rfl ?_
    rw [HF.out]
    exact ⟨none, 0, rfl, own_nil _ _ _ _, (Ext.setRow_ XW3.out (by omega) _).out⟩
  subst ee
  have HBO := Lib.hid (HBV.out rfl)
  have HDL := Lib.hid (HEL.out rfl)
  clear HBV HEL
  obtain ⟨d, hd⟩ : ∃ d, bodyD ty v (strB s) = d := ⟨_, rfl⟩
  rw [hd] at HBO HDL HFM
  clear hd
  obtain ⟨m, hm⟩ : ∃ m, d.length = m := ⟨_, rfl⟩
  have HM := Lib.hid hm
  rw [hm] at HDL HFM
  have HML : Hid (m ≤ 140737488355256) := HDL.out
  clear hm HDL
  have HP3 : Hid (w3.heap[w.heap.size]? = some (.cells #[.int .i64 code, .int .i64 id, .int .i64 ty, .slice V n c, .string s] 52 (0, 0))) := at_ext (h := X3.out) HP2.out
  have HR3 : Hid (w3.heap[wb.heap.size]? = some (.cells #[.int .i64 code, .int .i64 id, .slice none 0 0] 24 (0, 0))) := at_ext (h := X3.out) HR2.out
  have hwn : IntKind.u8.wrap ty = ty := wraps_u8 _ (by omega) (by omega)
  go_upto_region 13 with fail
  refine wp_region_held_drew (S := fun W => W.heap[w.heap.size]? = some (.cells #[.int .i64 code, .int .i64 id, .int .i64 ty, .slice V n c, .string s] 52 (0, 0))) (by kernel_rfl) HP3.out (fun hHeld => ?_)
  refine wpAnyH_take (i := 0) (v := ?_) rfl (by kernel_rfl) (by kernel_rfl) (by kernel_rfl) (fun _ _ _ h => h) (Yields.yieldsIf (Or.inl ⟨by rfl, ?_⟩)) hHeld ?_
  rotate_left
  · intro W
    go_simp
    try with_reducible rfl
  simp only [List.getElem_toArray, List.getElem_cons_succ, List.getElem_cons_zero, Act.put, List.setIfInBounds_toArray, List.set_cons_zero, List.set_cons_succ]
  refine wpAnyH_take (i := 1) (v := ?_) rfl (by kernel_rfl) (by kernel_rfl) (by kernel_rfl) (fun _ _ _ h => h) (Or.inl ⟨by rfl, ?_⟩) hHeld ?_
  rotate_left
  · intro W hW
    have hcl := (at_cell hW 2)
    go_simp
    try with_reducible rfl
  simp only [List.getElem_toArray, List.getElem_cons_succ, List.getElem_cons_zero, Act.put, List.setIfInBounds_toArray, List.set_cons_zero, List.set_cons_succ]
  refine wpAnyH_take (i := 2) (v := ?_) rfl (by kernel_rfl) (by kernel_rfl) (by kernel_rfl) (fun _ _ _ h => h) (Yields.yieldsIf (Or.inl ⟨by rfl, ?_⟩)) hHeld ?_
  rotate_left
  · intro W
    go_simp
    try with_reducible rfl
  simp only [List.getElem_toArray, List.getElem_cons_succ, List.getElem_cons_zero, Act.put, List.setIfInBounds_toArray, List.set_cons_zero, List.set_cons_succ]
  refine wpAnyH_take (i := 4) (v := ?_) rfl (by kernel_rfl) (by kernel_rfl) (by kernel_rfl) (fun _ _ _ h => h) (Yields.yieldsIf (Or.inl ⟨by rfl, ?_⟩)) hHeld ?_
  rotate_left
  · intro W
    go_simp
    try with_reducible rfl
  simp only [List.getElem_toArray, List.getElem_cons_succ, List.getElem_cons_zero, Act.put, List.setIfInBounds_toArray, List.set_cons_zero, List.set_cons_succ]
  refine wpAnyH_ready (rs := [3, 5]) (by kernel_rfl) (by simp) ?_
  refine AllReadyH.cons rfl (fun K hK => ?_) (AllReadyH.cons rfl (fun K hK => ?_) AllReadyH.nil)
  · rw [if_pos (by rfl)]
    unfold Oper.wp
    go_simp
    obtain ⟨w4, hw4⟩ : ∃ w4, (w3.alloc (.cells #[.int .u8 ty] 5)).drew = w4 := ⟨_, rfl⟩
    have X4 : Hid (Ext w3 w4) := by unfold Hid; rw [← hw4]; exact inferInstance
    have HO4 : Hid (w4.ownsRow w3.heap.size 5 1 (.slice (some ⟨w3.heap.size, 0, none⟩) 1 1) 1 (nums .u8 [ty])) := by unfold Hid; rw [← hw4]; exact own_box w3 _ _ rfl (Nat.le_refl _) (nums .u8 [ty]) 1 1 rfl (by omega) _
    simp only [hw4]
    clear hHeld hw4
    refine hK.out _ _ (at_ext (h := X4.out) HP3.out) (fun hHeld => ?_)
    clear hK K
    try simp only [List.getElem_toArray, List.getElem_cons_succ, List.getElem_cons_zero, Act.put, List.setIfInBounds_toArray, List.set_cons_zero, List.set_cons_succ]
    refine wpAnyH_ready (rs := [5]) (by kernel_rfl) (by simp) ?_
    refine AllReadyH.cons rfl (fun K hK => ?_) AllReadyH.nil
    obtain ⟨fb, vb, hi, hc⟩ := HBO.out
    refine step_invoke (by rfl) (.tmp 76) "tether/eap.bytes" #[] rfl bv rfl vb (hi _) (hc w4 X4.out) ?_
    rintro e w5 ⟨A5, m', k5, rfl, hml, hcd, hb5⟩
    obtain rfl : m' = m := hml.symm.trans HM.out
    refine ⟨_, rfl, ?_⟩
    have X45 : Hid (Ext w4 w5) := ⟨hb5⟩
    have X5 : Hid (Ext w3 w5) := Ext.trans_ X4.out X45.out
    have HO5 := Lib.hid (own_ext (h := X45.out) HO4.out)
    have HC5 := Lib.hid hcd
    clear hHeld hi hc hml hcd hb5
    refine hK.out _ _ (at_ext (h := X5.out) HP3.out) (fun hHeld => ?_)
    clear hK K
    try simp only [List.getElem_toArray, List.getElem_cons_succ, List.getElem_cons_zero, Act.put, List.setIfInBounds_toArray, List.set_cons_zero, List.set_cons_succ]
    refine wpAnyH_ready (rs := [6]) (by kernel_rfl) (by simp) ?_
    refine AllReadyH.cons rfl (fun K hK => ?_) AllReadyH.nil
    refine step_append w3.heap.size rfl (.tmp 75) (.tmp 77) 22 5 (.int .u8 0) 1 1 rfl Try.underlying22 info_u8 rfl (by decide) (by decide) (.slice (some ⟨w3.heap.size, 0, none⟩) 1 1) 1 (nums .u8 [ty]) A5 m' k5 (nums .u8 d) rfl rfl (by rw [nums_length, HM.out, Nat.mul_one]) (nums_one _ _) HO5.out HC5.out X5.out.out.size (by have := HML.out; omega) ?_
    intro v6 w6 ho6 hg6 hat6
    obtain ⟨A6, c6, rfl, hc6⟩ := own_slice ho6
    have X6 : Hid (Ext w3 w6) := ⟨below_grown X5.out.out X5.out.out.size hg6 (own_base HO5.out)⟩
    have HO6 := Lib.hid ho6
    have HP6 : Hid (w6.heap[w.heap.size]? = some (.cells #[.int .i64 code, .int .i64 id, .int .i64 ty, .slice V n c, .string s] 52 (0, 0))) := at_ext (h := X6.out) HP3.out
    have HR6 : Hid (w6.heap[wb.heap.size]? = some (.cells #[.int .i64 code, .int .i64 id, .slice none 0 0] 24 (0, 0))) := at_ext (h := X6.out) HR3.out
    have HZ6 : Hid (w6.heap[w.heap.size + 1]? = some zPk) := at_ext (h := X6.out) HZ3.out
    clear ho6 hg6 hat6 hc6 hHeld
    refine hK.out _ _ HP6.out (fun hHeld => ?_)
    clear hK K
    try simp only [List.getElem_toArray, List.getElem_cons_succ, List.getElem_cons_zero, Act.put, List.setIfInBounds_toArray, List.set_cons_zero, List.set_cons_succ]
    refine wpAnyH_take (i := 7) (v := ?_) rfl (by kernel_rfl) (by kernel_rfl) (by kernel_rfl) (fun _ _ _ h => h) (Yields.yieldsIf (Or.inl ⟨by rfl, ?_⟩)) hHeld ?_
    rotate_left
    · intro W
      go_simp
      try with_reducible rfl
    simp only [List.getElem_toArray, List.getElem_cons_succ, List.getElem_cons_zero, Act.put, List.setIfInBounds_toArray, List.set_cons_zero, List.set_cons_succ]
    refine wpAnyH_ready (rs := [8]) (by kernel_rfl) (by simp) ?_
    refine AllReadyH.cons rfl (fun K hK => ?_) AllReadyH.nil
    have k6 : w6.cell? ⟨wb.heap.size, 2, none⟩ = some (.slice none 0 0) := at_cell HR6.out 2
    have f6 : w6.frozen? ⟨wb.heap.size, 2, none⟩ = false := at_frozen HR6.out 2
    rw [if_pos (by rfl)]
    unfold Oper.wp
    go_simp
    obtain ⟨w7, hw7⟩ : ∃ w7, w6.setCell ⟨wb.heap.size, 2, none⟩ (.slice A6 (1 + m') c6) = w7 := ⟨_, rfl⟩
    have HR7 : Hid (w7.heap[wb.heap.size]? = some (.cells #[.int .i64 code, .int .i64 id, .slice A6 (1 + m') c6] 24 (0, 0))) := by unfold Hid; rw [← hw7]; exact at_set HR6.out 2 _
    have HN6 : Hid ((Value.slice A6 (1 + m') c6).ownBlock ≠ some wb.heap.size) := own_type_ne HO6.out HR6.out (by decide)
    have HO7 : Hid (w7.ownsRow w3.heap.size 5 1 (.slice A6 (1 + m') c6) (1 + m') (nums .u8 [ty] ++ nums .u8 d)) := by unfold Hid; rw [← hw7]; exact own_setCell HO6.out (p := ⟨wb.heap.size, 2, none⟩) HN6.out _
    have XB6 : Hid (Ext wb w6) := Ext.trans_ (Ext.trans_ X2.out X3.out) X6.out
    have X7 : Hid (Ext wb w7) := by unfold Hid; rw [← hw7]; exact ⟨XB6.out.out.setCell (p := ⟨wb.heap.size, 2, none⟩) (Nat.le_refl _) _⟩
    have HP7 : Hid (w7.heap[w.heap.size]? = some (.cells #[.int .i64 code, .int .i64 id, .int .i64 ty, .slice V n c, .string s] 52 (0, 0))) := at_ext (h := X7.out) HP.out
    have HZ7 : Hid (w7.heap[w.heap.size + 1]? = some zPk) := at_ext (h := X7.out) HZ.out
    have XW7 : Hid (Ext w w7) := Ext.trans_ HW.out X7.out
    have k7 : w7.cell? ⟨wb.heap.size, 2, none⟩ = some (.slice A6 (1 + m') c6) := at_cell HR7.out 2
    simp only [hw7]
    clear hHeld hw7 k6 f6
    refine hK.out _ _ HP7.out (fun hHeld => ?_)
    clear hK K
    refine wpAnyH_done (by kernel_rfl) ?_ _
    clear hHeld
    by_cases lz : 16380 < 1 + m'
    · have HF : Hid (wrE code id ty v (strB s) = ((0, 0), [], 4)) := HFM.out _ (by rw [if_neg (by simp), if_pos (by omega)])
      have lzI : 16380 < 1 + (m' : Int) := by omega
      go_wp2_with
        (refine wpList_store_row rfl 24 (.tmp 2) (.tmp 84) rfl (w.heap.size + 1) #[.int .i64 0, .int .i64 0, .slice none 0 0] rfl rfl 24 #[.int .i64 0, .int .i64 0, .slice none 0 0] HZ7.out (by kernel_rfl) rfl (by simp [Value.oneCell']) ?_)
      refine bodyPost_ret (results_cell_row2 Try.results34 _ _ (w.heap.size + 1) 24 #[.int .i64 0, .int .i64 0, .slice none 0 0] (0, 0) _ (.int .i64 4) rfl rfl (setRow_heap _ _ _ _ _ _ HZ7.out) Try.underlying24 rfl (by kernel_rfl)) rfl ?_
      rw [HF.out]
      exact ⟨none, 0, rfl, own_nil _ _ _ _, (Ext.setRow_ XW7.out (by omega) _).out⟩
    · have HF : Hid (wrE code id ty v (strB s) = ((code, id), [ty] ++ d, 0)) := HFM.out _ (by rw [if_neg (by simp), if_neg (by omega)])
      have lzI : ¬ 16380 < 1 + (m' : Int) := by omega
      have HNE : Hid ((Value.slice A6 (1 + m') c6).ownBlock ≠ some (w.heap.size + 1)) := own_type_ne HO7.out HZ7.out (by decide)
      go_wp2_with
        (first
         | (refine wpList_load_row rfl 24 (.tmp 4) rfl wb.heap.size rfl 24 #[.int .i64 code, .int .i64 id, .slice A6 (1 + m') c6] (0, 0) _ HR7.out Try.underlying24 rfl (by kernel_rfl) ?_)
         | (refine wpList_store_row rfl 24 (.tmp 2) (.tmp 85) rfl (w.heap.size + 1) #[.int .i64 code, .int .i64 id, .slice A6 (1 + m') c6] rfl rfl 24 #[.int .i64 0, .int .i64 0, .slice none 0 0] HZ7.out (by kernel_rfl) rfl (by simp [Value.oneCell']) ?_))
      refine bodyPost_ret (results_cell_row2 Try.results34 _ _ (w.heap.size + 1) 24 #[.int .i64 code, .int .i64 id, .slice A6 (1 + m') c6] (0, 0) _ (.int .i64 0) rfl rfl (setRow_heap _ _ _ _ _ _ HZ7.out) Try.underlying24 rfl (by kernel_rfl)) rfl ?_
      rw [HF.out]
      have HLL : ([ty] ++ d).length = 1 + m' := by rw [List.length_append, HM.out]; rfl
      refine ⟨A6, c6, ?_, ?_, (Ext.setRow_ XW7.out (by omega) _).out⟩
      · simp only [HLL]
      · simp only [HLL, nums_append]
        exact own_weaken (own_setRow HO7.out HNE.out _) (Nat.le_trans HW.out.out.size (Nat.le_trans X2.out.out.size X3.out.out.size))
  · obtain ⟨fb, vb, hi, hc⟩ := HBO.out
    refine step_invoke (by rfl) (.tmp 76) "tether/eap.bytes" #[] rfl bv rfl vb (hi _) (hc w3.drew inferInstance) ?_
    rintro e w4 ⟨A5, m', k5, rfl, hml, hcd, hb4⟩
    obtain rfl : m' = m := hml.symm.trans HM.out
    refine ⟨_, rfl, ?_⟩
    have X4 : Hid (Ext w3 w4) := Ext.trans_ (inferInstance : Ext w3 w3.drew) ⟨hb4⟩
    have HC4 := Lib.hid hcd
    clear hHeld hi hc hml hcd hb4
    refine hK.out _ _ (at_ext (h := X4.out) HP3.out) (fun hHeld => ?_)
    clear hK K
    try simp only [List.getElem_toArray, List.getElem_cons_succ, List.getElem_cons_zero, Act.put, List.setIfInBounds_toArray, List.set_cons_zero, List.set_cons_succ]
    refine wpAnyH_ready (rs := [3]) (by kernel_rfl) (by simp) ?_
    refine AllReadyH.cons rfl (fun K hK => ?_) AllReadyH.nil
    rw [if_pos (by rfl)]
    unfold Oper.wp
    go_simp
    obtain ⟨w5, hw5⟩ : ∃ w5, w4.alloc (.cells #[.int .u8 ty] 5) = w5 := ⟨_, rfl⟩
    have X45 : Hid (Ext w4 w5) := by unfold Hid; rw [← hw5]; exact inferInstance
    have X5 : Hid (Ext w3 w5) := Ext.trans_ X4.out X45.out
    have HO5 : Hid (w5.ownsRow w3.heap.size 5 1 (.slice (some ⟨w4.heap.size, 0, none⟩) 1 1) 1 (nums .u8 [ty])) := by unfold Hid; rw [← hw5]; exact own_box w4 _ _ rfl X4.out.out.size (nums .u8 [ty]) 1 1 rfl (by omega) _
    have HC5 : Hid (Cells w5 A5 (nums .u8 d)) := HC4.out.ext (h := X45.out)
    simp only [hw5]
    clear hHeld hw5
    refine hK.out _ _ (at_ext (h := X5.out) HP3.out) (fun hHeld => ?_)
    clear hK K
    try simp only [List.getElem_toArray, List.getElem_cons_succ, List.getElem_cons_zero, Act.put, List.setIfInBounds_toArray, List.set_cons_zero, List.set_cons_succ]
    refine wpAnyH_ready (rs := [6]) (by kernel_rfl) (by simp) ?_
    refine AllReadyH.cons rfl (fun K hK => ?_) AllReadyH.nil
    refine step_append w3.heap.size rfl (.tmp 75) (.tmp 77) 22 5 (.int .u8 0) 1 1 rfl Try.underlying22 info_u8 rfl (by decide) (by decide) (.slice (some ⟨w4.heap.size, 0, none⟩) 1 1) 1 (nums .u8 [ty]) A5 m' k5 (nums .u8 d) rfl rfl (by rw [nums_length, HM.out, Nat.mul_one]) (nums_one _ _) HO5.out HC5.out X5.out.out.size (by have := HML.out; omega) ?_
    intro v6 w6 ho6 hg6 hat6
    obtain ⟨A6, c6, rfl, hc6⟩ := own_slice ho6
    have X6 : Hid (Ext w3 w6) := ⟨below_grown X5.out.out X5.out.out.size hg6 (own_base HO5.out)⟩
    have HO6 := Lib.hid ho6
    have HP6 : Hid (w6.heap[w.heap.size]? = some (.cells #[.int .i64 code, .int .i64 id, .int .i64 ty, .slice V n c, .string s] 52 (0, 0))) := at_ext (h := X6.out) HP3.out
    have HR6 : Hid (w6.heap[wb.heap.size]? = some (.cells #[.int .i64 code, .int .i64 id, .slice none 0 0] 24 (0, 0))) := at_ext (h := X6.out) HR3.out
    have HZ6 : Hid (w6.heap[w.heap.size + 1]? = some zPk) := at_ext (h := X6.out) HZ3.out
    clear ho6 hg6 hat6 hc6 hHeld
    refine hK.out _ _ HP6.out (fun hHeld => ?_)
    clear hK K
    try simp only [List.getElem_toArray, List.getElem_cons_succ, List.getElem_cons_zero, Act.put, List.setIfInBounds_toArray, List.set_cons_zero, List.set_cons_succ]
    refine wpAnyH_take (i := 7) (v := ?_) rfl (by kernel_rfl) (by kernel_rfl) (by kernel_rfl) (fun _ _ _ h => h) (Yields.yieldsIf (Or.inl ⟨by rfl, ?_⟩)) hHeld ?_
    rotate_left
    · intro W
      go_simp
      try with_reducible rfl
    simp only [List.getElem_toArray, List.getElem_cons_succ, List.getElem_cons_zero, Act.put, List.setIfInBounds_toArray, List.set_cons_zero, List.set_cons_succ]
    refine wpAnyH_ready (rs := [8]) (by kernel_rfl) (by simp) ?_
    refine AllReadyH.cons rfl (fun K hK => ?_) AllReadyH.nil
    have k6 : w6.cell? ⟨wb.heap.size, 2, none⟩ = some (.slice none 0 0) := at_cell HR6.out 2
    have f6 : w6.frozen? ⟨wb.heap.size, 2, none⟩ = false := at_frozen HR6.out 2
    rw [if_pos (by rfl)]
    unfold Oper.wp
    go_simp
    obtain ⟨w7, hw7⟩ : ∃ w7, w6.setCell ⟨wb.heap.size, 2, none⟩ (.slice A6 (1 + m') c6) = w7 := ⟨_, rfl⟩
    have HR7 : Hid (w7.heap[wb.heap.size]? = some (.cells #[.int .i64 code, .int .i64 id, .slice A6 (1 + m') c6] 24 (0, 0))) := by unfold Hid; rw [← hw7]; exact at_set HR6.out 2 _
    have HN6 : Hid ((Value.slice A6 (1 + m') c6).ownBlock ≠ some wb.heap.size) := own_type_ne HO6.out HR6.out (by decide)
    have HO7 : Hid (w7.ownsRow w3.heap.size 5 1 (.slice A6 (1 + m') c6) (1 + m') (nums .u8 [ty] ++ nums .u8 d)) := by unfold Hid; rw [← hw7]; exact own_setCell HO6.out (p := ⟨wb.heap.size, 2, none⟩) HN6.out _
    have XB6 : Hid (Ext wb w6) := Ext.trans_ (Ext.trans_ X2.out X3.out) X6.out
    have X7 : Hid (Ext wb w7) := by unfold Hid; rw [← hw7]; exact ⟨XB6.out.out.setCell (p := ⟨wb.heap.size, 2, none⟩) (Nat.le_refl _) _⟩
    have HP7 : Hid (w7.heap[w.heap.size]? = some (.cells #[.int .i64 code, .int .i64 id, .int .i64 ty, .slice V n c, .string s] 52 (0, 0))) := at_ext (h := X7.out) HP.out
    have HZ7 : Hid (w7.heap[w.heap.size + 1]? = some zPk) := at_ext (h := X7.out) HZ.out
    have XW7 : Hid (Ext w w7) := Ext.trans_ HW.out X7.out
    have k7 : w7.cell? ⟨wb.heap.size, 2, none⟩ = some (.slice A6 (1 + m') c6) := at_cell HR7.out 2
    simp only [hw7]
    clear hHeld hw7 k6 f6
    refine hK.out _ _ HP7.out (fun hHeld => ?_)
    clear hK K
    refine wpAnyH_done (by kernel_rfl) ?_ _
    clear hHeld
    by_cases lz : 16380 < 1 + m'
    · have HF : Hid (wrE code id ty v (strB s) = ((0, 0), [], 4)) := HFM.out _ (by rw [if_neg (by simp), if_pos (by omega)])
      have lzI : 16380 < 1 + (m' : Int) := by omega
      go_wp2_with
        (refine wpList_store_row rfl 24 (.tmp 2) (.tmp 84) rfl (w.heap.size + 1) #[.int .i64 0, .int .i64 0, .slice none 0 0] rfl rfl 24 #[.int .i64 0, .int .i64 0, .slice none 0 0] HZ7.out (by kernel_rfl) rfl (by simp [Value.oneCell']) ?_)
      refine bodyPost_ret (results_cell_row2 Try.results34 _ _ (w.heap.size + 1) 24 #[.int .i64 0, .int .i64 0, .slice none 0 0] (0, 0) _ (.int .i64 4) rfl rfl (setRow_heap _ _ _ _ _ _ HZ7.out) Try.underlying24 rfl (by kernel_rfl)) rfl ?_
      rw [HF.out]
      exact ⟨none, 0, rfl, own_nil _ _ _ _, (Ext.setRow_ XW7.out (by omega) _).out⟩
    · have HF : Hid (wrE code id ty v (strB s) = ((code, id), [ty] ++ d, 0)) := HFM.out _ (by rw [if_neg (by simp), if_neg (by omega)])
      have lzI : ¬ 16380 < 1 + (m' : Int) := by omega
      have HNE : Hid ((Value.slice A6 (1 + m') c6).ownBlock ≠ some (w.heap.size + 1)) := own_type_ne HO7.out HZ7.out (by decide)
      go_wp2_with
        (first
         | (refine wpList_load_row rfl 24 (.tmp 4) rfl wb.heap.size rfl 24 #[.int .i64 code, .int .i64 id, .slice A6 (1 + m') c6] (0, 0) _ HR7.out Try.underlying24 rfl (by kernel_rfl) ?_)
         | (refine wpList_store_row rfl 24 (.tmp 2) (.tmp 85) rfl (w.heap.size + 1) #[.int .i64 code, .int .i64 id, .slice A6 (1 + m') c6] rfl rfl 24 #[.int .i64 0, .int .i64 0, .slice none 0 0] HZ7.out (by kernel_rfl) rfl (by simp [Value.oneCell']) ?_))
      refine bodyPost_ret (results_cell_row2 Try.results34 _ _ (w.heap.size + 1) 24 #[.int .i64 code, .int .i64 id, .slice A6 (1 + m') c6] (0, 0) _ (.int .i64 0) rfl rfl (setRow_heap _ _ _ _ _ _ HZ7.out) Try.underlying24 rfl (by kernel_rfl)) rfl ?_
      rw [HF.out]
      have HLL : ([ty] ++ d).length = 1 + m' := by rw [List.length_append, HM.out]; rfl
      refine ⟨A6, c6, ?_, ?_, (Ext.setRow_ XW7.out (by omega) _).out⟩
      · simp only [HLL]
      · simp only [HLL, nums_append]
        exact own_weaken (own_setRow HO7.out HNE.out _) (Nat.le_trans HW.out.out.size (Nat.le_trans X2.out.out.size X3.out.out.size))
end Go.Proofs.Ytobddmpiljknpaa
