/-
  ref12: number, plain, part, Request, Answer. Conditions: sizes.
-/
import Derived.Test.YtodibldfolognaaPpB
import Derived.Deep.DeepCutAuto
namespace Go.Proofs.Ytodibldfolognaa
open Go.RowKit
set_option linter.unusedVariables false
set_option linter.unusedSimpArgs false

theorem number_no (id : Int) (h : id < 0 ∨ 255 < id) (w : World) : Calls Try.prog 105 #[.int .i64 id] w fun e w' => e = .returned (.bool false) ∧ w = w' := by
  by_cases h1 : id < 0
  · clear h
    go_enter Try.func105, Try.ntmps105
    go_wp2
    go_ret
    exact ⟨rfl, rfl⟩
  have h2 : 255 < id := by omega
  have h1' : 0 ≤ id := by omega
  have h2' : decide (id ≤ 255) = false := decide_eq_false (by omega)
  clear h1 h
  go_enter Try.func105, Try.ntmps105
  go_wp2
  go_ret
  exact ⟨rfl, rfl⟩
theorem number_yes (id : Int) (h : ¬ (id < 0 ∨ 255 < id)) (w : World) : Calls Try.prog 105 #[.int .i64 id] w fun e w' => e = .returned (.bool true) ∧ w = w' := by
  have h1' : 0 ≤ id := by omega
  have h2' : decide (id ≤ 255) = true := decide_eq_true (by omega)
  clear h
  go_enter Try.func105, Try.ntmps105
  go_wp2
  go_ret
  exact ⟨rfl, rfl⟩
set_option maxHeartbeats 2000000 in
theorem rplain_any (s : ByteArray) (hs : s.size ≤ 140737488355328) (w : World) : Calls Try.prog 108 #[.string s] w fun e w' => e = .returned (.bool (plainF (strB s))) ∧ w = w' := by
  have HL := Lib.hid (strB_len s)
  have HB := Lib.hid (strB_byt s)
  go_enter Try.func108, Try.ntmps108
  go_wp2
  go_loopw [6] (fun i wr => ∃ k : Nat, i = .int .i64 k ∧ k ≤ s.size ∧ Hid (((strB s).take k).all okP = true) ∧ w = wr) (fun i _ => s.size - (intOf i).toNat)
  case atStart => exact ⟨0, rfl, by omega, rfl, rfl⟩
  case round =>
    obtain ⟨k, rfl, hk, HA, rfl⟩ := hrel
    by_cases hlt : k < s.size
    · have hI : (k : Int) < (s.size : Int) := by omega
      have HLT := Lib.hid (show k < (strB s).length by rw [HL.out]; exact hlt)
      have HX : Hid ((strB s).getD k 0 = ((s[k]'hlt).toNat : Int)) := by
        unfold Hid strB
        rw [List.getD_eq_getElem?_getD, List.getElem?_map]
        have h2 : k < s.data.toList.length := by rw [Array.length_toList]; exact hlt
        rw [List.getElem?_eq_getElem h2]
        rfl
      by_cases p1 : ((s[k]'hlt).toNat : Int) < 32
      · have HF : Hid (plainF (strB s) = false) := all_not HLT.out (by rw [HX.out]; unfold okP; exact decide_eq_false (by omega))
        go_wp2
        go_ret
        exact ⟨ret_bool HF.out.symm, rfl⟩
      by_cases p2 : 126 < ((s[k]'hlt).toNat : Int)
      · have HF : Hid (plainF (strB s) = false) := all_not HLT.out (by rw [HX.out]; unfold okP; exact decide_eq_false (by omega))
        go_wp2
        go_ret
        exact ⟨ret_bool HF.out.symm, rfl⟩
      have HA2 := Lib.hid (all_take_succ HA.out HLT.out (by rw [HX.out]; unfold okP; exact decide_eq_true (by omega)))
      go_wp2
      go_roundw
      case rel => exact ⟨k + 1, by go_num, by omega, HA2.out, trivial⟩
      case measure => simp [intOf]; omega
    · obtain rfl : k = s.size := by omega
      have HF : Hid (plainF (strB s) = true) := by
        have h1 := HA.out
        rw [List.take_of_length_le (by rw [HL.out]; exact Nat.le_refl _)] at h1
        exact h1
      go_wp2
      go_ret
      exact ⟨ret_bool HF.out.symm, rfl⟩
set_option maxRecDepth 100000 in
theorem rpart_any (w0 : World) (base : Nat) (A : Option Addr) (n c : Nat) (xs : List Int) (s : ByteArray) (hn : n ≤ 1000000) (hs : s.size ≤ 255) (w : World) (ho : w.ownsRow base 5 1 (.slice A n c) n (nums .u8 xs)) (hB : Below base w0 w) (hbase : base ≤ w.heap.size) :
    Calls Try.prog 106 #[.slice A n c, .string s] w fun e w' => ∃ A' c', e = .returned (.slice A' (n + 1 + s.size) c') ∧ w'.ownsRow base 5 1 (.slice A' (n + 1 + s.size) c') (n + 1 + s.size) (nums .u8 (xs ++ [(s.size : Int)] ++ strB s)) ∧ Below base w0 w' := by
  have hwn : IntKind.u8.wrap (s.size : Int) = s.size := wraps_u8 _ (by omega) (by omega)
  have HO := Lib.hid ho
  have HB := Lib.hid hB
  clear ho hB
  go_enter Try.func106, Try.ntmps106
  go_wp2_with
    (first
     | (at_builtin
        refine wp_append_box (w0 := w0) base rfl (.tmp 5) (.tmp 9) 41 5 (.int .u8 0) 1 1 1 rfl Try.underlying41 info_u8 rfl (by decide) (by decide) (.slice A n c) n (nums .u8 xs) [.int .u8 (s.size : Int)] rfl rfl rfl (one_int _ _) HO.out HB.out hbase (by omega) ?_
        intro v4 w4 ho4 hb4 hg4 hat4
        obtain ⟨A4, c4, rfl, hc4⟩ := own_slice ho4
        have HO4 := Lib.hid ho4
        have HB4 := Lib.hid hb4
        have HZ4 : Hid (base ≤ w4.heap.size) := Nat.le_trans hbase hg4.size
        clear ho4 hb4 hg4 hat4)
     | (at_builtin
        refine wp_append_str (w0 := w0) base rfl (.tmp 11) (.tmp 12) 41 9 5 rfl Try.underlying41 Try.underlying9 info_u8 (.slice A4 (n + 1) c4) (n + 1) _ s rfl rfl HO4.out HB4.out HZ4.out (by omega) ?_
        intro v5 w5 ho5 hb5 hg5
        obtain ⟨A5, c5, rfl, hc5⟩ := own_slice ho5
        have HO5 := Lib.hid ho5
        have HB5 := Lib.hid hb5
        clear ho5 hb5 hg5))
  go_ret
  exact ⟨A5, c5, rfl, by rw [nums_append, nums_append]; exact HO5.out, HB5.out⟩
set_option maxRecDepth 100000 in
set_option maxHeartbeats 4000000 in
theorem rrequest_any (id : Int) (s t : ByteArray) (w : World) :
    Calls Try.prog 59 #[.int .i64 id, .string s, .string t] w (ReplyTells (reqF id (strB s) (strB t)) w) := by
  have HL := Lib.hid (strB_len s)
  have HM := Lib.hid (strB_len t)
  have HZ : Hid ((w.alloc zPk).heap[w.heap.size]? = some zPk) := at_new w _
  by_cases h1 : id < 0 ∨ 255 < id
  · have HR : Hid (reqF id (strB s) (strB t) = ((0, 0), [], 1)) := if_pos h1
    have HD := Lib.hid h1
    clear h1
    go_enter Try.func59, Try.ntmps59
    go_wp2_with fail
    refine (number_no id HD.out _).mono ?_
    rintro e w1 ⟨rfl, rfl⟩
    go_wp2_with
      (refine wpList_store_row rfl 43 (.tmp 6) (.tmp 11) rfl w.heap.size #[.int .i64 0, .int .i64 0, .slice none 0 0] rfl rfl 43 #[.int .i64 0, .int .i64 0, .slice none 0 0] HZ.out (by kernel_rfl) rfl (by simp [Value.oneCell']) ?_)
    refine bodyPost_ret (results_cell_row2 Try.results59 _ _ w.heap.size 43 #[.int .i64 0, .int .i64 0, .slice none 0 0] (0, 0) _ (.int .i64 1) rfl rfl (setRow_heap _ _ _ _ _ _ HZ.out) Try.underlying43 rfl (by kernel_rfl)) rfl ?_
    rw [HR.out]
    exact ⟨none, 0, rfl, own_nil _ _ _ _, (Ext.setRow_ (inferInstance : Ext w (w.alloc zPk)) (Nat.le_refl _) _).out⟩
  have HD := Lib.hid h1
  by_cases h2 : 255 < s.size
  · have HR : Hid (reqF id (strB s) (strB t) = ((0, 0), [], 4)) := by unfold Hid reqF; rw [if_neg h1, if_pos (.inl (by rw [HL.out]; exact h2))]
    have h2I : 255 < (s.size : Int) := by omega
    clear h1
    go_enter Try.func59, Try.ntmps59
    go_wp2_with fail
    refine (number_yes id HD.out _).mono ?_
    rintro e w1 ⟨rfl, rfl⟩
    go_wp2_with
      (refine wpList_store_row rfl 43 (.tmp 6) (.tmp 20) rfl w.heap.size #[.int .i64 0, .int .i64 0, .slice none 0 0] rfl rfl 43 #[.int .i64 0, .int .i64 0, .slice none 0 0] HZ.out (by kernel_rfl) rfl (by simp [Value.oneCell']) ?_)
    refine bodyPost_ret (results_cell_row2 Try.results59 _ _ w.heap.size 43 #[.int .i64 0, .int .i64 0, .slice none 0 0] (0, 0) _ (.int .i64 4) rfl rfl (setRow_heap _ _ _ _ _ _ HZ.out) Try.underlying43 rfl (by kernel_rfl)) rfl ?_
    rw [HR.out]
    exact ⟨none, 0, rfl, own_nil _ _ _ _, (Ext.setRow_ (inferInstance : Ext w (w.alloc zPk)) (Nat.le_refl _) _).out⟩
  have h2I : ¬ 255 < (s.size : Int) := by omega
  by_cases h3 : 255 < t.size
  · have HR : Hid (reqF id (strB s) (strB t) = ((0, 0), [], 4)) := by unfold Hid reqF; rw [if_neg h1, if_pos (.inr (by rw [HM.out]; exact h3))]
    have h3I : 255 < (t.size : Int) := by omega
    clear h1
    go_enter Try.func59, Try.ntmps59
    go_wp2_with fail
    refine (number_yes id HD.out _).mono ?_
    rintro e w1 ⟨rfl, rfl⟩
    go_wp2_with
      (refine wpList_store_row rfl 43 (.tmp 6) (.tmp 20) rfl w.heap.size #[.int .i64 0, .int .i64 0, .slice none 0 0] rfl rfl 43 #[.int .i64 0, .int .i64 0, .slice none 0 0] HZ.out (by kernel_rfl) rfl (by simp [Value.oneCell']) ?_)
    refine bodyPost_ret (results_cell_row2 Try.results59 _ _ w.heap.size 43 #[.int .i64 0, .int .i64 0, .slice none 0 0] (0, 0) _ (.int .i64 4) rfl rfl (setRow_heap _ _ _ _ _ _ HZ.out) Try.underlying43 rfl (by kernel_rfl)) rfl ?_
    rw [HR.out]
    exact ⟨none, 0, rfl, own_nil _ _ _ _, (Ext.setRow_ (inferInstance : Ext w (w.alloc zPk)) (Nat.le_refl _) _).out⟩
  have h3I : ¬ 255 < (t.size : Int) := by omega
  have HR : Hid (reqF id (strB s) (strB t) = ((1, id), ([(s.size : Int)] ++ strB s) ++ [(t.size : Int)] ++ strB t, 0)) := by
    unfold Hid reqF
    rw [if_neg h1, if_neg (by rw [HL.out, HM.out]; omega), HL.out, HM.out]
  have HLL : Hid ((([(s.size : Int)] ++ strB s) ++ [(t.size : Int)] ++ strB t).length = 0 + 1 + s.size + 1 + t.size) := by
    unfold Hid
    simp only [List.length_append, HL.out, HM.out, List.length_cons, List.length_nil]
  clear h1
  go_enter Try.func59, Try.ntmps59
  go_wp2_with fail
  obtain ⟨wb, hwb⟩ : ∃ wb, w.alloc zPk = wb := ⟨_, rfl⟩
  have HZ2 : Hid (wb.heap[w.heap.size]? = some zPk) := by unfold Hid; rw [← hwb]; exact at_new w _
  have HWB : Hid (Ext w wb) := by unfold Hid; rw [← hwb]; exact inferInstance
  have HW2 : Hid (w.heap.size < wb.heap.size) := at_lt HZ2.out
  rw [hwb]
  clear hwb
  refine (number_yes id HD.out _).mono ?_
  rintro e w1 ⟨rfl, rfl⟩
  go_wp2_with fail
  refine (rpart_any wb wb.heap.size none 0 0 [] s (by omega) (by omega) _ (own_nil _ _ _ _) (Below.refl _ _) (Nat.le_refl _)).mono ?_
  rintro e w3 ⟨A3, c3, rfl, ho3, hb3⟩
  have HO3 := Lib.hid ho3
  have HB3 := Lib.hid hb3
  clear ho3 hb3
  go_wp2_with fail
  refine (rpart_any wb wb.heap.size A3 (0 + 1 + s.size) c3 _ t (by omega) (by omega) _ HO3.out HB3.out HB3.out.size).mono ?_
  rintro e w4 ⟨A4, c4, rfl, ho4, hb4⟩
  have HO4 := Lib.hid ho4
  have X4 : Ext wb w4 := ⟨hb4⟩
  have HZ4 : Hid (w4.heap[w.heap.size]? = some zPk) := at_ext (h := X4) HZ2.out
  have HNE : Hid ((Value.slice A4 (0 + 1 + s.size + 1 + t.size) c4).ownBlock ≠ some w.heap.size) := by
    intro e
    have h1 := own_base HO4.out _ e
    have h2 := HW2.out
    omega
  clear ho4 hb4
  go_wp2_with
    (refine wpList_store_row rfl 43 (.tmp 6) (.tmp 26) rfl w.heap.size #[.int .i64 1, .int .i64 id, .slice A4 (0 + 1 + s.size + 1 + t.size) c4] rfl rfl 43 #[.int .i64 0, .int .i64 0, .slice none 0 0] HZ4.out (by kernel_rfl) rfl (by simp [Value.oneCell']) ?_)
  refine bodyPost_ret (results_cell_row2 Try.results59 _ _ w.heap.size 43 #[.int .i64 1, .int .i64 id, .slice A4 (0 + 1 + s.size + 1 + t.size) c4] (0, 0) _ (.int .i64 0) rfl rfl (setRow_heap _ _ _ _ _ _ HZ4.out) Try.underlying43 rfl (by kernel_rfl)) rfl ?_
  rw [HR.out]
  refine ⟨A4, c4, ?_, ?_, (Ext.setRow_ (Ext.trans_ HWB.out X4) (Nat.le_refl _) _).out⟩
  · simp only [HLL.out]
  · simp only [HLL.out]
    exact own_weaken (own_setRow HO4.out HNE.out _) (Nat.le_of_lt HW2.out)
set_option maxRecDepth 100000 in
set_option maxHeartbeats 4000000 in
theorem ranswer_any (id : Int) (ok : Bool) (s : ByteArray) (hs : s.size ≤ 140737488355328) (w : World) :
    Calls Try.prog 61 #[.int .i64 id, .bool ok, .string s] w (ReplyTells (ansF id ok (strB s)) w) := by
  have HL := Lib.hid (strB_len s)
  have HZ : Hid ((w.alloc zPk).heap[w.heap.size]? = some zPk) := at_new w _
  by_cases h1 : id < 0 ∨ 255 < id
  · have HR : Hid (ansF id ok (strB s) = ((0, 0), [], 1)) := if_pos h1
    have HD := Lib.hid h1
    clear h1
    go_enter Try.func61, Try.ntmps61
    go_wp2_with fail
    refine (number_no id HD.out _).mono ?_
    rintro e w1 ⟨rfl, rfl⟩
    go_wp2_with
      (refine wpList_store_row rfl 43 (.tmp 6) (.tmp 13) rfl w.heap.size #[.int .i64 0, .int .i64 0, .slice none 0 0] rfl rfl 43 #[.int .i64 0, .int .i64 0, .slice none 0 0] HZ.out (by kernel_rfl) rfl (by simp [Value.oneCell']) ?_)
    refine bodyPost_ret (results_cell_row2 Try.results61 _ _ w.heap.size 43 #[.int .i64 0, .int .i64 0, .slice none 0 0] (0, 0) _ (.int .i64 1) rfl rfl (setRow_heap _ _ _ _ _ _ HZ.out) Try.underlying43 rfl (by kernel_rfl)) rfl ?_
    rw [HR.out]
    exact ⟨none, 0, rfl, own_nil _ _ _ _, (Ext.setRow_ (inferInstance : Ext w (w.alloc zPk)) (Nat.le_refl _) _).out⟩
  have HD := Lib.hid h1
  by_cases h2 : 255 < s.size
  · have HR : Hid (ansF id ok (strB s) = ((0, 0), [], 4)) := by unfold Hid ansF; rw [if_neg h1, if_pos (by rw [HL.out]; exact h2)]
    have h2I : 255 < (s.size : Int) := by omega
    clear h1
    go_enter Try.func61, Try.ntmps61
    go_wp2_with fail
    refine (number_yes id HD.out _).mono ?_
    rintro e w1 ⟨rfl, rfl⟩
    go_wp2_with
      (refine wpList_store_row rfl 43 (.tmp 6) (.tmp 18) rfl w.heap.size #[.int .i64 0, .int .i64 0, .slice none 0 0] rfl rfl 43 #[.int .i64 0, .int .i64 0, .slice none 0 0] HZ.out (by kernel_rfl) rfl (by simp [Value.oneCell']) ?_)
    refine bodyPost_ret (results_cell_row2 Try.results61 _ _ w.heap.size 43 #[.int .i64 0, .int .i64 0, .slice none 0 0] (0, 0) _ (.int .i64 4) rfl rfl (setRow_heap _ _ _ _ _ _ HZ.out) Try.underlying43 rfl (by kernel_rfl)) rfl ?_
    rw [HR.out]
    exact ⟨none, 0, rfl, own_nil _ _ _ _, (Ext.setRow_ (inferInstance : Ext w (w.alloc zPk)) (Nat.le_refl _) _).out⟩
  have h2I : ¬ 255 < (s.size : Int) := by omega
  rcases hp : plainF (strB s) with _ | _
  · have HR : Hid (ansF id ok (strB s) = ((0, 0), [], 3)) := by unfold Hid ansF; rw [if_neg h1, if_neg (by rw [HL.out]; exact h2), if_pos hp]
    have HP := Lib.hid hp
    clear h1 hp
    go_enter Try.func61, Try.ntmps61
    go_wp2_with fail
    refine (number_yes id HD.out _).mono ?_
    rintro e w1 ⟨rfl, rfl⟩
    go_wp2_with fail
    refine (rplain_any s hs _).mono ?_
    rintro e w2 ⟨rfl, rfl⟩
    rw [HP.out]
    go_wp2_with
      (refine wpList_store_row rfl 43 (.tmp 6) (.tmp 23) rfl w.heap.size #[.int .i64 0, .int .i64 0, .slice none 0 0] rfl rfl 43 #[.int .i64 0, .int .i64 0, .slice none 0 0] HZ.out (by kernel_rfl) rfl (by simp [Value.oneCell']) ?_)
    refine bodyPost_ret (results_cell_row2 Try.results61 _ _ w.heap.size 43 #[.int .i64 0, .int .i64 0, .slice none 0 0] (0, 0) _ (.int .i64 3) rfl rfl (setRow_heap _ _ _ _ _ _ HZ.out) Try.underlying43 rfl (by kernel_rfl)) rfl ?_
    rw [HR.out]
    exact ⟨none, 0, rfl, own_nil _ _ _ _, (Ext.setRow_ (inferInstance : Ext w (w.alloc zPk)) (Nat.le_refl _) _).out⟩
  · have HR : Hid (ansF id ok (strB s) = (((if ok then 2 else 3), id), [(s.size : Int)] ++ strB s, 0)) := by unfold Hid ansF; rw [if_neg h1, if_neg (by rw [HL.out]; exact h2), if_neg (by simp [hp]), HL.out]
    have HP := Lib.hid hp
    have HLL : Hid (([(s.size : Int)] ++ strB s).length = 1 + s.size) := by unfold Hid; rw [List.length_append, HL.out]; rfl
    clear h1 hp
    go_enter Try.func61, Try.ntmps61
    go_wp2_with fail
    refine (number_yes id HD.out _).mono ?_
    rintro e w1 ⟨rfl, rfl⟩
    go_wp2_with fail
    refine (rplain_any s hs _).mono ?_
    rintro e w2 ⟨rfl, rfl⟩
    rw [HP.out]
    go_wp2_with fail
    obtain ⟨wb, hwb⟩ : ∃ wb, w.alloc zPk = wb := ⟨_, rfl⟩
    have HZ2 : Hid (wb.heap[w.heap.size]? = some zPk) := by unfold Hid; rw [← hwb]; exact at_new w _
    have HWB : Hid (Ext w wb) := by unfold Hid; rw [← hwb]; exact inferInstance
    have HW2 : Hid (w.heap.size < wb.heap.size) := at_lt HZ2.out
    rw [hwb]
    clear hwb
    refine (rpart_any wb wb.heap.size none 0 0 [] s (by omega) (by omega) _ (own_nil _ _ _ _) (Below.refl _ _) (Nat.le_refl _)).mono ?_
    rintro e w3 ⟨A3, c3, rfl, ho3, hb3⟩
    simp only [Nat.zero_add, List.nil_append] at ho3 ⊢
    have HO3 := Lib.hid ho3
    have HB3 := Lib.hid hb3
    clear ho3 hb3
    rcases ok with _ | _
    · skip
      have pn : ∀ o, (w3.alloc o).heap[w3.heap.size]? = some o := at_new w3
      go_upto_region 10 with
        (refine wpList_store_row_o rfl 43 (.tmp 8) (.tmp 27) rfl w3.heap.size #[.int .i64 3, .int .i64 id, .slice A3 (1 + s.size) c3] rfl rfl 43 #[.int .i64 0, .int .i64 0, .slice none 0 0] (pn _) (by kernel_rfl) rfl (by simp [Value.oneCell']) ?_
         intro w5 hr5 ho5 hz5 hb5
         have HR5 := Lib.hid hr5
         have H35 : Hid (Ext w3 w5) := ⟨hb5 _ _ (inferInstance : Ext w3 (w3.alloc _)).out (Nat.le_refl _)⟩
         have e0 : w5.cell? ⟨w3.heap.size, 0, none⟩ = some (.int .i64 3) := at_cell hr5 0
         have e1 : w5.frozen? ⟨w3.heap.size, 0, none⟩ = false := at_frozen hr5 0
         clear hr5 ho5 hz5 hb5 pn)
      obtain ⟨w6, hw6⟩ : ∃ w6, w5 = w6 := ⟨_, rfl⟩
      have HR6 : Hid (w6.heap[w3.heap.size]? = some (.cells #[.int .i64 3, .int .i64 id, .slice A3 (1 + s.size) c3] 43 (0, 0))) := by unfold Hid; rw [← hw6]; exact HR5.out
      have H36 : Hid (Ext w3 w6) := by unfold Hid; rw [← hw6]; exact H35.out
      have X6 : Ext wb w6 := Ext.trans_ ⟨HB3.out⟩ H36.out
      have HZ6 : Hid (w6.heap[w.heap.size]? = some zPk) := at_ext (h := X6) HZ2.out
      have HNE : Hid ((Value.slice A3 (1 + s.size) c3).ownBlock ≠ some w.heap.size) := by
        intro e
        have h1 := own_base HO3.out _ e
        have h2 := HW2.out
        omega
      try rw [hw6]
      clear hw6 e0 e1
      go_wp2_with
        (first
         | (refine wpList_load_row rfl 43 (.tmp 8) rfl w3.heap.size rfl 43 #[.int .i64 3, .int .i64 id, .slice A3 (1 + s.size) c3] (0, 0) _ HR6.out Try.underlying43 rfl (by kernel_rfl) ?_)
         | (refine wpList_store_row rfl 43 (.tmp 6) (.tmp 30) rfl w.heap.size #[.int .i64 3, .int .i64 id, .slice A3 (1 + s.size) c3] rfl rfl 43 #[.int .i64 0, .int .i64 0, .slice none 0 0] HZ6.out (by kernel_rfl) rfl (by simp [Value.oneCell']) ?_))
      refine bodyPost_ret (results_cell_row2 Try.results61 _ _ w.heap.size 43 #[.int .i64 3, .int .i64 id, .slice A3 (1 + s.size) c3] (0, 0) _ (.int .i64 0) rfl rfl (setRow_heap _ _ _ _ _ _ HZ6.out) Try.underlying43 rfl (by kernel_rfl)) rfl ?_
      rw [HR.out]
      have HO6 := own_ext (h := H36.out) HO3.out
      refine ⟨A3, c3, ?_, ?_, (Ext.setRow_ (Ext.trans_ HWB.out X6) (Nat.le_refl _) _).out⟩
      · simp only [HLL.out]
        rfl
      · simp only [HLL.out]
        exact own_weaken (own_setRow HO6 HNE.out _) (Nat.le_of_lt HW2.out)
    · skip
      have pn : ∀ o, (w3.alloc o).heap[w3.heap.size]? = some o := at_new w3
      go_upto_region 10 with
        (refine wpList_store_row_o rfl 43 (.tmp 8) (.tmp 27) rfl w3.heap.size #[.int .i64 3, .int .i64 id, .slice A3 (1 + s.size) c3] rfl rfl 43 #[.int .i64 0, .int .i64 0, .slice none 0 0] (pn _) (by kernel_rfl) rfl (by simp [Value.oneCell']) ?_
         intro w5 hr5 ho5 hz5 hb5
         have HR5 := Lib.hid hr5
         have H35 : Hid (Ext w3 w5) := ⟨hb5 _ _ (inferInstance : Ext w3 (w3.alloc _)).out (Nat.le_refl _)⟩
         have e0 : w5.cell? ⟨w3.heap.size, 0, none⟩ = some (.int .i64 3) := at_cell hr5 0
         have e1 : w5.frozen? ⟨w3.heap.size, 0, none⟩ = false := at_frozen hr5 0
         clear hr5 ho5 hz5 hb5 pn)
      obtain ⟨w6, hw6⟩ : ∃ w6, w5.setCell ⟨w3.heap.size, 0, none⟩ (.int .i64 2) = w6 := ⟨_, rfl⟩
      have HR6 : Hid (w6.heap[w3.heap.size]? = some (.cells #[.int .i64 2, .int .i64 id, .slice A3 (1 + s.size) c3] 43 (0, 0))) := by unfold Hid; rw [← hw6]; exact at_set HR5.out 0 _
      have H36 : Hid (Ext w3 w6) := by unfold Hid; rw [← hw6]; exact ⟨H35.out.out.setCell (p := ⟨w3.heap.size, 0, none⟩) (Nat.le_refl _) _⟩
      have X6 : Ext wb w6 := Ext.trans_ ⟨HB3.out⟩ H36.out
      have HZ6 : Hid (w6.heap[w.heap.size]? = some zPk) := at_ext (h := X6) HZ2.out
      have HNE : Hid ((Value.slice A3 (1 + s.size) c3).ownBlock ≠ some w.heap.size) := by
        intro e
        have h1 := own_base HO3.out _ e
        have h2 := HW2.out
        omega
      try rw [hw6]
      clear hw6 e0 e1
      go_wp2_with
        (first
         | (refine wpList_load_row rfl 43 (.tmp 8) rfl w3.heap.size rfl 43 #[.int .i64 2, .int .i64 id, .slice A3 (1 + s.size) c3] (0, 0) _ HR6.out Try.underlying43 rfl (by kernel_rfl) ?_)
         | (refine wpList_store_row rfl 43 (.tmp 6) (.tmp 30) rfl w.heap.size #[.int .i64 2, .int .i64 id, .slice A3 (1 + s.size) c3] rfl rfl 43 #[.int .i64 0, .int .i64 0, .slice none 0 0] HZ6.out (by kernel_rfl) rfl (by simp [Value.oneCell']) ?_))
      refine bodyPost_ret (results_cell_row2 Try.results61 _ _ w.heap.size 43 #[.int .i64 2, .int .i64 id, .slice A3 (1 + s.size) c3] (0, 0) _ (.int .i64 0) rfl rfl (setRow_heap _ _ _ _ _ _ HZ6.out) Try.underlying43 rfl (by kernel_rfl)) rfl ?_
      rw [HR.out]
      have HO6 := own_ext (h := H36.out) HO3.out
      refine ⟨A3, c3, ?_, ?_, (Ext.setRow_ (Ext.trans_ HWB.out X6) (Nat.le_refl _) _).out⟩
      · simp only [HLL.out]
        rfl
      · simp only [HLL.out]
        exact own_weaken (own_setRow HO6 HNE.out _) (Nat.le_of_lt HW2.out)
end Go.Proofs.Ytodibldfolognaa
