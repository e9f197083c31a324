/-
  pap.Request, pap.Answer. No condition beyond the texts' sizes.
-/
import Derived.Test.YtodibldfolognaaPpA
namespace Go.Proofs.Ytodibldfolognaa
open Go.RowKit
set_option linter.unusedVariables false
set_option linter.unusedSimpArgs false

def reqF (id : Int) (n m : List Int) : (Int × Int) × List Int × Int :=
  if id < 0 ∨ 255 < id then ((0, 0), [], 1) else if 255 < n.length ∨ 255 < m.length then ((0, 0), [], 4) else ((1, id), ([(n.length : Int)] ++ n) ++ [(m.length : Int)] ++ m, 0)
def ansF (id : Int) (ok : Bool) (m : List Int) : (Int × Int) × List Int × Int :=
  if id < 0 ∨ 255 < id then ((0, 0), [], 1) else if 255 < m.length then ((0, 0), [], 4) else if plainF m = false then ((0, 0), [], 3) else (((if ok then 2 else 3), id), [(m.length : Int)] ++ m, 0)
theorem isByte_no (id : Int) (h : id < 0 ∨ 255 < id) (w : World) : Calls Try.prog 104 #[.int .i64 id] w fun e w' => e = .returned (.bool false) ∧ w = w' := by
  by_cases h1 : id < 0
  · clear h
    go_enter Try.func104, Try.ntmps104
    go_wp2
    go_ret
    exact ⟨rfl, rfl⟩
  have h2 : 255 < id := by omega
  have h1' : 0 ≤ id := by omega
  have h2' : decide (id ≤ 255) = false := decide_eq_false (by omega)
  clear h1 h
  go_enter Try.func104, Try.ntmps104
  go_wp2
  go_ret
  exact ⟨rfl, rfl⟩
theorem isByte_yes (id : Int) (h : ¬ (id < 0 ∨ 255 < id)) (w : World) : Calls Try.prog 104 #[.int .i64 id] w fun e w' => e = .returned (.bool true) ∧ w = w' := by
  have h1' : 0 ≤ id := by omega
  have h2' : decide (id ≤ 255) = true := decide_eq_true (by omega)
  clear h
  go_enter Try.func104, Try.ntmps104
  go_wp2
  go_ret
  exact ⟨rfl, rfl⟩
set_option maxRecDepth 100000 in
set_option maxHeartbeats 4000000 in
theorem answer_any (id : Int) (ok : Bool) (s : ByteArray) (hs : s.size ≤ 140737488355328) (w : World) :
    Calls Try.prog 60 #[.int .i64 id, .bool ok, .string s] w (ReplyTells (ansF id ok (strB s)) w) := by
  have HL := Lib.hid (strB_len s)
  have HZ : Hid ((w.alloc zPk).heap[w.heap.size]? = some zPk) := at_new w _
  by_cases h1 : id < 0 ∨ 255 < id
  · have HR : Hid (ansF id ok (strB s) = ((0, 0), [], 1)) := if_pos h1
    have HD := Lib.hid h1
    clear h1
    go_enter Try.func60, Try.ntmps60
    go_wp2_with fail
    refine (isByte_no id HD.out _).mono ?_
    rintro e w1 ⟨rfl, rfl⟩
    go_wp2
    refine bodyPost_ret (results_cell_row2 Try.results60 _ _ w.heap.size 43 #[.int .i64 0, .int .i64 0, .slice none 0 0] (0, 0) _ (.int .i64 1) rfl rfl (at_ext (at_new w zPk)) Try.underlying43 rfl (by kernel_rfl)) rfl ?_
    rw [HR.out]
    exact ⟨none, 0, rfl, own_nil _ _ _ _, Ext.out⟩
  have HD := Lib.hid h1
  by_cases h2 : 255 < s.size
  · have HR : Hid (ansF id ok (strB s) = ((0, 0), [], 4)) := by unfold Hid ansF; rw [if_neg h1, if_pos (by rw [HL.out]; exact h2)]
    have h2I : 255 < (s.size : Int) := by omega
    clear h1
    go_enter Try.func60, Try.ntmps60
    go_wp2_with fail
    refine (isByte_yes id HD.out _).mono ?_
    rintro e w1 ⟨rfl, rfl⟩
    go_wp2
    refine bodyPost_ret (results_cell_row2 Try.results60 _ _ w.heap.size 43 #[.int .i64 0, .int .i64 0, .slice none 0 0] (0, 0) _ (.int .i64 4) rfl rfl (at_ext (at_new w zPk)) Try.underlying43 rfl (by kernel_rfl)) rfl ?_
    rw [HR.out]
    exact ⟨none, 0, rfl, own_nil _ _ _ _, Ext.out⟩
  have h2I : ¬ 255 < (s.size : Int) := by omega
  rcases hp : plainF (strB s) with _ | _
  · have HR : Hid (ansF id ok (strB s) = ((0, 0), [], 3)) := by unfold Hid ansF; rw [if_neg h1, if_neg (by rw [HL.out]; exact h2), if_pos hp]
    have HP := Lib.hid hp
    clear h1 hp
    go_enter Try.func60, Try.ntmps60
    go_wp2_with fail
    refine (isByte_yes id HD.out _).mono ?_
    rintro e w1 ⟨rfl, rfl⟩
    go_wp2_with fail
    refine (plain_any12 s hs _).mono ?_
    rintro e w2 ⟨rfl, hb2⟩
    have S2 : Step w2 _ := ⟨hb2⟩
    have HZ2 : Hid (w2.heap[w.heap.size]? = some zPk) := at_ext HZ.out
    rw [HP.out]
    clear hb2
    go_wp2_with
      (refine wpList_store_row rfl 43 (.tmp 6) (.tmp 23) rfl w.heap.size #[.int .i64 0, .int .i64 0, .slice none 0 0] rfl rfl 43 #[.int .i64 0, .int .i64 0, .slice none 0 0] HZ2.out (by kernel_rfl) rfl (by simp [Value.oneCell']) ?_)
    refine bodyPost_ret (results_cell_row2 Try.results60 _ _ w.heap.size 43 #[.int .i64 0, .int .i64 0, .slice none 0 0] (0, 0) _ (.int .i64 3) rfl rfl (setRow_heap _ _ _ _ _ _ HZ2.out) Try.underlying43 rfl (by kernel_rfl)) rfl ?_
    rw [HR.out]
    exact ⟨none, 0, rfl, own_nil _ _ _ _, (Ext.setRow_ (inferInstance : Ext w w2) (Nat.le_refl _) _).out⟩
  · have HR : Hid (ansF id ok (strB s) = (((if ok then 2 else 3), id), [(s.size : Int)] ++ strB s, 0)) := by unfold Hid ansF; rw [if_neg h1, if_neg (by rw [HL.out]; exact h2), if_neg (by simp [hp]), HL.out]
    have HP := Lib.hid hp
    have hwn : IntKind.u8.wrap (s.size : Int) = s.size := wraps_u8 _ (by omega) (by omega)
    clear h1 hp
    go_enter Try.func60, Try.ntmps60
    go_wp2_with fail
    refine (isByte_yes id HD.out _).mono ?_
    rintro e w1 ⟨rfl, rfl⟩
    go_wp2_with fail
    refine (plain_any12 s hs _).mono ?_
    rintro e w2 ⟨rfl, hb2⟩
    have S2 : Step w2 _ := ⟨hb2⟩
    rw [HP.out]
    clear hb2
    have HZ2 : Hid (w2.heap[w.heap.size]? = some zPk) := at_ext HZ.out
    have HLL : Hid (([(s.size : Int)] ++ strB s).length = 1 + s.size) := by unfold Hid; rw [List.length_append, HL.out]; rfl
    have HW2 : Hid (w.heap.size < w2.heap.size) := at_lt HZ2.out
    rcases ok with _ | _
    · skip
      go_wp2_with
        (first
         | (at_builtin
            refine wp_append_str (w0 := w2) w2.heap.size rfl (.tmp 30) (.tmp 31) 41 9 5 rfl Try.underlying41 Try.underlying9 info_u8 (.slice (some ⟨w2.heap.size, 0, none⟩) 1 1) 1 (nums .u8 [(s.size : Int)]) s rfl rfl (own_box w2 _ _ rfl (Nat.le_refl _) (nums .u8 [(s.size : Int)]) 1 1 rfl (by omega) _) Ext.out size_ext (by omega) ?_
            intro v3 w3 ho3 hb3 hg3
            obtain ⟨A3, c3, rfl, hc3⟩ := own_slice ho3
            have HO3 := Lib.hid ho3
            have HX3 : Hid (Ext w2 w3) := ⟨hb3⟩
            have HZ3 : Hid (w3.heap[w.heap.size]? = some zPk) := at_ext (h := HX3.out) HZ2.out
            have HNE : Hid ((Value.slice A3 (1 + s.size) c3).ownBlock ≠ some w.heap.size) := by
              intro e
              have h1 := own_base HO3.out _ e
              have h2 := HW2.out
              omega
            clear ho3 hb3 hg3)
         | (refine wpList_store_row rfl 43 (.tmp 6) (.tmp 33) rfl w.heap.size #[.int .i64 3, .int .i64 id, .slice A3 (1 + s.size) c3] rfl rfl 43 #[.int .i64 0, .int .i64 0, .slice none 0 0] HZ3.out (by kernel_rfl) rfl (by simp [Value.oneCell']) ?_))
      refine bodyPost_ret (results_cell_row2 Try.results60 _ _ w.heap.size 43 #[.int .i64 3, .int .i64 id, .slice A3 (1 + s.size) c3] (0, 0) _ (.int .i64 0) rfl rfl (setRow_heap _ _ _ _ _ _ HZ3.out) Try.underlying43 rfl (by kernel_rfl)) rfl ?_
      rw [HR.out]
      refine ⟨A3, c3, ?_, ?_, (Ext.setRow_ (Ext.trans_ (inferInstance : Ext w w2) HX3.out) (Nat.le_refl _) _).out⟩
      · simp only [HLL.out]
        rfl
      · simp only [HLL.out, nums_append]
        exact own_weaken (own_setRow HO3.out HNE.out _) (Nat.le_of_lt HW2.out)
    · skip
      go_wp2_with
        (first
         | (at_builtin
            refine wp_append_str (w0 := w2) w2.heap.size rfl (.tmp 30) (.tmp 31) 41 9 5 rfl Try.underlying41 Try.underlying9 info_u8 (.slice (some ⟨w2.heap.size, 0, none⟩) 1 1) 1 (nums .u8 [(s.size : Int)]) s rfl rfl (own_box w2 _ _ rfl (Nat.le_refl _) (nums .u8 [(s.size : Int)]) 1 1 rfl (by omega) _) Ext.out size_ext (by omega) ?_
            intro v3 w3 ho3 hb3 hg3
            obtain ⟨A3, c3, rfl, hc3⟩ := own_slice ho3
            have HO3 := Lib.hid ho3
            have HX3 : Hid (Ext w2 w3) := ⟨hb3⟩
            have HZ3 : Hid (w3.heap[w.heap.size]? = some zPk) := at_ext (h := HX3.out) HZ2.out
            have HNE : Hid ((Value.slice A3 (1 + s.size) c3).ownBlock ≠ some w.heap.size) := by
              intro e
              have h1 := own_base HO3.out _ e
              have h2 := HW2.out
              omega
            clear ho3 hb3 hg3)
         | (refine wpList_store_row rfl 43 (.tmp 6) (.tmp 33) rfl w.heap.size #[.int .i64 2, .int .i64 id, .slice A3 (1 + s.size) c3] rfl rfl 43 #[.int .i64 0, .int .i64 0, .slice none 0 0] HZ3.out (by kernel_rfl) rfl (by simp [Value.oneCell']) ?_))
      refine bodyPost_ret (results_cell_row2 Try.results60 _ _ w.heap.size 43 #[.int .i64 2, .int .i64 id, .slice A3 (1 + s.size) c3] (0, 0) _ (.int .i64 0) rfl rfl (setRow_heap _ _ _ _ _ _ HZ3.out) Try.underlying43 rfl (by kernel_rfl)) rfl ?_
      rw [HR.out]
      refine ⟨A3, c3, ?_, ?_, (Ext.setRow_ (Ext.trans_ (inferInstance : Ext w w2) HX3.out) (Nat.le_refl _) _).out⟩
      · simp only [HLL.out]
        rfl
      · simp only [HLL.out, nums_append]
        exact own_weaken (own_setRow HO3.out HNE.out _) (Nat.le_of_lt HW2.out)
set_option maxRecDepth 100000 in
set_option maxHeartbeats 4000000 in
theorem request_any (id : Int) (s t : ByteArray) (hs : s.size ≤ 140737488355328) (ht : t.size ≤ 140737488355328) (w : World) :
    Calls Try.prog 58 #[.int .i64 id, .string s, .string t] w (ReplyTells (reqF id (strB s) (strB t)) w) := by
  have HL := Lib.hid (strB_len s)
  have HM := Lib.hid (strB_len t)
  by_cases h1 : id < 0 ∨ 255 < id
  · have HR : Hid (reqF id (strB s) (strB t) = ((0, 0), [], 1)) := if_pos h1
    have HD := Lib.hid h1
    clear h1
    go_enter Try.func58, Try.ntmps58
    go_wp2_with fail
    refine (isByte_no id HD.out _).mono ?_
    rintro e w1 ⟨rfl, rfl⟩
    go_wp2
    refine bodyPost_ret (results_cell_row2 Try.results58 _ _ w.heap.size 43 #[.int .i64 0, .int .i64 0, .slice none 0 0] (0, 0) _ (.int .i64 1) rfl rfl (at_ext (at_new w zPk)) Try.underlying43 rfl (by kernel_rfl)) rfl ?_
    rw [HR.out]
    exact ⟨none, 0, rfl, own_nil _ _ _ _, Ext.out⟩
  have HD := Lib.hid h1
  by_cases h2 : 255 < s.size
  · have HR : Hid (reqF id (strB s) (strB t) = ((0, 0), [], 4)) := by unfold Hid reqF; rw [if_neg h1, if_pos (.inl (by rw [HL.out]; exact h2))]
    have h2I : 255 < (s.size : Int) := by omega
    clear h1
    go_enter Try.func58, Try.ntmps58
    go_wp2_with fail
    refine (isByte_yes id HD.out _).mono ?_
    rintro e w1 ⟨rfl, rfl⟩
    go_wp2
    refine bodyPost_ret (results_cell_row2 Try.results58 _ _ w.heap.size 43 #[.int .i64 0, .int .i64 0, .slice none 0 0] (0, 0) _ (.int .i64 4) rfl rfl (at_ext (at_new w zPk)) Try.underlying43 rfl (by kernel_rfl)) rfl ?_
    rw [HR.out]
    exact ⟨none, 0, rfl, own_nil _ _ _ _, Ext.out⟩
  have h2I : ¬ 255 < (s.size : Int) := by omega
  by_cases h3 : 255 < t.size
  · have HR : Hid (reqF id (strB s) (strB t) = ((0, 0), [], 4)) := by unfold Hid reqF; rw [if_neg h1, if_pos (.inr (by rw [HM.out]; exact h3))]
    have h3I : 255 < (t.size : Int) := by omega
    clear h1
    go_enter Try.func58, Try.ntmps58
    go_wp2_with fail
    refine (isByte_yes id HD.out _).mono ?_
    rintro e w1 ⟨rfl, rfl⟩
    go_wp2
    refine bodyPost_ret (results_cell_row2 Try.results58 _ _ w.heap.size 43 #[.int .i64 0, .int .i64 0, .slice none 0 0] (0, 0) _ (.int .i64 4) rfl rfl (at_ext (at_new w zPk)) Try.underlying43 rfl (by kernel_rfl)) rfl ?_
    rw [HR.out]
    exact ⟨none, 0, rfl, own_nil _ _ _ _, Ext.out⟩
  have h3I : ¬ 255 < (t.size : Int) := by omega
  have HR : Hid (reqF id (strB s) (strB t) = ((1, id), ([(s.size : Int)] ++ strB s) ++ [(t.size : Int)] ++ strB t, 0)) := by
    unfold Hid reqF
    rw [if_neg h1, if_neg (by rw [HL.out, HM.out]; omega), HL.out, HM.out]
  have hwn : IntKind.u8.wrap (s.size : Int) = s.size := wraps_u8 _ (by omega) (by omega)
  have hwm : IntKind.u8.wrap (t.size : Int) = t.size := wraps_u8 _ (by omega) (by omega)
  have HLL : Hid ((([(s.size : Int)] ++ strB s) ++ [(t.size : Int)] ++ strB t).length = 1 + s.size + 1 + t.size) := by
    unfold Hid
    simp only [List.length_append, HL.out, HM.out, List.length_cons, List.length_nil]
  clear h1
  go_enter Try.func58, Try.ntmps58
  go_wp2_with fail
  obtain ⟨wb, hwb⟩ : ∃ wb, w.alloc zPk = wb := ⟨_, rfl⟩
  have HZ2 : Hid (wb.heap[w.heap.size]? = some zPk) := by unfold Hid; rw [← hwb]; exact at_new w _
  have HWB : Hid (Ext w wb) := by unfold Hid; rw [← hwb]; exact inferInstance
  have HW2 : Hid (w.heap.size < wb.heap.size) := at_lt HZ2.out
  rw [hwb]
  clear hwb
  refine (isByte_yes id HD.out _).mono ?_
  rintro e w1 ⟨rfl, rfl⟩
  go_wp2_with
    (first
     | (at_builtin
        refine wp_append_str (w0 := wb) wb.heap.size rfl (.tmp 27) (.tmp 28) 41 9 5 rfl Try.underlying41 Try.underlying9 info_u8 (.slice (some ⟨wb.heap.size, 0, none⟩) 1 1) 1 (nums .u8 [(s.size : Int)]) s rfl rfl (own_box wb _ _ rfl (Nat.le_refl _) (nums .u8 [(s.size : Int)]) 1 1 rfl (by omega) _) Ext.out size_ext (by omega) ?_
        intro v3 w3 ho3 hb3 hg3
        obtain ⟨A3, c3, rfl, hc3⟩ := own_slice ho3
        have HO3 := Lib.hid ho3
        have HX3 : Hid (Ext wb w3) := ⟨hb3⟩
        clear ho3 hb3 hg3)
     | (at_builtin
        refine wp_append_box (w0 := wb) wb.heap.size rfl (.tmp 30) (.tmp 34) 41 5 (.int .u8 0) 1 1 1 rfl Try.underlying41 info_u8 rfl (by decide) (by decide) (.slice A3 (1 + s.size) c3) (1 + s.size) (nums .u8 [(s.size : Int)] ++ nums .u8 (strB s)) [.int .u8 (t.size : Int)] rfl rfl rfl (one_int _ _) HO3.out HX3.out.out HX3.out.out.size (by omega) ?_
        intro v4 w4 ho4 hb4 hg4 hat4
        obtain ⟨A4, c4, rfl, hc4⟩ := own_slice ho4
        have HO4 := Lib.hid ho4
        have HX4 : Hid (Ext wb w4) := ⟨hb4⟩
        clear ho4 hb4 hg4 hat4)
     | (at_builtin
        refine wp_append_str (w0 := wb) wb.heap.size rfl (.tmp 35) (.tmp 36) 41 9 5 rfl Try.underlying41 Try.underlying9 info_u8 (.slice A4 (1 + s.size + 1) c4) (1 + s.size + 1) _ t rfl rfl HO4.out HX4.out.out HX4.out.out.size (by omega) ?_
        intro v5 w5 ho5 hb5 hg5
        obtain ⟨A5, c5, rfl, hc5⟩ := own_slice ho5
        have HO5 := Lib.hid ho5
        have HX5 : Hid (Ext wb w5) := ⟨hb5⟩
        have HZ5 : Hid (w5.heap[w.heap.size]? = some zPk) := at_ext (h := HX5.out) HZ2.out
        have HNE : Hid ((Value.slice A5 (1 + s.size + 1 + t.size) c5).ownBlock ≠ some w.heap.size) := by
          intro e
          have h1 := own_base HO5.out _ e
          have h2 := HW2.out
          omega
        clear ho5 hb5 hg5)
     | (refine wpList_store_row rfl 43 (.tmp 6) (.tmp 40) rfl w.heap.size #[.int .i64 1, .int .i64 id, .slice A5 (1 + s.size + 1 + t.size) c5] rfl rfl 43 #[.int .i64 0, .int .i64 0, .slice none 0 0] HZ5.out (by kernel_rfl) rfl (by simp [Value.oneCell']) ?_))
  refine bodyPost_ret (results_cell_row2 Try.results58 _ _ w.heap.size 43 #[.int .i64 1, .int .i64 id, .slice A5 (1 + s.size + 1 + t.size) c5] (0, 0) _ (.int .i64 0) rfl rfl (setRow_heap _ _ _ _ _ _ HZ5.out) Try.underlying43 rfl (by kernel_rfl)) rfl ?_
  rw [HR.out]
  refine ⟨A5, c5, ?_, ?_, (Ext.setRow_ (Ext.trans_ HWB.out HX5.out) (Nat.le_refl _) _).out⟩
  · simp only [HLL.out]
  · simp only [HLL.out, nums_append]
    exact own_weaken (own_setRow HO5.out HNE.out _) (Nat.le_of_lt HW2.out)
end Go.Proofs.Ytodibldfolognaa
