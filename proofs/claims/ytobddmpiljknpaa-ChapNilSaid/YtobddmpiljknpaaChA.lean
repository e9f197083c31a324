/-
  chap.named, Make, Told. Conditions: sizes.
-/
import Derived.Test.YtobddmpiljknpaaPpA
import Derived.Deep.DeepCutAuto
namespace Go.Proofs.Ytobddmpiljknpaa
open Go.RowKit
set_option linter.unusedVariables false
set_option linter.unusedSimpArgs false

def mkF (code id : Int) (v n : List Int) : (Int × Int) × List Int × Int :=
  if (code ≠ 1 ∧ code ≠ 2) ∨ id < 0 ∨ 255 < id then ((0, 0), [], 90) else if v.length < 1 ∨ 255 < v.length then ((0, 0), [], 4) else if nameF n = false then ((0, 0), [], 60) else ((code, id), [(v.length : Int)] ++ v ++ n, 0)
def tdF (code id : Int) (t : List Int) : (Int × Int) × List Int × Int :=
  if (code ≠ 3 ∧ code ≠ 4) ∨ id < 0 ∨ 255 < id then ((0, 0), [], 90) else if plainF t = false then ((0, 0), [], 3) else if 255 < t.length then ((0, 0), [], 3) else ((code, id), t, 0)
set_option maxHeartbeats 4000000 in
theorem named_any (s : ByteArray) (hs : s.size ≤ 140737488355328) (w : World) : Calls Try.prog 64 #[.string s] w fun e w' => e = .returned (.bool (nameF (strB s))) ∧ w = w' := by
  have HL := Lib.hid (strB_len s)
  go_enter Try.func64, Try.ntmps64
  go_wp2
  go_loopw [6] (fun i wr => ∃ k : Nat, i = .int .i64 k ∧ k ≤ s.size ∧ Hid (((strB s).take k).all okN = true) ∧ w = wr) (fun i _ => s.size - (intOf i).toNat)
  case atStart => exact ⟨0, rfl, by omega, rfl, rfl⟩
  case round =>
    obtain ⟨k, rfl, hk, HA, rfl⟩ := hrel
    by_cases hlt : k < s.size
    · have hI : (k : Int) < (s.size : Int) := by omega
      have HLT := Lib.hid (show k < (strB s).length by rw [HL.out]; exact hlt)
      have HX : Hid ((strB s).getD k 0 = ((s[k]'hlt).toNat : Int)) := by
        unfold Hid strB
        rw [List.getD_eq_getElem?_getD, List.getElem?_map]
        have h2 : k < s.data.toList.length := by rw [Array.length_toList]; exact hlt
        rw [List.getElem?_eq_getElem h2]
        rfl
      by_cases p1 : ((s[k]'hlt).toNat : Int) < 32
      · skip
        have HF : Hid (nameF (strB s) = false) := by unfold Hid nameF; rw [all_not HLT.out (by rw [HX.out]; unfold okN; exact decide_eq_false (by omega)), Bool.and_false]
        go_wp2
        go_ret
        exact ⟨ret_bool HF.out.symm, rfl⟩
      by_cases p2 : 126 < ((s[k]'hlt).toNat : Int)
      · skip
        have HF : Hid (nameF (strB s) = false) := by unfold Hid nameF; rw [all_not HLT.out (by rw [HX.out]; unfold okN; exact decide_eq_false (by omega)), Bool.and_false]
        go_wp2
        go_ret
        exact ⟨ret_bool HF.out.symm, rfl⟩
      by_cases p3 : ((s[k]'hlt).toNat : Int) = 34
      · skip
        have HF : Hid (nameF (strB s) = false) := by unfold Hid nameF; rw [all_not HLT.out (by rw [HX.out]; unfold okN; exact decide_eq_false (by omega)), Bool.and_false]
        go_wp2
        go_ret
        exact ⟨ret_bool HF.out.symm, rfl⟩
      by_cases p4 : ((s[k]'hlt).toNat : Int) = 92
      · have p3' : (((s[k]'hlt).toNat : Int) == 34) = false := by simpa using p3
        have HF : Hid (nameF (strB s) = false) := by unfold Hid nameF; rw [all_not HLT.out (by rw [HX.out]; unfold okN; exact decide_eq_false (by omega)), Bool.and_false]
        go_wp2
        go_ret
        exact ⟨ret_bool HF.out.symm, rfl⟩
      have p3' : (((s[k]'hlt).toNat : Int) == 34) = false := by simpa using p3
      have p4' : (((s[k]'hlt).toNat : Int) == 92) = false := by simpa using p4
      have HA2 := Lib.hid (all_take_succ HA.out HLT.out (by rw [HX.out]; unfold okN; exact decide_eq_true (by omega)))
      go_wp2
      go_roundw
      case rel => exact ⟨k + 1, by go_num, by omega, HA2.out, trivial⟩
      case measure => simp [intOf]; omega
    · obtain rfl : k = s.size := by omega
      have h1 := HA.out
      rw [List.take_of_length_le (by rw [HL.out]; exact Nat.le_refl _)] at h1
      have HAL := Lib.hid h1
      clear h1 HA
      by_cases l1 : s.size < 1
      · have HF : Hid (nameF (strB s) = false) := by unfold Hid nameF; rw [decide_eq_false (by rw [strB_len]; omega)]; rfl
        have l1I : ¬ (1 : Int) ≤ (s.size : Int) := by omega
        go_wp2
        go_ret
        exact ⟨ret_bool HF.out.symm, rfl⟩
      have l1I : (1 : Int) ≤ (s.size : Int) := by omega
      by_cases l2 : 64 < s.size
      · have HF : Hid (nameF (strB s) = false) := by unfold Hid nameF; rw [decide_eq_false (by rw [strB_len]; omega)]; rfl
        have l2I : decide ((s.size : Int) ≤ 64) = false := decide_eq_false (by omega)
        go_wp2
        go_ret
        exact ⟨ret_bool HF.out.symm, rfl⟩
      have l2I : decide ((s.size : Int) ≤ 64) = true := decide_eq_true (by omega)
      have HF : Hid (nameF (strB s) = true) := by unfold Hid nameF; rw [HAL.out, decide_eq_true (by rw [strB_len]; omega)]; rfl
      go_wp2
      go_ret
      exact ⟨ret_bool HF.out.symm, rfl⟩
set_option maxRecDepth 100000 in
set_option maxHeartbeats 4000000 in
theorem make_any (code id : Int) (A : Option Addr) (n c : Nat) (v : List Int) (s : ByteArray) (hn : v.length = n) (hs : s.size ≤ 140737488355328) (hx0 : n ≤ 140737488355328) (w : World) (hx : Cells w A (nums .u8 v)) :
    Calls Try.prog 14 #[.int .i64 code, .int .i64 id, .slice A n c, .string s] w (ReplyTells (mkF code id v (strB s)) w) := by
  have Hn := Lib.hid hn
  have HX := Lib.hid hx
  have HSL := Lib.hid (strB_len s)
  clear hn hx
  go_enter Try.func14, Try.ntmps14
  go_upto_region 1 with fail
  obtain ⟨wb, hwb⟩ : ∃ wb, w.alloc zPk = wb := ⟨_, rfl⟩
  have HZ : Hid (wb.heap[w.heap.size]? = some zPk) := by unfold Hid; rw [← hwb]; exact at_new w _
  have HW : Hid (Ext w wb) := by unfold Hid; rw [← hwb]; exact inferInstance
  have HLB : Hid (w.heap.size < wb.heap.size) := at_lt HZ.out
  rw [hwb]
  clear hwb
  obtain ⟨q, hq⟩ : ∃ q, decide ((code ≠ 1 ∧ code ≠ 2) ∨ id < 0 ∨ 255 < id) = q := ⟨_, rfl⟩
  have HQ := Lib.hid hq
  clear hq
  go_cut [11] (fun s wx => s = .bool q ∧ wb = wx)
  case first =>
    by_cases c1 : code = 1
    · subst c1
      by_cases i1 : id < 0
      · skip
        go_wp2_with fail
        go_meet
        case rel => exact ⟨by rw [← HQ.out, decide_eq_true (by omega)], rfl⟩
      by_cases i2 : 255 < id
      · skip
        go_wp2_with fail
        go_meet
        case rel => exact ⟨by rw [← HQ.out, decide_eq_true (by omega)], rfl⟩
      go_wp2_with fail
      go_meet
      case rel => exact ⟨by rw [← HQ.out, decide_eq_false (by omega)], rfl⟩
    have c1' : (code != 1) = true := by simpa using c1
    by_cases c2 : code = 2
    · subst c2
      by_cases i1 : id < 0
      · skip
        go_wp2_with fail
        go_meet
        case rel => exact ⟨by rw [← HQ.out, decide_eq_true (by omega)], rfl⟩
      by_cases i2 : 255 < id
      · skip
        go_wp2_with fail
        go_meet
        case rel => exact ⟨by rw [← HQ.out, decide_eq_true (by omega)], rfl⟩
      go_wp2_with fail
      go_meet
      case rel => exact ⟨by rw [← HQ.out, decide_eq_false (by omega)], rfl⟩
    have c2' : (code != 2) = true := by simpa using c2
    go_wp2_with fail
    go_meet
    case rel => exact ⟨by rw [← HQ.out, decide_eq_true (by omega)], rfl⟩
  case' rest =>
    obtain ⟨rfl, rfl⟩ := hcut
  cases q
  case true =>
    have HR : Hid (mkF code id v (strB s) = ((0, 0), [], 90)) := if_pos (of_decide_eq_true HQ.out)
    go_wp2_with
      (refine wpList_store_row rfl 24 (.tmp 8) (.tmp 26) rfl w.heap.size #[.int .i64 0, .int .i64 0, .slice none 0 0] rfl rfl 24 #[.int .i64 0, .int .i64 0, .slice none 0 0] HZ.out (by kernel_rfl) rfl (by simp [Value.oneCell']) ?_)
    refine bodyPost_ret (results_cell_row2 Try.results14 _ _ w.heap.size 24 #[.int .i64 0, .int .i64 0, .slice none 0 0] (0, 0) _ (.int .i64 90) rfl rfl (setRow_heap _ _ _ _ _ _ HZ.out) Try.underlying24 rfl (by kernel_rfl)) rfl ?_
    rw [HR.out]
    exact ⟨none, 0, rfl, own_nil _ _ _ _, (Ext.setRow_ HW.out (Nat.le_refl _) _).out⟩
  have HG := Lib.hid (of_decide_eq_false HQ.out)
  by_cases l1 : n < 1
  · have HR : Hid (mkF code id v (strB s) = ((0, 0), [], 4)) := by unfold Hid mkF; rw [if_neg HG.out, if_pos (by rw [Hn.out]; omega)]
    have l1I : (n : Int) < 1 := by omega
    go_wp2_with
      (refine wpList_store_row rfl 24 (.tmp 8) (.tmp 36) rfl w.heap.size #[.int .i64 0, .int .i64 0, .slice none 0 0] rfl rfl 24 #[.int .i64 0, .int .i64 0, .slice none 0 0] HZ.out (by kernel_rfl) rfl (by simp [Value.oneCell']) ?_)
    refine bodyPost_ret (results_cell_row2 Try.results14 _ _ w.heap.size 24 #[.int .i64 0, .int .i64 0, .slice none 0 0] (0, 0) _ (.int .i64 4) rfl rfl (setRow_heap _ _ _ _ _ _ HZ.out) Try.underlying24 rfl (by kernel_rfl)) rfl ?_
    rw [HR.out]
    exact ⟨none, 0, rfl, own_nil _ _ _ _, (Ext.setRow_ HW.out (Nat.le_refl _) _).out⟩
  have l1I : ¬ (n : Int) < 1 := by omega
  by_cases l2 : 255 < n
  · have HR : Hid (mkF code id v (strB s) = ((0, 0), [], 4)) := by unfold Hid mkF; rw [if_neg HG.out, if_pos (by rw [Hn.out]; omega)]
    have l2I : 255 < (n : Int) := by omega
    go_wp2_with
      (refine wpList_store_row rfl 24 (.tmp 8) (.tmp 36) rfl w.heap.size #[.int .i64 0, .int .i64 0, .slice none 0 0] rfl rfl 24 #[.int .i64 0, .int .i64 0, .slice none 0 0] HZ.out (by kernel_rfl) rfl (by simp [Value.oneCell']) ?_)
    refine bodyPost_ret (results_cell_row2 Try.results14 _ _ w.heap.size 24 #[.int .i64 0, .int .i64 0, .slice none 0 0] (0, 0) _ (.int .i64 4) rfl rfl (setRow_heap _ _ _ _ _ _ HZ.out) Try.underlying24 rfl (by kernel_rfl)) rfl ?_
    rw [HR.out]
    exact ⟨none, 0, rfl, own_nil _ _ _ _, (Ext.setRow_ HW.out (Nat.le_refl _) _).out⟩
  have l2I : ¬ 255 < (n : Int) := by omega
  rcases hnm : nameF (strB s) with _ | _
  · have HR : Hid (mkF code id v (strB s) = ((0, 0), [], 60)) := by unfold Hid mkF; rw [if_neg HG.out, if_neg (by rw [Hn.out]; omega), if_pos hnm]
    have HNM := Lib.hid hnm
    clear hnm
    go_wp2_with fail
    refine (named_any s hs _).mono ?_
    rintro e w1 ⟨rfl, rfl⟩
    rw [HNM.out]
    go_wp2_with
      (refine wpList_store_row rfl 24 (.tmp 8) (.tmp 41) rfl w.heap.size #[.int .i64 0, .int .i64 0, .slice none 0 0] rfl rfl 24 #[.int .i64 0, .int .i64 0, .slice none 0 0] HZ.out (by kernel_rfl) rfl (by simp [Value.oneCell']) ?_)
    refine bodyPost_ret (results_cell_row2 Try.results14 _ _ w.heap.size 24 #[.int .i64 0, .int .i64 0, .slice none 0 0] (0, 0) _ (.int .i64 60) rfl rfl (setRow_heap _ _ _ _ _ _ HZ.out) Try.underlying24 rfl (by kernel_rfl)) rfl ?_
    rw [HR.out]
    exact ⟨none, 0, rfl, own_nil _ _ _ _, (Ext.setRow_ HW.out (Nat.le_refl _) _).out⟩
  have HR : Hid (mkF code id v (strB s) = ((code, id), [(n : Int)] ++ v ++ strB s, 0)) := by unfold Hid mkF; rw [if_neg HG.out, if_neg (by rw [Hn.out]; omega), if_neg (by simp [hnm]), Hn.out]
  have HNM := Lib.hid hnm
  have HS64 : Hid (s.size ≤ 64) := by
    unfold nameF at hnm
    simp only [Bool.and_eq_true, decide_eq_true_eq] at hnm
    unfold Hid
    rw [← strB_len]
    omega
  have hwn : IntKind.u8.wrap (n : Int) = n := wraps_u8 _ (by omega) (by omega)
  clear hnm
  go_wp2_with fail
  refine (named_any s hs _).mono ?_
  rintro e w1 ⟨rfl, rfl⟩
  rw [HNM.out]
  have HLL : Hid (([(n : Int)] ++ v ++ strB s).length = 1 + n + s.size) := by unfold Hid; simp only [List.length_append, HSL.out, Hn.out, List.length_cons, List.length_nil]
  go_wp2_with
    (first
     | (at_builtin
        refine wp_append_cells (w0 := wb) wb.heap.size rfl (.tmp 45) (.tmp 46) 22 5 (.int .u8 0) 1 1 rfl Try.underlying22 info_u8 rfl (by decide) (by decide) (.slice (some ⟨wb.heap.size, 0, none⟩) 1 1) 1 (nums .u8 [(n : Int)]) A n c (nums .u8 v) rfl rfl (by rw [nums_length, Hn.out, Nat.mul_one]) (nums_one _ _) (own_box wb _ _ rfl (Nat.le_refl _) (nums .u8 [(n : Int)]) 1 1 rfl (by omega) _) (by have := HW.out; exact HX.out.ext) Ext.out size_ext (by omega) ?_
        intro v3 w3 ho3 hb3 hg3 hat3
        obtain ⟨A3, c3, rfl, hc3⟩ := own_slice ho3
        have HO3 := Lib.hid ho3
        have HX3 : Hid (Ext wb w3) := ⟨hb3⟩
        clear ho3 hb3 hg3 hat3)
     | (at_builtin
        refine wp_append_str (w0 := wb) wb.heap.size rfl (.tmp 50) (.tmp 51) 22 9 5 rfl Try.underlying22 Try.underlying9 info_u8 (.slice A3 (1 + n) c3) (1 + n) _ s rfl rfl HO3.out HX3.out.out HX3.out.out.size (by have := HS64.out; omega) ?_
        intro v5 w5 ho5 hb5 hg5
        obtain ⟨A5, c5, rfl, hc5⟩ := own_slice ho5
        have HO5 := Lib.hid ho5
        have HX5 : Hid (Ext wb w5) := ⟨hb5⟩
        have HZ5 : Hid (w5.heap[w.heap.size]? = some zPk) := at_ext (h := HX5.out) HZ.out
        have HNE : Hid ((Value.slice A5 (1 + n + s.size) c5).ownBlock ≠ some w.heap.size) := by
          intro e
          have h1 := own_base HO5.out _ e
          have h2 := HLB.out
          omega
        clear ho5 hb5 hg5)
     | (refine wpList_store_row rfl 24 (.tmp 8) (.tmp 53) rfl w.heap.size #[.int .i64 code, .int .i64 id, .slice A5 (1 + n + s.size) c5] rfl rfl 24 #[.int .i64 0, .int .i64 0, .slice none 0 0] HZ5.out (by kernel_rfl) rfl (by simp [Value.oneCell']) ?_))
  refine bodyPost_ret (results_cell_row2 Try.results14 _ _ w.heap.size 24 #[.int .i64 code, .int .i64 id, .slice A5 (1 + n + s.size) c5] (0, 0) _ (.int .i64 0) rfl rfl (setRow_heap _ _ _ _ _ _ HZ5.out) Try.underlying24 rfl (by kernel_rfl)) rfl ?_
  rw [HR.out]
  refine ⟨A5, c5, ?_, ?_, (Ext.setRow_ (Ext.trans_ HW.out HX5.out) (Nat.le_refl _) _).out⟩
  · simp only [HLL.out]
  · simp only [HLL.out, nums_append]
    exact own_weaken (own_setRow HO5.out HNE.out _) (Nat.le_of_lt HLB.out)
end Go.Proofs.Ytobddmpiljknpaa
