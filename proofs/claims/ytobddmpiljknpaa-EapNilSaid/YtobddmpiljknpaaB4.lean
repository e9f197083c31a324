/-
  chap.named, Make, Told. Conditions: sizes.
  What octet.Get, octet.Put and the reference's twins tell. Conditions: the list is no longer than the model's memory, its bytes are bytes.
  What octet's Reader and the reference's tell: some, Num, Take, Rest, Left, Err. Conditions: the reader's block is as RdSt says; numbers are of their kinds.
  chap: what a packet says (proof's parts). Conditions: sizes.
  chap.kind, Read, Told. Conditions: sizes.
  chap.Told, again, word. Conditions: sizes.
  chap: what a packet that is read is; whose word: what is known of it. No condition.
  chap.Answer, Holds. Conditions: sizes.
  chap.Holds. Conditions: sizes.
-/
import Derived.Test.YtobddmpiljknpaaB3
import Derived.Deep.DeepCutAuto
import Derived.Test.YtobddmpiljknpaaB1
import Derived.Handy
import Derived.Test.YtobddmpiljknpaaB2
namespace Go.Proofs.Ytobddmpiljknpaa
open Go.RowKit
set_option linter.unusedVariables false
set_option linter.unusedSimpArgs false

def mkF (code id : Int) (v n : List Int) : (Int × Int) × List Int × Int :=
  if (code ≠ 1 ∧ code ≠ 2) ∨ id < 0 ∨ 255 < id then ((0, 0), [], 90) else if v.length < 1 ∨ 255 < v.length then ((0, 0), [], 4) else if nameF n = false then ((0, 0), [], 60) else ((code, id), [(v.length : Int)] ++ v ++ n, 0)
def tdF (code id : Int) (t : List Int) : (Int × Int) × List Int × Int :=
  if (code ≠ 3 ∧ code ≠ 4) ∨ id < 0 ∨ 255 < id then ((0, 0), [], 90) else if plainF t = false then ((0, 0), [], 3) else if 255 < t.length then ((0, 0), [], 3) else ((code, id), t, 0)
set_option maxHeartbeats 4000000 in
theorem named_any (s : ByteArray) (hs : s.size ≤ 140737488355328) (w : World) : Calls Try.prog 64 #[.string s] w fun e w' => e = .returned (.bool (nameF (strB s))) ∧ w = w' := by
  have HL := Lib.hid (strB_len s)
  go_enter Try.func64, Try.ntmps64
  go_wp2
  go_loopw [6] (fun i wr => ∃ k : Nat, i = .int .i64 k ∧ k ≤ s.size ∧ Hid (((strB s).take k).all okN = true) ∧ w = wr) (fun i _ => s.size - (intOf i).toNat)
  case atStart => exact ⟨0, rfl, by omega, rfl, rfl⟩
  case round =>
    obtain ⟨k, rfl, hk, HA, rfl⟩ := hrel
    by_cases hlt : k < s.size
    · have hI : (k : Int) < (s.size : Int) := by omega
      have HLT := Lib.hid (show k < (strB s).length by rw [HL.out]; exact hlt)
      have HX : Hid ((strB s).getD k 0 = ((s[k]'hlt).toNat : Int)) := by
        unfold Hid strB
        rw [List.getD_eq_getElem?_getD, List.getElem?_map]
        have h2 : k < s.data.toList.length := by rw [Array.length_toList]; exact hlt
        rw [List.getElem?_eq_getElem h2]
        rfl
      by_cases p1 : ((s[k]'hlt).toNat : Int) < 32
      · skip
        have HF : Hid (nameF (strB s) = false) := by unfold Hid nameF; rw [all_not HLT.out (by rw [HX.out]; unfold okN; exact decide_eq_false (by omega)), Bool.and_false]
        go_wp2
        go_ret
        exact ⟨ret_bool HF.out.symm, rfl⟩
      by_cases p2 : 126 < ((s[k]'hlt).toNat : Int)
      · skip
        have HF : Hid (nameF (strB s) = false) := by unfold Hid nameF; rw [all_not HLT.out (by rw [HX.out]; unfold okN; exact decide_eq_false (by omega)), Bool.and_false]
        go_wp2
        go_ret
        exact ⟨ret_bool HF.out.symm, rfl⟩
      by_cases p3 : ((s[k]'hlt).toNat : Int) = 34
      · skip
        have HF : Hid (nameF (strB s) = false) := by unfold Hid nameF; rw [all_not HLT.out (by rw [HX.out]; unfold okN; exact decide_eq_false (by omega)), Bool.and_false]
        go_wp2
        go_ret
        exact ⟨ret_bool HF.out.symm, rfl⟩
      by_cases p4 : ((s[k]'hlt).toNat : Int) = 92
      · have p3' : (((s[k]'hlt).toNat : Int) == 34) = false := by simpa using p3
        have HF : Hid (nameF (strB s) = false) := by unfold Hid nameF; rw [all_not HLT.out (by rw [HX.out]; unfold okN; exact decide_eq_false (by omega)), Bool.and_false]
        go_wp2
        go_ret
        exact ⟨ret_bool HF.out.symm, rfl⟩
      have p3' : (((s[k]'hlt).toNat : Int) == 34) = false := by simpa using p3
      have p4' : (((s[k]'hlt).toNat : Int) == 92) = false := by simpa using p4
      have HA2 := Lib.hid (all_take_succ HA.out HLT.out (by rw [HX.out]; unfold okN; exact decide_eq_true (by omega)))
      go_wp2
      go_roundw
      case rel => exact ⟨k + 1, by go_num, by omega, HA2.out, trivial⟩
      case measure => simp [intOf]; omega
    · obtain rfl : k = s.size := by omega
      have h1 := HA.out
      rw [List.take_of_length_le (by rw [HL.out]; exact Nat.le_refl _)] at h1
      have HAL := Lib.hid h1
      clear h1 HA
      by_cases l1 : s.size < 1
      · have HF : Hid (nameF (strB s) = false) := by unfold Hid nameF; rw [decide_eq_false (by rw [strB_len]; omega)]; rfl
        have l1I : ¬ (1 : Int) ≤ (s.size : Int) := by omega
        go_wp2
        go_ret
        exact ⟨ret_bool HF.out.symm, rfl⟩
      have l1I : (1 : Int) ≤ (s.size : Int) := by omega
      by_cases l2 : 64 < s.size
      · have HF : Hid (nameF (strB s) = false) := by unfold Hid nameF; rw [decide_eq_false (by rw [strB_len]; omega)]; rfl
        have l2I : decide ((s.size : Int) ≤ 64) = false := decide_eq_false (by omega)
        go_wp2
        go_ret
        exact ⟨ret_bool HF.out.symm, rfl⟩
      have l2I : decide ((s.size : Int) ≤ 64) = true := decide_eq_true (by omega)
      have HF : Hid (nameF (strB s) = true) := by unfold Hid nameF; rw [HAL.out, decide_eq_true (by rw [strB_len]; omega)]; rfl
      go_wp2
      go_ret
      exact ⟨ret_bool HF.out.symm, rfl⟩
set_option maxRecDepth 100000 in
set_option maxHeartbeats 4000000 in
theorem make_any (code id : Int) (A : Option Addr) (n c : Nat) (v : List Int) (s : ByteArray) (hn : v.length = n) (hs : s.size ≤ 140737488355328) (hx0 : n ≤ 140737488355328) (w : World) (hx : Cells w A (nums .u8 v)) :
    Calls Try.prog 14 #[.int .i64 code, .int .i64 id, .slice A n c, .string s] w (ReplyTells (mkF code id v (strB s)) w) := by
  have Hn := Lib.hid hn
  have HX := Lib.hid hx
  have HSL := Lib.hid (strB_len s)
  clear hn hx
  go_enter Try.func14, Try.ntmps14
  go_upto_region 1 with fail
  obtain ⟨wb, hwb⟩ : ∃ wb, w.alloc zPk = wb := ⟨_, rfl⟩
  have HZ : Hid (wb.heap[w.heap.size]? = some zPk) := by unfold Hid; rw [← hwb]; exact at_new w _
  have HW : Hid (Ext w wb) := by unfold Hid; rw [← hwb]; exact inferInstance
  have HLB : Hid (w.heap.size < wb.heap.size) := at_lt HZ.out
  rw [hwb]
  clear hwb
  obtain ⟨q, hq⟩ : ∃ q, decide ((code ≠ 1 ∧ code ≠ 2) ∨ id < 0 ∨ 255 < id) = q := ⟨_, rfl⟩
  have HQ := Lib.hid hq
  clear hq
  go_cut [11] (fun s wx => s = .bool q ∧ wb = wx)
  case first =>
    by_cases c1 : code = 1
    · subst c1
      by_cases i1 : id < 0
      · skip
        go_wp2_with fail
        go_meet
        case rel => exact ⟨by rw [← HQ.out, decide_eq_true (by omega)], rfl⟩
      by_cases i2 : 255 < id
      · skip
        go_wp2_with fail
        go_meet
        case rel => exact ⟨by rw [← HQ.out, decide_eq_true (by omega)], rfl⟩
      go_wp2_with fail
      go_meet
      case rel => exact ⟨by rw [← HQ.out, decide_eq_false (by omega)], rfl⟩
    have c1' : (code != 1) = true := by simpa using c1
    by_cases c2 : code = 2
    · subst c2
      by_cases i1 : id < 0
      · skip
        go_wp2_with fail
        go_meet
        case rel => exact ⟨by rw [← HQ.out, decide_eq_true (by omega)], rfl⟩
      by_cases i2 : 255 < id
      · skip
        go_wp2_with fail
        go_meet
        case rel => exact ⟨by rw [← HQ.out, decide_eq_true (by omega)], rfl⟩
      go_wp2_with fail
      go_meet
      case rel => exact ⟨by rw [← HQ.out, decide_eq_false (by omega)], rfl⟩
    have c2' : (code != 2) = true := by simpa using c2
    go_wp2_with fail
    go_meet
    case rel => exact ⟨by rw [← HQ.out, decide_eq_true (by omega)], rfl⟩
  case' rest =>
    obtain ⟨rfl, rfl⟩ := hcut
  cases q
  case true =>
    have HR : Hid (mkF code id v (strB s) = ((0, 0), [], 90)) := if_pos (of_decide_eq_true HQ.out)
    go_wp2_with
      (refine wpList_store_row rfl 24 (.tmp 8) (.tmp 26) rfl w.heap.size #[.int .i64 0, .int .i64 0, .slice none 0 0] rfl rfl 24 #[.int .i64 0, .int .i64 0, .slice none 0 0] HZ.out (by kernel_rfl) rfl (by simp [Value.oneCell']) ?_)
    refine bodyPost_ret (results_cell_row2 Try.results14 _ _ w.heap.size 24 #[.int .i64 0, .int .i64 0, .slice none 0 0] (0, 0) _ (.int .i64 90) rfl rfl (setRow_heap _ _ _ _ _ _ HZ.out) Try.underlying24 rfl (by kernel_rfl)) rfl ?_
    rw [HR.out]
    exact ⟨none, 0, rfl, own_nil _ _ _ _, (Ext.setRow_ HW.out (Nat.le_refl _) _).out⟩
  have HG := Lib.hid (of_decide_eq_false HQ.out)
  by_cases l1 : n < 1
  · have HR : Hid (mkF code id v (strB s) = ((0, 0), [], 4)) := by unfold Hid mkF; rw [if_neg HG.out, if_pos (by rw [Hn.out]; omega)]
    have l1I : (n : Int) < 1 := by omega
    go_wp2_with
      (refine wpList_store_row rfl 24 (.tmp 8) (.tmp 36) rfl w.heap.size #[.int .i64 0, .int .i64 0, .slice none 0 0] rfl rfl 24 #[.int .i64 0, .int .i64 0, .slice none 0 0] HZ.out (by kernel_rfl) rfl (by simp [Value.oneCell']) ?_)
    refine bodyPost_ret (results_cell_row2 Try.results14 _ _ w.heap.size 24 #[.int .i64 0, .int .i64 0, .slice none 0 0] (0, 0) _ (.int .i64 4) rfl rfl (setRow_heap _ _ _ _ _ _ HZ.out) Try.underlying24 rfl (by kernel_rfl)) rfl ?_
    rw [HR.out]
    exact ⟨none, 0, rfl, own_nil _ _ _ _, (Ext.setRow_ HW.out (Nat.le_refl _) _).out⟩
  have l1I : ¬ (n : Int) < 1 := by omega
  by_cases l2 : 255 < n
  · have HR : Hid (mkF code id v (strB s) = ((0, 0), [], 4)) := by unfold Hid mkF; rw [if_neg HG.out, if_pos (by rw [Hn.out]; omega)]
    have l2I : 255 < (n : Int) := by omega
    go_wp2_with
      (refine wpList_store_row rfl 24 (.tmp 8) (.tmp 36) rfl w.heap.size #[.int .i64 0, .int .i64 0, .slice none 0 0] rfl rfl 24 #[.int .i64 0, .int .i64 0, .slice none 0 0] HZ.out (by kernel_rfl) rfl (by simp [Value.oneCell']) ?_)
    refine bodyPost_ret (results_cell_row2 Try.results14 _ _ w.heap.size 24 #[.int .i64 0, .int .i64 0, .slice none 0 0] (0, 0) _ (.int .i64 4) rfl rfl (setRow_heap _ _ _ _ _ _ HZ.out) Try.underlying24 rfl (by kernel_rfl)) rfl ?_
    rw [HR.out]
    exact ⟨none, 0, rfl, own_nil _ _ _ _, (Ext.setRow_ HW.out (Nat.le_refl _) _).out⟩
  have l2I : ¬ 255 < (n : Int) := by omega
  rcases hnm : nameF (strB s) with _ | _
  · have HR : Hid (mkF code id v (strB s) = ((0, 0), [], 60)) := by unfold Hid mkF; rw [if_neg HG.out, if_neg (by rw [Hn.out]; omega), if_pos hnm]
    have HNM := Lib.hid hnm
    clear hnm
    go_wp2_with fail
    refine (named_any s hs _).mono ?_
    rintro e w1 ⟨rfl, rfl⟩
    rw [HNM.out]
    go_wp2_with
      (refine wpList_store_row rfl 24 (.tmp 8) (.tmp 41) rfl w.heap.size #[.int .i64 0, .int .i64 0, .slice none 0 0] rfl rfl 24 #[.int .i64 0, .int .i64 0, .slice none 0 0] HZ.out (by kernel_rfl) rfl (by simp [Value.oneCell']) ?_)
    refine bodyPost_ret (results_cell_row2 Try.results14 _ _ w.heap.size 24 #[.int .i64 0, .int .i64 0, .slice none 0 0] (0, 0) _ (.int .i64 60) rfl rfl (setRow_heap _ _ _ _ _ _ HZ.out) Try.underlying24 rfl (by kernel_rfl)) rfl ?_
    rw [HR.out]
    exact ⟨none, 0, rfl, own_nil _ _ _ _, (Ext.setRow_ HW.out (Nat.le_refl _) _).out⟩
  have HR : Hid (mkF code id v (strB s) = ((code, id), [(n : Int)] ++ v ++ strB s, 0)) := by unfold Hid mkF; rw [if_neg HG.out, if_neg (by rw [Hn.out]; omega), if_neg (by simp [hnm]), Hn.out]
  have HNM := Lib.hid hnm
  have HS64 : Hid (s.size ≤ 64) := by
    unfold nameF at hnm
    simp only [Bool.and_eq_true, decide_eq_true_eq] at hnm
    unfold Hid
    rw [← strB_len]
    omega
  have hwn : IntKind.u8.wrap (n : Int) = n := wraps_u8 _ (by omega) (by omega)
  clear hnm
  go_wp2_with fail
  refine (named_any s hs _).mono ?_
  rintro e w1 ⟨rfl, rfl⟩
  rw [HNM.out]
  have HLL : Hid (([(n : Int)] ++ v ++ strB s).length = 1 + n + s.size) := by unfold Hid; simp only [List.length_append, HSL.out, Hn.out, List.length_cons, List.length_nil]
  go_wp2_with
    (first
     | (at_builtin
        refine wp_append_cells (w0 := wb) wb.heap.size rfl (.tmp 45) (.tmp 46) 22 5 (.int .u8 0) 1 1 rfl Try.underlying22 info_u8 rfl (by decide) (by decide) (.slice (some ⟨wb.heap.size, 0, none⟩) 1 1) 1 (nums .u8 [(n : Int)]) A n c (nums .u8 v) rfl rfl (by rw [nums_length, Hn.out, Nat.mul_one]) (nums_one _ _) (own_box wb _ _ rfl (Nat.le_refl _) (nums .u8 [(n : Int)]) 1 1 rfl (by omega) _) (by have := HW.out; exact HX.out.ext) Ext.out size_ext (by omega) ?_
        intro v3 w3 ho3 hb3 hg3 hat3
        obtain ⟨A3, c3, rfl, hc3⟩ := own_slice ho3
        have HO3 := Lib.hid ho3
        have HX3 : Hid (Ext wb w3) := ⟨hb3⟩
        clear ho3 hb3 hg3 hat3)
     | (at_builtin
        refine wp_append_str (w0 := wb) wb.heap.size rfl (.tmp 50) (.tmp 51) 22 9 5 rfl Try.underlying22 Try.underlying9 info_u8 (.slice A3 (1 + n) c3) (1 + n) _ s rfl rfl HO3.out HX3.out.out HX3.out.out.size (by have := HS64.out; omega) ?_
        intro v5 w5 ho5 hb5 hg5
        obtain ⟨A5, c5, rfl, hc5⟩ := own_slice ho5
        have HO5 := Lib.hid ho5
        have HX5 : Hid (Ext wb w5) := ⟨hb5⟩
        have HZ5 : Hid (w5.heap[w.heap.size]? = some zPk) := at_ext (h := HX5.out) HZ.out
        have HNE : Hid ((Value.slice A5 (1 + n + s.size) c5).ownBlock ≠ some w.heap.size) := by
          intro e
          have h1 := own_base HO5.out _ e
          have h2 := HLB.out
          omega
        clear ho5 hb5 hg5)
     | (refine wpList_store_row rfl 24 (.tmp 8) (.tmp 53) rfl w.heap.size #[.int .i64 code, .int .i64 id, .slice A5 (1 + n + s.size) c5] rfl rfl 24 #[.int .i64 0, .int .i64 0, .slice none 0 0] HZ5.out (by kernel_rfl) rfl (by simp [Value.oneCell']) ?_))
  refine bodyPost_ret (results_cell_row2 Try.results14 _ _ w.heap.size 24 #[.int .i64 code, .int .i64 id, .slice A5 (1 + n + s.size) c5] (0, 0) _ (.int .i64 0) rfl rfl (setRow_heap _ _ _ _ _ _ HZ5.out) Try.underlying24 rfl (by kernel_rfl)) rfl ?_
  rw [HR.out]
  refine ⟨A5, c5, ?_, ?_, (Ext.setRow_ (Ext.trans_ HW.out HX5.out) (Nat.le_refl _) _).out⟩
  · simp only [HLL.out]
  · simp only [HLL.out, nums_append]
    exact own_weaken (own_setRow HO5.out HNE.out _) (Nat.le_of_lt HLB.out)
end Go.Proofs.Ytobddmpiljknpaa

namespace Go.Proofs.Ytobddmpiljknpaa
open Go.RowKit
set_option linter.unusedVariables false
set_option linter.unusedSimpArgs false

def getF (xs : List Int) (i size : Int) : Int × Int :=
  if size < 1 ∨ 8 < size ∨ i < 0 ∨ (xs.length : Int) < i then (0, 1) else if (xs.length : Int) - i < size then (0, 8) else (getN ((xs.drop i.toNat).take size.toNat), 0)
theorem getF_arg {xs : List Int} {i size : Int} (h : size < 1 ∨ 8 < size ∨ i < 0 ∨ (xs.length : Int) < i) : getF xs i size = (0, 1) := by unfold getF; rw [if_pos h]
theorem getF_short {xs : List Int} {i size : Int} (h : ¬ (size < 1 ∨ 8 < size ∨ i < 0 ∨ (xs.length : Int) < i)) (k : (xs.length : Int) - i < size) : getF xs i size = (0, 8) := by unfold getF; rw [if_neg h, if_pos k]
theorem getF_ok {xs : List Int} {i size : Int} (h : ¬ (size < 1 ∨ 8 < size ∨ i < 0 ∨ (xs.length : Int) < i)) (k : ¬ (xs.length : Int) - i < size) : getF xs i size = (getN ((xs.drop i.toNat).take size.toNat), 0) := by unfold getF; rw [if_neg h, if_neg k]

set_option maxHeartbeats 400000 in
theorem get_any (A : Option Addr) (n c : Nat) (i size : Int) (xs : List Int) (hn : xs.length = n) (hn' : n ≤ 140737488355200) (hc : n ≤ c) (hi : -9223372036854775808 ≤ i) (hi' : i ≤ 9223372036854775807) (hs : -9223372036854775808 ≤ size) (hs' : size ≤ 9223372036854775807)
    (w : World) (hx : Cells w A (nums .u8 xs)) (hb : Byt xs) :
    Calls Try.prog 130 #[.slice A n c, .int .i64 i, .int .i64 size] w fun e w' => e = .returned (.tuple #[.int .u64 (getF xs i size).1, .int .i64 (getF xs i size).2]) ∧ Drawn w w' := by
  by_cases h1 : size < 1
  · rw [getF_arg (by omega)]
    go_enter Try.func130, Try.ntmps130
    go_wp2
    go_ret2
    exact ⟨rfl, Drawn.refl _⟩
  by_cases h2 : 8 < size
  · rw [getF_arg (by omega)]
    go_enter Try.func130, Try.ntmps130
    go_wp2
    go_ret2
    exact ⟨rfl, Drawn.refl _⟩
  by_cases h3 : i < 0
  · rw [getF_arg (by omega)]
    go_enter Try.func130, Try.ntmps130
    go_wp2
    go_ret2
    exact ⟨rfl, Drawn.refl _⟩
  by_cases h4 : (n : Int) < i
  · rw [getF_arg (by omega)]
    go_enter Try.func130, Try.ntmps130
    go_wp2
    go_ret2
    exact ⟨rfl, Drawn.refl _⟩
  by_cases h5 : (n : Int) - i < size
  · rw [getF_short (by omega) (by omega)]
    go_enter Try.func130, Try.ntmps130
    go_wp2
    go_ret2
    exact ⟨rfl, Drawn.refl _⟩
  rw [getF_ok (by omega) (by omega)]
  obtain ⟨i, rfl⟩ := Int.eq_ofNat_of_zero_le (Int.not_lt.mp h3)
  obtain ⟨size, rfl⟩ := Int.eq_ofNat_of_zero_le (show 0 ≤ size by omega)
  obtain ⟨ad, rfl, hcell⟩ := hx (by rw [nums_length]; omega)
  simp only [Int.toNat_natCast]
  obtain ⟨ys, hys⟩ : ∃ ys, ys = (xs.drop i).take size := ⟨_, rfl⟩
  rw [← hys]
  have hyl : ys.length = size := by rw [hys]; simp; omega
  have hyb : Byt ys := by rw [hys]; exact (hb.drop _).take _
  have hyc : ∀ k, k < size → w.cell? ((ad.add i).add k) = some (.int .u8 (ys.getD k 0)) := by
    intro k hk
    have := hcell (i + k) _ (nums_get _ _ _ (by omega))
    rw [add_of_add, this, hys]
    simp [List.getD_eq_getElem?_getD, List.getElem?_take, hk]
  have HL := Lib.hid hyl
  have HB := Lib.hid hyb
  have HC := Lib.hid hyc
  clear hys hyl hyb hb hcell hyc hx hn
  go_enter Try.func130, Try.ntmps130
  go_wp2
  go_loop [8, 10, 40] (fun v _ j => ∃ k : Nat, j = .int .i64 k ∧ k ≤ size ∧ v = .int .u64 (getN (ys.take k))) (fun _ _ j => size - (intOf j).toNat)
  case atStart => exact ⟨0, rfl, by omega, rfl⟩
  case round =>
    obtain ⟨k, rfl, hk, rfl⟩ := hrel
    by_cases hlt : k < size
    · have hc1 := HC.out k hlt
      have hx1 := HB.out.getD k
      have hg1 := getN_bound 7 (ys.take k) (HB.out.take k) (by simp; omega)
      have HG2 : Hid (getN (ys.take (k + 1)) = getN (ys.take k) * 256 + ys.getD k 0) := by rw [take_succ_getD (by rw [HL.out]; exact hlt), getN_snoc]; rfl
      generalize getN (ys.take k) = N at *
      generalize ys.getD k 0 = X at *
      go_wp2
      go_round
      case rel => exact ⟨k + 1, by go_num, by omega, by rw [HG2.out, or_u64_byte hg1.1 hg1.2 hx1.1 hx1.2]⟩
      case measure => simp [intOf]; omega
    · obtain rfl : k = size := by omega
      have HT : Hid (ys.take k = ys) := List.take_of_length_le (by rw [HL.out]; omega)
      go_wp2
      go_ret2
      exact ⟨by rw [HT.out]; rfl, Drawn.refl _⟩

end Go.Proofs.Ytobddmpiljknpaa

namespace Go.Proofs.Ytobddmpiljknpaa
open Go.RowKit
set_option linter.unusedVariables false
set_option linter.unusedSimpArgs false

/-- A reader at block R: the bytes xs are left (they lie in block D), its error is E. -/
def RdSt (w : World) (R D : Nat) (T : TypeId) (xs : List Int) (E : Int) : Prop :=
  ∃ A c, w.heap[R]? = some (.cells #[.slice A xs.length c, .int .i64 E] T (0, 0)) ∧ xs.length ≤ c ∧ c ≤ 9223372036854775807 ∧ Cells w A (nums .u8 xs) ∧ (∀ ad, A = some ad → ad.block = D) ∧ D ≠ R
/-- What a taking leaves: what is taken, what is left, the error. -/
def rdTake (xs : List Int) (E : Int) (right : Bool) (n : Int) : List Int × List Int × Int :=
  if E ≠ 0 then ([], xs, E) else if right = false then ([], xs, 1) else if (xs.length : Int) < n then ([], xs, 8) else (xs.take n.toNat, xs.drop n.toNat, 0)
def rdOk (xs : List Int) (E : Int) (right : Bool) (n : Int) : Bool := decide (E = 0) && right && decide (n ≤ (xs.length : Int))

theorem own_cap {w : World} {base n m c size : Nat} {e : TypeId} {A : Option Addr} {cs : List Value} (h : w.ownsRow base e size (.slice A m c) n cs) : c ≤ 9223372036854775807 := by
  rcases h.2 with ⟨h1, _⟩ | ⟨g, cap, cur, h1, _, _, _, h2, _⟩
  · injection h1; omega
  · injection h1
    simp only [maxLen] at h2
    omega
theorem blk_cell {w : World} {g : Nat} {t : TypeId} {cs : Array Value} (h : w.heap[g]? = some (.cells cs t (0, 0))) (i : Nat) : w.cell? ⟨g, i, none⟩ = cs[i]? := cell_of_row w g i cs t (0, 0) h
theorem blk_frozen {w : World} {g : Nat} {t : TypeId} {cs : Array Value} (h : w.heap[g]? = some (.cells cs t (0, 0))) (i : Nat) : w.frozen? ⟨g, i, none⟩ = false := by simp [World.frozen?, h]
theorem blk_set {w : World} {g : Nat} {t : TypeId} {cs : Array Value} (h : w.heap[g]? = some (.cells cs t (0, 0))) (i : Nat) (u : Value) : (w.setCell ⟨g, i, none⟩ u).heap[g]? = some (.cells (cs.setIfInBounds i u) t (0, 0)) := by
  simp [World.setCell, Array.getElem?_modify, h]
theorem blk_lt {w : World} {g : Nat} {o : Obj} (h : w.heap[g]? = some o) : g < w.heap.size := (Array.getElem?_eq_some_iff.1 h).1

section
variable {w w1 : World} {R D : Nat} {T : TypeId} {xs : List Int} {E : Int}
theorem RdSt.grown {row : Option Nat} (h : RdSt w R D T xs E) (hg : w.grownBy w1 row) (hr : row ≠ some R) (hd : row ≠ some D) : RdSt w1 R D T xs E := by
  obtain ⟨A, c, h1, h2, h3, h4, h5, h6⟩ := h
  exact ⟨A, c, (hg.block R (blk_lt h1) (Ne.symm hr)).trans h1, h2, h3, h4.grown hg fun ad ha => by rw [h5 ad ha]; exact Ne.symm hd, h5, h6⟩
theorem RdSt.below (h : RdSt w R D T xs E) (hb : Below w.heap.size w w1) : RdSt w1 R D T xs E := by
  obtain ⟨A, c, h1, h2, h3, h4, h5, h6⟩ := h
  exact ⟨A, c, (hb.block R (blk_lt h1)).trans h1, h2, h3, h4.below hb, h5, h6⟩
theorem RdSt.drawn (h : RdSt w R D T xs E) (hb : Drawn w w1) : RdSt w1 R D T xs E := h.below hb.below
theorem RdSt.lt (h : RdSt w R D T xs E) : R < w.heap.size := by
  obtain ⟨A, c, h1, _⟩ := h
  exact blk_lt h1
theorem RdSt.setE (h : RdSt w R D T xs E) (F : Int) : RdSt (w.setCell ⟨R, 1, none⟩ (.int .i64 F)) R D T xs F := by
  obtain ⟨A, c, h1, h2, h3, h4, h5, h6⟩ := h
  exact ⟨A, c, blk_set h1 1 _, h2, h3, h4.grown (grown_setCell (p := ⟨R, 1, none⟩) (grown_refl w _) (.inr rfl) _) fun ad ha => by rw [h5 ad ha]; exact fun he => h6 (by injection he), h5, h6⟩
theorem RdSt.setB {A : Option Addr} {c : Nat} (h : w.heap[R]? = some (.cells #[.slice A xs.length c, .int .i64 E] T (0, 0))) (h2 : xs.length ≤ c) (h3 : c ≤ 9223372036854775807) (h4 : Cells w A (nums .u8 xs)) (h5 : ∀ ad, A = some ad → ad.block = D) (h6 : D ≠ R) (k : Nat) (hk : k ≤ xs.length) :
    RdSt (w.setCell ⟨R, 0, none⟩ (.slice (if c = k then A else A.map (·.add k)) (xs.length - k) (c - k))) R D T (xs.drop k) E := by
  have hl : (xs.drop k).length = xs.length - k := List.length_drop
  have hd := h4.drop (size := 1) (n := xs.length) (c := c) (by rw [nums_length, Nat.mul_one]) h2 k hk
  rw [Nat.mul_one] at hd
  have hA : ∀ ad, (if c = k then A else A.map (·.add k)) = some ad → ad.block = D := by
    intro ad ha
    split at ha
    · exact h5 ad ha
    · rcases A with _ | a
      · cases ha
      · injection ha with ha
        rw [← ha, block_of_add]
        exact h5 a rfl
  refine ⟨_, c - k, ?_, by omega, by omega, ?_, hA, h6⟩
  · rw [hl]
    exact blk_set h 0 _
  · rw [nums_drop]
    exact hd.grown (grown_setCell (p := ⟨R, 0, none⟩) (grown_refl w (some R)) (.inr rfl) _) fun ad ha => by rw [hA ad ha]; exact fun he => h6 (by injection he)
end

def SomeTells (R D : Nat) (T : TypeId) (xs : List Int) (E : Int) (right : Bool) (n : Int) (w : World) (e : Ending) (w' : World) : Prop :=
  ∃ A c k, e = .returned (.tuple #[.slice A k c, .bool (rdOk xs E right n)]) ∧ (rdTake xs E right n).1.length = k ∧ k ≤ c ∧ Cells w' A (nums .u8 (rdTake xs E right n).1) ∧ (∀ ad, A = some ad → ad.block = D) ∧
    RdSt w' R D T (rdTake xs E right n).2.1 (rdTake xs E right n).2.2 ∧ w.grownBy w' (some R)

theorem someTells_no {R D : Nat} {T : TypeId} {xs : List Int} {E F n : Int} {right : Bool} {w w' : World} (hT : rdTake xs E right n = ([], xs, F)) (hok : rdOk xs E right n = false) (hS : RdSt w' R D T xs F) (hg : w.grownBy w' (some R)) :
    SomeTells R D T xs E right n w (.returned (.tuple #[.slice none 0 0, .bool false])) w' :=
  ⟨none, 0, 0, by rw [hok], by rw [hT]; rfl, Nat.le_refl _, by rw [hT]; exact Cells.nil_ _ _, (fun ad h => by cases h), by rw [hT]; exact hS, hg⟩
theorem rdTake_err {xs : List Int} {E n : Int} {right : Bool} (h : E ≠ 0) : rdTake xs E right n = ([], xs, E) := by unfold rdTake; rw [if_pos h]
theorem rdTake_long {xs : List Int} {n : Int} (h : (xs.length : Int) < n) : rdTake xs 0 true n = ([], xs, 8) := by unfold rdTake; rw [if_neg (by decide), if_neg (by decide), if_pos h]
theorem rdTake_ok {xs : List Int} {n : Int} (h : ¬ (xs.length : Int) < n) : rdTake xs 0 true n = (xs.take n.toNat, xs.drop n.toNat, 0) := by unfold rdTake; rw [if_neg (by decide), if_neg (by decide), if_neg h]

set_option maxHeartbeats 400000 in
theorem some_any (R D : Nat) (xs : List Int) (E : Int) (right : Bool) (n : Int) (hn : -9223372036854775808 ≤ n) (hn' : n ≤ 9223372036854775807) (hr0 : right = true → 0 ≤ n) (w : World) (h : RdSt w R D 193 xs E) :
    Calls Try.prog 129 #[.pointer (some ⟨R, 0, none⟩), .int .i64 n, .bool right] w (SomeTells R D 193 xs E right n w) := by
  have HS := Lib.hid h
  obtain ⟨A, c, h1, h2, h3, h4, h5, h6⟩ := h
  have hc0 := blk_cell h1 0
  have hc1 := blk_cell h1 1
  simp at hc0 hc1
  have hf0 := blk_frozen h1 0
  have hf1 := blk_frozen h1 1
  have HB := Lib.hid (fun k => RdSt.setB (D := D) h1 h2 h3 h4 h5 h6 k)
  obtain ⟨m, hm⟩ : ∃ m, m = xs.length := ⟨_, rfl⟩
  rw [← hm] at hc0 h2
  have HK := Lib.hid hm
  have H4 := Lib.hid h4
  have H5 := Lib.hid h5
  clear hm h1 h4 h5 h6
  by_cases hE : E = 0
  · subst hE
    cases right with
    | false =>
      go_enter Try.func129, Try.ntmps129
      go_wp2
      go_ret2
      exact someTells_no rfl rfl (HS.out.setE 1) (grown_setCell (p := ⟨R, 1, none⟩) (grown_refl w _) (.inr rfl) _)
    | true =>
      have hn0 := hr0 rfl
      clear hr0
      by_cases hlt : (m : Int) < n
      · have HT := Lib.hid (rdTake_long (xs := xs) (n := n) (by rw [← HK.out]; exact hlt))
        have HO : Hid (rdOk xs 0 true n = false) := by
          have := HK.out
          unfold Hid rdOk
          rw [decide_eq_false (p := n ≤ (xs.length : Int)) (by omega)]
          rfl
        go_enter Try.func129, Try.ntmps129
        go_wp2
        go_ret2
        exact someTells_no HT.out HO.out (HS.out.setE 8) (grown_setCell (p := ⟨R, 1, none⟩) (grown_refl w _) (.inr rfl) _)
      · obtain ⟨k, rfl⟩ := Int.eq_ofNat_of_zero_le hn0
        have HT := Lib.hid (rdTake_ok (xs := xs) (n := (k : Int)) (by rw [← HK.out]; exact hlt))
        have HO : Hid (rdOk xs 0 true k = true) := by
          have := HK.out
          unfold Hid rdOk
          rw [decide_eq_true (p := (k : Int) ≤ (xs.length : Int)) (by omega)]
          rfl
        have hTl : Hid ((rdTake xs 0 true k).1.length = k) := by
          have := HK.out
          unfold Hid
          rw [HT.out, List.length_take]
          simp only [Int.toNat_natCast]
          omega
        have HB1 := Lib.hid (HB.out k (by have := HK.out; omega))
        have HEnd : Hid (∀ w', RdSt w' R D 193 (xs.drop k) 0 → w.grownBy w' (some R) → SomeTells R D 193 xs 0 true k w (.returned (.tuple #[.slice A k c, .bool true])) w') := by
          intro w' hS hg
          refine ⟨A, c, k, by rw [HO.out], hTl.out, by omega, ?_, H5.out, by rw [HT.out]; exact hS, hg⟩
          rw [HT.out, Int.toNat_natCast, nums_take]
          refine (H4.out.take k).grown hg fun ad ha => ?_
          rw [H5.out ad ha]
          have h6 : D ≠ R := by obtain ⟨_, _, _, _, _, _, _, h6⟩ := HS.out; exact h6
          exact fun he => h6 (by injection he)
        have hHK := HK.out
        by_cases hck : c = k
        · subst hck
          obtain rfl : m = c := by omega
          clear hHK
          go_enter Try.func129, Try.ntmps129
          go_wp2
          go_ret2
          have h1 := HB1.out
          simp only [if_true, ← HK.out, Nat.sub_self] at h1
          exact HEnd.out _ h1 (grown_setCell (p := ⟨R, 0, none⟩) (grown_refl w _) (.inr rfl) _)
        · clear hHK
          go_enter Try.func129, Try.ntmps129
          go_wp2
          go_ret2
          have h1 := HB1.out
          rw [if_neg hck, ← HK.out] at h1
          exact HEnd.out _ h1 (grown_setCell (p := ⟨R, 0, none⟩) (grown_refl w _) (.inr rfl) _)
  · have hne : (E != 0) = true := by simpa using hE
    have HT := Lib.hid (rdTake_err (xs := xs) (n := n) (right := right) hE)
    have HO : Hid (rdOk xs E right n = false) := by
      unfold Hid rdOk
      rw [decide_eq_false hE]
      rfl
    clear hE hr0
    go_enter Try.func129, Try.ntmps129
    go_wp2
    go_ret2
    exact someTells_no HT.out HO.out HS.out (grown_refl w _)

set_option maxHeartbeats 400000 in
theorem again_any (A : Option Addr) (m c : Nat) (xs : List Int) (hm : xs.length = m) (hm' : m ≤ 140737488355400) (w : World) (hx : Cells w A (nums .u8 xs)) :
    Calls Try.prog 128 #[.slice A m c] w fun e w' => ∃ g, e = .returned (.slice (some ⟨g, 0, none⟩) m m) ∧ w.heap.size ≤ g ∧ w'.ownsRow w.heap.size 5 1 (.slice (some ⟨g, 0, none⟩) m m) m (nums .u8 xs) ∧ Below w.heap.size w w' := by
  have Hm := Lib.hid hm
  clear hm
  go_enter Try.func128, Try.ntmps128
  go_wp2_with (first
    | (at_make
       refine wp_make (w0 := w) w.heap.size rfl (.tmp 5) (.tmp 5) 22 5 (.int .u8 0) 1 rfl Try.underlying22 info_u8 rfl (by decide) .i64 .i64 m m rfl rfl (by omega) (by omega) (Below.refl _ _) (Nat.le_refl _) ?_
       intro w1 hw1 hb1 hg1 hz1
       have hx1 := hx.below hb1
       have HW1 := Lib.hid hw1
       clear hw1 hx)
    | ((with_reducible refine gate .copy #[.tmp 7, .tmp 8] rfl ?_)
       refine wp_copy (w0 := w) w.heap.size rfl (.tmp 7) (.tmp 8) 22 22 5 (.int .u8 0) 1 rfl Try.underlying22 info_u8 (some ⟨w.heap.size, 0, none⟩) A m m m c rfl rfl w.heap.size 0 _ 5 HW1.out (nums .u8 xs) ?_ (fun _ => rfl) hx1 ?_ (nums_one _ _) hb1 (Nat.le_refl _) ?_
       · rw [nums_length, Hm.out]; exact (Nat.min_self _).symm
       · rw [nums_length, Hm.out]; simp
       intro w2 hw2 hb2 hg2
       have HO : Hid (w2.ownsRow w.heap.size 5 1 (.slice (some ⟨w.heap.size, 0, none⟩) m m) m (nums .u8 xs)) := by
         have h2 := own_of_block (n := m) (cap := m) (size := 1) hw2 (Nat.le_refl _) (Nat.le_refl _) (by omega) (by rw [length_splice _ _ _ (by rw [nums_length, Hm.out]; simp)]; simp)
         have h3 : (splice (List.replicate m (Value.int .u8 0)) 0 (nums .u8 xs)).take (m * 1) = nums .u8 xs := by
           unfold splice
           rw [List.take_zero, List.nil_append, Nat.mul_one]
           exact List.take_left' (by rw [nums_length]; exact Hm.out)
         rwa [h3] at h2
       have HB := Lib.hid hb2
       clear hw2 hb2 hg2 HW1 hb1 hg1 hz1))
  go_ret
  exact ⟨_, rfl, Nat.le_refl _, HO.out, HB.out⟩

theorem grown_all_below {w w1 w2 : World} {row : Option Nat} (h : w.grownBy w1 row) (k : Below w1.heap.size w1 w2) : w.grownBy w2 row :=
  World.grownBy.trans h (grown_of_below k row)

theorem rdOk_no {xs : List Int} {E n : Int} {right : Bool} (h : rdOk xs E right n = false) : (rdTake xs E right n).1 = [] := by
  unfold rdTake
  by_cases h1 : E ≠ 0
  · rw [if_pos h1]
  rw [if_neg h1]
  cases right with
  | false => rw [if_pos rfl]
  | true =>
    rw [if_neg (by decide)]
    by_cases h3 : (xs.length : Int) < n
    · rw [if_pos h3]
    · exfalso
      unfold rdOk at h
      rw [decide_eq_true (by omega), decide_eq_true (by omega)] at h
      cases h
theorem rdOk_yes {xs : List Int} {E n : Int} {right : Bool} (h : rdOk xs E right n = true) : E = 0 ∧ right = true ∧ n ≤ xs.length ∧ rdTake xs E right n = (xs.take n.toNat, xs.drop n.toNat, 0) := by
  unfold rdOk at h
  simp only [Bool.and_eq_true, decide_eq_true_eq] at h
  obtain ⟨⟨rfl, rfl⟩, h3⟩ := h
  exact ⟨rfl, rfl, h3, rdTake_ok (by omega)⟩
theorem rdTake_len {xs : List Int} {E n : Int} {right : Bool} : (rdTake xs E right n).1.length ≤ xs.length := by
  cases h : rdOk xs E right n with
  | false => rw [rdOk_no h]; simp
  | true => rw [(rdOk_yes h).2.2.2]; simp; omega
theorem rdTake_byt {xs : List Int} {E n : Int} {right : Bool} (hb : Byt xs) : Byt (rdTake xs E right n).1 := by
  cases h : rdOk xs E right n with
  | false => rw [rdOk_no h]; exact Byt.nil_
  | true => rw [(rdOk_yes h).2.2.2]; exact hb.take _
theorem getF_all {xs : List Int} {n : Int} (h1 : 1 ≤ n) (h2 : n ≤ 8) (hl : (xs.length : Int) = n) : (getF xs 0 n).1 = getN xs := by
  rw [getF_ok (by omega) (by omega), Int.toNat_zero, List.drop_zero, List.take_of_length_le (by omega)]

set_option maxHeartbeats 400000 in
theorem num_any (R D : Nat) (xs : List Int) (E : Int) (n : Int) (hn : -9223372036854775808 ≤ n) (hn' : n ≤ 9223372036854775807) (hb : Byt xs) (hl : xs.length ≤ 140737488355200) (w : World) (h : RdSt w R D 193 xs E) :
    Calls Try.prog 114 #[.pointer (some ⟨R, 0, none⟩), .int .i64 n] w fun e w' => e = .returned (.int .u64 (getN (rdTake xs E (decide (1 ≤ n) && decide (n ≤ 8)) n).1)) ∧
      RdSt w' R D 193 (rdTake xs E (decide (1 ≤ n) && decide (n ≤ 8)) n).2.1 (rdTake xs E (decide (1 ≤ n) && decide (n ≤ 8)) n).2.2 ∧ w.grownBy w' (some R) := by
  obtain ⟨r, hr⟩ : ∃ r, (decide (1 ≤ n) && decide (n ≤ 8)) = r := ⟨_, rfl⟩
  rw [hr]
  have hr0 : r = true → 0 ≤ n := by
    rintro rfl
    simp at hr
    omega
  have HS := Lib.hid (some_any R D xs E r n hn hn' hr0 w h)
  have HN : Hid (rdOk xs E r n = false → getN (rdTake xs E r n).1 = 0) := fun h => by rw [rdOk_no h]; rfl
  have HY : Hid (rdOk xs E r n = true → 1 ≤ n ∧ n ≤ 8 ∧ ((rdTake xs E r n).1.length : Int) = n ∧ (getF (rdTake xs E r n).1 0 n).1 = getN (rdTake xs E r n).1) := fun h => by
    obtain ⟨h1, rfl, h3, h4⟩ := rdOk_yes h
    simp at hr
    have hl : ((rdTake xs E true n).1.length : Int) = n := by rw [h4, List.length_take]; omega
    exact ⟨hr.1, hr.2, hl, getF_all hr.1 hr.2 hl⟩
  have HL : Hid ((rdTake xs E r n).1.length ≤ 140737488355200) := Nat.le_trans rdTake_len hl
  have HBy := Lib.hid (rdTake_byt (E := E) (right := r) (n := n) hb)
  by_cases h1 : 1 ≤ n
  · by_cases h2 : n ≤ 8
    · obtain rfl : r = true := by rw [← hr]; simp [h1, h2]
      clear hr hr0 hb hl
      go_enter Try.func114, Try.ntmps114
      go_wp2_with fail
      refine HS.out.mono ?_
      rintro e w1 ⟨A1, c1, k, rfl, hk, hkc, hC, hD, hS, hg⟩
      have hkl := HL.out
      rw [hk] at hkl
      have HK := Lib.hid hk
      have HC := Lib.hid hC
      have HSt := Lib.hid hS
      have HG := Lib.hid hg
      clear hk hC hD hS hg
      generalize hO : rdOk xs E _ n = O at *
      cases O with
      | false =>
        have hz := HN.out rfl
        have HZ := Lib.hid hz
        clear hO hz
        go_wp2_with fail
        go_ret
        exact ⟨by rw [HZ.out]; rfl, HSt.out, HG.out⟩
      | true =>
        obtain ⟨hn1, hn8, hln, hgn⟩ := HY.out rfl
        have HGN := Lib.hid hgn
        have HLN := Lib.hid hln
        clear hO hgn hln
        go_wp2_with fail
        refine (get_any A1 k c1 0 n _ HK.out (by omega) hkc (by omega) (by omega) (by omega) (by omega) w1 HC.out HBy.out).mono ?_
        rintro e w2 ⟨rfl, hd2⟩
        rw [HGN.out]
        have HSt2 := Lib.hid (HSt.out.drawn hd2)
        have HG2 := Lib.hid (grown_trans_row HG.out (grown_of_below hd2.below (some R)) (.inl rfl))
        clear hd2
        go_wp2_with fail
        go_ret
        exact ⟨rfl, HSt2.out, HG2.out⟩
    · obtain rfl : r = false := by rw [← hr]; simp [h2]
      clear hr hr0 hb hl
      go_enter Try.func114, Try.ntmps114
      go_wp2_with fail
      refine HS.out.mono ?_
      rintro e w1 ⟨A1, c1, k, rfl, hk, hkc, hC, hD, hS, hg⟩
      have hkl := HL.out
      rw [hk] at hkl
      have HK := Lib.hid hk
      have HC := Lib.hid hC
      have HSt := Lib.hid hS
      have HG := Lib.hid hg
      clear hk hC hD hS hg
      generalize hO : rdOk xs E _ n = O at *
      cases O with
      | false =>
        have hz := HN.out rfl
        have HZ := Lib.hid hz
        clear hO hz
        go_wp2_with fail
        go_ret
        exact ⟨by rw [HZ.out]; rfl, HSt.out, HG.out⟩
      | true =>
        obtain ⟨hn1, hn8, hln, hgn⟩ := HY.out rfl
        have HGN := Lib.hid hgn
        have HLN := Lib.hid hln
        clear hO hgn hln
        go_wp2_with fail
        refine (get_any A1 k c1 0 n _ HK.out (by omega) hkc (by omega) (by omega) (by omega) (by omega) w1 HC.out HBy.out).mono ?_
        rintro e w2 ⟨rfl, hd2⟩
        rw [HGN.out]
        have HSt2 := Lib.hid (HSt.out.drawn hd2)
        have HG2 := Lib.hid (grown_trans_row HG.out (grown_of_below hd2.below (some R)) (.inl rfl))
        clear hd2
        go_wp2_with fail
        go_ret
        exact ⟨rfl, HSt2.out, HG2.out⟩
  · obtain rfl : r = false := by rw [← hr]; simp [h1]
    clear hr hr0 hb hl
    go_enter Try.func114, Try.ntmps114
    go_wp2_with fail
    refine HS.out.mono ?_
    rintro e w1 ⟨A1, c1, k, rfl, hk, hkc, hC, hD, hS, hg⟩
    have hkl := HL.out
    rw [hk] at hkl
    have HK := Lib.hid hk
    have HC := Lib.hid hC
    have HSt := Lib.hid hS
    have HG := Lib.hid hg
    clear hk hC hD hS hg
    generalize hO : rdOk xs E _ n = O at *
    cases O with
    | false =>
      have hz := HN.out rfl
      have HZ := Lib.hid hz
      clear hO hz
      go_wp2_with fail
      go_ret
      exact ⟨by rw [HZ.out]; rfl, HSt.out, HG.out⟩
    | true =>
      obtain ⟨hn1, hn8, hln, hgn⟩ := HY.out rfl
      have HGN := Lib.hid hgn
      have HLN := Lib.hid hln
      clear hO hgn hln
      go_wp2_with fail
      refine (get_any A1 k c1 0 n _ HK.out (by omega) hkc (by omega) (by omega) (by omega) (by omega) w1 HC.out HBy.out).mono ?_
      rintro e w2 ⟨rfl, hd2⟩
      rw [HGN.out]
      have HSt2 := Lib.hid (HSt.out.drawn hd2)
      have HG2 := Lib.hid (grown_trans_row HG.out (grown_of_below hd2.below (some R)) (.inl rfl))
      clear hd2
      go_wp2_with fail
      go_ret
      exact ⟨rfl, HSt2.out, HG2.out⟩

set_option maxHeartbeats 400000 in
theorem take_any (R D : Nat) (xs : List Int) (E : Int) (n : Int) (hn : -9223372036854775808 ≤ n) (hn' : n ≤ 9223372036854775807) (hl : xs.length ≤ 140737488355200) (w : World) (h : RdSt w R D 193 xs E) :
    Calls Try.prog 115 #[.pointer (some ⟨R, 0, none⟩), .int .i64 n] w fun e w' => ∃ v, e = .returned v ∧ w'.ownsRow w.heap.size 5 1 v (rdTake xs E (decide (0 ≤ n)) n).1.length (nums .u8 (rdTake xs E (decide (0 ≤ n)) n).1) ∧
      RdSt w' R D 193 (rdTake xs E (decide (0 ≤ n)) n).2.1 (rdTake xs E (decide (0 ≤ n)) n).2.2 ∧ w.grownBy w' (some R) := by
  obtain ⟨r, hr⟩ : ∃ r, decide (0 ≤ n) = r := ⟨_, rfl⟩
  rw [hr]
  have HS := Lib.hid (some_any R D xs E r n hn hn' (by rintro rfl; simpa using hr) w h)
  have HN : Hid (rdOk xs E r n = false → (rdTake xs E r n).1 = []) := rdOk_no
  have HL : Hid ((rdTake xs E r n).1.length ≤ 140737488355200) := Nat.le_trans rdTake_len hl
  by_cases h1 : 0 ≤ n
  · obtain rfl : r = true := by rw [← hr]; simp [h1]
    clear hr hl
    go_enter Try.func115, Try.ntmps115
    go_wp2_with fail
    refine HS.out.mono ?_
    rintro e w1 ⟨A1, c1, k, rfl, hk, hkc, hC, hD, hS, hg⟩
    have hkl := HL.out
    rw [hk] at hkl
    have HK := Lib.hid hk
    have HC := Lib.hid hC
    have HSt := Lib.hid hS
    have HG := Lib.hid hg
    clear hk hC hD hS hg
    generalize hO : rdOk xs E _ n = O at *
    cases O with
    | false =>
      have hz := HN.out rfl
      have hk0 : k = 0 := by rw [← HK.out, hz]; rfl
      have HZ := Lib.hid hz
      clear hO hz
      go_wp2_with fail
      go_ret
      exact ⟨_, rfl, by rw [HZ.out]; exact own_nil _ _ _ _, HSt.out, HG.out⟩
    | true =>
      clear hO
      go_wp2_with fail
      refine (again_any A1 k c1 _ HK.out (by omega) w1 HC.out).mono ?_
      rintro e w2 ⟨g, rfl, hgl, ho, hb2⟩
      have HO := Lib.hid (own_weaken ho HG.out.size)
      have HSt2 := Lib.hid (HSt.out.below hb2)
      have HG2 := Lib.hid (grown_trans_row HG.out (grown_of_below hb2 (some R)) (.inl rfl))
      clear hb2 ho
      go_wp2_with fail
      go_ret
      exact ⟨_, rfl, by rw [HK.out]; exact HO.out, HSt2.out, HG2.out⟩
  · obtain rfl : r = false := by rw [← hr]; simp [h1]
    clear hr hl
    go_enter Try.func115, Try.ntmps115
    go_wp2_with fail
    refine HS.out.mono ?_
    rintro e w1 ⟨A1, c1, k, rfl, hk, hkc, hC, hD, hS, hg⟩
    have hkl := HL.out
    rw [hk] at hkl
    have HK := Lib.hid hk
    have HC := Lib.hid hC
    have HSt := Lib.hid hS
    have HG := Lib.hid hg
    clear hk hC hD hS hg
    generalize hO : rdOk xs E _ n = O at *
    cases O with
    | false =>
      have hz := HN.out rfl
      have hk0 : k = 0 := by rw [← HK.out, hz]; rfl
      have HZ := Lib.hid hz
      clear hO hz
      go_wp2_with fail
      go_ret
      exact ⟨_, rfl, by rw [HZ.out]; exact own_nil _ _ _ _, HSt.out, HG.out⟩
    | true =>
      clear hO
      go_wp2_with fail
      refine (again_any A1 k c1 _ HK.out (by omega) w1 HC.out).mono ?_
      rintro e w2 ⟨g, rfl, hgl, ho, hb2⟩
      have HO := Lib.hid (own_weaken ho HG.out.size)
      have HSt2 := Lib.hid (HSt.out.below hb2)
      have HG2 := Lib.hid (grown_trans_row HG.out (grown_of_below hb2 (some R)) (.inl rfl))
      clear hb2 ho
      go_wp2_with fail
      go_ret
      exact ⟨_, rfl, by rw [HK.out]; exact HO.out, HSt2.out, HG2.out⟩

def rdLeft (xs : List Int) (E : Int) : Int := if E ≠ 0 then 0 else (xs.length : Int)

set_option maxHeartbeats 400000 in
theorem left_any (R D : Nat) (xs : List Int) (E : Int) (w : World) (h : RdSt w R D 193 xs E) :
    Calls Try.prog 131 #[.pointer (some ⟨R, 0, none⟩)] w fun e w' => e = .returned (.int .i64 (rdLeft xs E)) ∧ w' = w := by
  obtain ⟨A, c, h1, h2, h3, h4, h5, h6⟩ := h
  have hc0 := blk_cell h1 0
  have hc1 := blk_cell h1 1
  simp at hc0 hc1
  have HL : Hid ((E ≠ 0 → rdLeft xs E = 0) ∧ (E = 0 → rdLeft xs E = (xs.length : Int))) := ⟨fun h => by unfold rdLeft; rw [if_pos h], fun h => by unfold rdLeft; rw [if_neg (by simpa using h)]⟩
  clear h1 h4 h5 h6
  by_cases hE : E = 0
  · have HZ := Lib.hid (HL.out.2 hE)
    subst hE
    clear HL
    go_enter Try.func131, Try.ntmps131
    go_wp2
    go_ret
    exact ⟨by rw [HZ.out]; rfl, rfl⟩
  · have HZ := Lib.hid (HL.out.1 hE)
    have hne : (E != 0) = true := by simpa using hE
    clear HL hE
    go_enter Try.func131, Try.ntmps131
    go_wp2
    go_ret
    exact ⟨by rw [HZ.out]; rfl, rfl⟩
set_option maxHeartbeats 400000 in
theorem err_any (R D : Nat) (xs : List Int) (E : Int) (w : World) (h : RdSt w R D 193 xs E) :
    Calls Try.prog 117 #[.pointer (some ⟨R, 0, none⟩)] w fun e w' => e = .returned (.int .i64 E) ∧ w' = w := by
  obtain ⟨A, c, h1, h2, h3, h4, h5, h6⟩ := h
  have hc1 := blk_cell h1 1
  simp at hc1
  go_enter Try.func117, Try.ntmps117
  go_wp2
  go_ret
  exact ⟨rfl, rfl⟩
set_option maxHeartbeats 400000 in
theorem rest_any (R D : Nat) (xs : List Int) (E : Int) (hl : xs.length ≤ 140737488355200) (w : World) (h : RdSt w R D 193 xs E) :
    Calls Try.prog 116 #[.pointer (some ⟨R, 0, none⟩)] w fun e w' => ∃ v, e = .returned v ∧ w'.ownsRow w.heap.size 5 1 v (rdTake xs E true (rdLeft xs E)).1.length (nums .u8 (rdTake xs E true (rdLeft xs E)).1) ∧
      RdSt w' R D 193 (rdTake xs E true (rdLeft xs E)).2.1 (rdTake xs E true (rdLeft xs E)).2.2 ∧ w.grownBy w' (some R) := by
  have HS := Lib.hid h
  have h0 : 0 ≤ rdLeft xs E ∧ rdLeft xs E ≤ xs.length := by
    unfold rdLeft
    split <;> omega
  clear h
  go_enter Try.func116, Try.ntmps116
  go_wp2_with fail
  refine (left_any R D xs E w HS.out).mono ?_
  rintro e w1 ⟨rfl, rfl⟩
  obtain ⟨n, hn⟩ : ∃ n, rdLeft xs E = n := ⟨_, rfl⟩
  rw [hn] at h0 ⊢
  have HN := Lib.hid hn
  clear hn
  go_wp2_with fail
  refine (take_any R D xs E n (by omega) (by omega) hl _ HS.out).mono ?_
  rintro e w2 ⟨v, rfl, ho, hs, hg⟩
  rw [decide_eq_true h0.1] at ho hs
  have HO := Lib.hid ho
  have HS2 := Lib.hid hs
  have HG := Lib.hid hg
  clear ho hs hg
  go_wp2_with fail
  go_ret
  exact ⟨v, rfl, by rw [HN.out]; exact HO.out, by rw [HN.out]; exact HS2.out, HG.out⟩

set_option maxHeartbeats 400000 in
theorem newReader_any (A : Option Addr) (m c : Nat) (xs : List Int) (hm : xs.length = m) (hm' : m ≤ 140737488355400) (w : World) (hx : Cells w A (nums .u8 xs)) :
    Calls Try.prog 113 #[.slice A m c] w fun e w' => ∃ R D, e = .returned (.pointer (some ⟨R, 0, none⟩)) ∧ RdSt w' R D 193 xs 0 ∧ w.heap.size ≤ R ∧ w.heap.size ≤ D ∧ R < w'.heap.size ∧ D < w'.heap.size ∧ Below w.heap.size w w' := by
  go_enter Try.func113, Try.ntmps113
  go_wp2_with fail
  refine (again_any A m c xs hm hm' w hx).mono ?_
  rintro e w1 ⟨g, rfl, hg, ho, hb⟩
  have HO := Lib.hid ho
  have HB := Lib.hid hb
  have HM := Lib.hid hm
  clear hm ho hb
  go_wp2_with fail
  go_ret
  have hgl : g < w1.heap.size := own_lt HO.out g rfl
  refine ⟨w1.heap.size, g, rfl, ⟨some ⟨g, 0, none⟩, m, ?_, by rw [HM.out]; exact Nat.le_refl _, by omega, (own_cells HO.out).alloc _, (fun ad h => by injection h with h; rw [← h]), by omega⟩, HB.out.size, hg, by simp, by simp; omega, HB.out.alloc HB.out.size _⟩
  rw [HM.out]
  exact heap_alloc_new w1 _
end Go.Proofs.Ytobddmpiljknpaa

namespace Go.Proofs.Ytobddmpiljknpaa
open Go.RowKit
set_option linter.unusedVariables false
set_option linter.unusedSimpArgs false

def prtF : List Int → Option (List Int × List Int)
  | [] => none
  | x :: xs => if (xs.length : Int) < x then none else some (xs.take x.toNat, xs.drop x.toNat)
def ptsF (xs : List Int) : (List Int × List Int) × Int := match prtF xs with
  | none => (([], []), 8)
  | some (p, r) => if p = [] then (([], []), 4) else if nameF r = false then (([], []), 60) else ((p, r), 0)
def PartsTells (r : (List Int × List Int) × Int) (w : World) (e : Ending) (w' : World) : Prop :=
  ∃ A c, e = .returned (.tuple #[.slice A r.1.1.length c, .string (strOfNums r.1.2), .int .i64 r.2]) ∧ w'.ownsRow w.heap.size 5 1 (.slice A r.1.1.length c) r.1.1.length (nums .u8 r.1.1) ∧ Below w.heap.size w w'
theorem parts_no {F : (List Int × List Int) × Int} {x : Int} {w w' : World} (h : F = (([], []), x)) (hb : Below w.heap.size w w') : PartsTells F w (.returned (.tuple #[.slice none 0 0, .string ⟨#[]⟩, .int .i64 x])) w' := by
  rw [h]
  exact ⟨none, 0, rfl, own_nil _ _ _ _, hb⟩
/-- What stands behind a call of the reader. -/
theorem rd_ext {w0 w w1 : World} {R : Nat} (h : Ext w0 w) (hg : w.grownBy w1 (some R)) (hR : w0.heap.size ≤ R) : Ext w0 w1 := ⟨below_grown h.out h.out.size hg (fun k hk => by injection hk with hk; omega)⟩
set_option maxRecDepth 100000 in
set_option maxHeartbeats 8000000 in
theorem parts_any (A : Option Addr) (n c : Nat) (xs : List Int) (hn : xs.length = n) (hn' : n ≤ 140737488355200) (hb : Byt xs) (w : World) (hx : Cells w A (nums .u8 xs)) :
    Calls Try.prog 88 #[.agg #[.slice A n c]] w (PartsTells (ptsF xs) w) := by
  have Hn := Lib.hid hn
  have HX := Lib.hid hx
  have HB := Lib.hid hb
  clear hn hx hb
  rcases xs with _ | ⟨x, ys⟩
  · have HF : Hid (ptsF [] = (([], []), 8)) := rfl
    have HT1 : Hid (rdTake [] 0 (decide (1 ≤ (1 : Int)) && decide ((1 : Int) ≤ 8)) 1 = ([], [], 8)) := by rfl
    have HT2 : Hid (rdTake [] 8 (decide (0 ≤ (0 : Int))) 0 = ([], [], 8)) := by rfl
    have HT3 : Hid (rdTake [] 8 true (rdLeft [] 8) = ([], [], 8)) := by rfl
    have hg0 : getN [] = 0 := by rfl
    go_enter Try.func88, Try.ntmps88
    go_upto_region 1 with fail
    obtain ⟨wb, hwb⟩ : ∃ wb, w.alloc (.cells #[.slice A n c] 140) = wb := ⟨_, rfl⟩
    have HP : Hid (wb.heap[w.heap.size]? = some (.cells #[.slice A n c] 140 (0, 0))) := by unfold Hid; rw [← hwb]; exact at_new w _
    have Sb : Step wb w := ⟨by rw [← hwb]; exact Ext.out⟩
    rw [hwb]
    clear hwb
    have p0 : wb.cell? ⟨w.heap.size, 0, none⟩ = some (.slice A n c) := at_cell HP.out 0
    go_wp2_with fail
    refine (newReader_any A n c [] Hn.out (by omega) _ (by exact HX.out.ext)).mono ?_
    rintro e w1 ⟨R, D, rfl, hr1, hR, hD, hR', hD', hb1⟩
    have HR1 := Lib.hid hr1
    have S1 : Step w1 wb := ⟨hb1⟩
    have X1 : Hid (Ext w w1) := (inferInstance : Ext w w1)
    have HRW : Hid (w.heap.size ≤ R ∧ R < w1.heap.size) := ⟨Nat.le_trans Sb.out.size hR, hR'⟩
    clear p0 hr1 hR hD hR' hD' hb1
    go_wp2_with fail
    refine (num_any R D [] 0 1 (by decide) (by decide) HB.out (by rw [Hn.out]; omega) _ HR1.out).mono ?_
    rintro e w2 ⟨rfl, hr2, hg2⟩
    rw [HT1.out] at hr2 ⊢
    simp only at hr2 ⊢
    have HR2 := Lib.hid hr2
    have X2 : Hid (Ext w w2) := rd_ext X1.out hg2 HRW.out.1
    have HZ2 : Hid (R < w2.heap.size) := hr2.lt
    clear hr2 hg2
    rw [hg0]
    go_wp2_with fail
    refine (take_any R D [] 8 0 (by omega) (by omega) (by simp) _ HR2.out).mono ?_
    rintro e w3 ⟨v3, rfl, ho3, hr3, hg3⟩
    rw [HT2.out] at ho3 hr3
    simp only at ho3 hr3
    obtain ⟨A3, c3, rfl, hc3⟩ := own_slice ho3
    have HO3 := Lib.hid ho3
    have HR3 := Lib.hid hr3
    have X3 : Hid (Ext w w3) := rd_ext X2.out hg3 HRW.out.1
    have HZ3 : Hid (R < w3.heap.size) := hr3.lt
    clear ho3 hr3 hg3 hc3
    go_wp2_with fail
    refine (rest_any R D [] 8 (by simp) _ HR3.out).mono ?_
    rintro e w4 ⟨v4, rfl, ho4, hr4, hg4⟩
    rw [HT3.out] at ho4 hr4
    simp only at ho4 hr4
    obtain ⟨A4, c4, rfl, hc4⟩ := own_slice ho4
    have HR4 := Lib.hid hr4
    have X4 : Hid (Ext w w4) := rd_ext X3.out hg4 HRW.out.1
    have HO34 := Lib.hid (own_grown HO3.out hg4 (.inr fun h => by have h1 := own_base HO3.out _ h; have h2 := HZ2.out; omega))
    have hcv := conv_cells (P := Try.prog) (c := c4) 22 5 9 Try.underlying22 Try.underlying5 Try.underlying9 rfl (own_cells ho4)
    try simp only [List.length_nil] at hcv
    clear ho4 hr4 hg4 hc4
    go_wp2_with fail
    refine (err_any R D _ _ _ HR4.out).mono ?_
    rintro e w5 ⟨rfl, rfl⟩
    go_wp2_with fail
    go_ret3
    exact parts_no HF.out X4.out.out
  have hx0 := HB.out x (by simp)
  have hx1 := hx0.1
  have hx2 := hx0.2
  have hyl : ys.length ≤ 140737488355200 := by have h : ys.length + 1 = n := Hn.out; omega
  have HT1 : Hid (rdTake (x :: ys) 0 (decide (1 ≤ (1 : Int)) && decide ((1 : Int) ≤ 8)) 1 = ([x], ys, 0)) := by
    have h := rdTake_ok (xs := x :: ys) (n := 1) (by simp; omega)
    unfold Hid
    simpa using h
  have hg0 : getN [x] = x := by simp [getN]
  by_cases hlt : (ys.length : Int) < x
  · have HF : Hid (ptsF (x :: ys) = (([], []), 8)) := by unfold Hid ptsF; rw [show prtF (x :: ys) = none from if_pos hlt]
    have HT2 : Hid (rdTake ys 0 (decide (0 ≤ x)) x = ([], ys, 8)) := by unfold Hid; rw [decide_eq_true hx1]; exact rdTake_long hlt
    have HT3 : Hid (rdTake ys 8 true (rdLeft ys 8) = ([], ys, 8)) := rdTake_err (by decide)
    go_enter Try.func88, Try.ntmps88
    go_upto_region 1 with fail
    obtain ⟨wb, hwb⟩ : ∃ wb, w.alloc (.cells #[.slice A n c] 140) = wb := ⟨_, rfl⟩
    have HP : Hid (wb.heap[w.heap.size]? = some (.cells #[.slice A n c] 140 (0, 0))) := by unfold Hid; rw [← hwb]; exact at_new w _
    have Sb : Step wb w := ⟨by rw [← hwb]; exact Ext.out⟩
    rw [hwb]
    clear hwb
    have p0 : wb.cell? ⟨w.heap.size, 0, none⟩ = some (.slice A n c) := at_cell HP.out 0
    go_wp2_with fail
    refine (newReader_any A n c (x :: ys) Hn.out (by omega) _ (by exact HX.out.ext)).mono ?_
    rintro e w1 ⟨R, D, rfl, hr1, hR, hD, hR', hD', hb1⟩
    have HR1 := Lib.hid hr1
    have S1 : Step w1 wb := ⟨hb1⟩
    have X1 : Hid (Ext w w1) := (inferInstance : Ext w w1)
    have HRW : Hid (w.heap.size ≤ R ∧ R < w1.heap.size) := ⟨Nat.le_trans Sb.out.size hR, hR'⟩
    clear p0 hr1 hR hD hR' hD' hb1
    go_wp2_with fail
    refine (num_any R D (x :: ys) 0 1 (by decide) (by decide) HB.out (by rw [Hn.out]; omega) _ HR1.out).mono ?_
    rintro e w2 ⟨rfl, hr2, hg2⟩
    rw [HT1.out] at hr2 ⊢
    simp only at hr2 ⊢
    have HR2 := Lib.hid hr2
    have X2 : Hid (Ext w w2) := rd_ext X1.out hg2 HRW.out.1
    have HZ2 : Hid (R < w2.heap.size) := hr2.lt
    clear hr2 hg2
    rw [hg0]
    go_wp2_with fail
    refine (take_any R D ys 0 x (by omega) (by omega) hyl _ HR2.out).mono ?_
    rintro e w3 ⟨v3, rfl, ho3, hr3, hg3⟩
    rw [HT2.out] at ho3 hr3
    simp only at ho3 hr3
    obtain ⟨A3, c3, rfl, hc3⟩ := own_slice ho3
    have HO3 := Lib.hid ho3
    have HR3 := Lib.hid hr3
    have X3 : Hid (Ext w w3) := rd_ext X2.out hg3 HRW.out.1
    have HZ3 : Hid (R < w3.heap.size) := hr3.lt
    clear ho3 hr3 hg3 hc3
    go_wp2_with fail
    refine (rest_any R D ys 8 hyl _ HR3.out).mono ?_
    rintro e w4 ⟨v4, rfl, ho4, hr4, hg4⟩
    rw [HT3.out] at ho4 hr4
    simp only at ho4 hr4
    obtain ⟨A4, c4, rfl, hc4⟩ := own_slice ho4
    have HR4 := Lib.hid hr4
    have X4 : Hid (Ext w w4) := rd_ext X3.out hg4 HRW.out.1
    have HO34 := Lib.hid (own_grown HO3.out hg4 (.inr fun h => by have h1 := own_base HO3.out _ h; have h2 := HZ2.out; omega))
    have hcv := conv_cells (P := Try.prog) (c := c4) 22 5 9 Try.underlying22 Try.underlying5 Try.underlying9 rfl (own_cells ho4)
    try simp only [List.length_nil] at hcv
    clear ho4 hr4 hg4 hc4
    go_wp2_with fail
    refine (err_any R D _ _ _ HR4.out).mono ?_
    rintro e w5 ⟨rfl, rfl⟩
    go_wp2_with fail
    go_ret3
    exact parts_no HF.out X4.out.out
  obtain ⟨p, hp⟩ : ∃ p, ys.take x.toNat = p := ⟨_, rfl⟩
  obtain ⟨r, hr⟩ : ∃ r, ys.drop x.toNat = r := ⟨_, rfl⟩
  have HPR : Hid (prtF (x :: ys) = some (p, r)) := by unfold Hid; rw [← hp, ← hr]; exact if_neg hlt
  have HT2 : Hid (rdTake ys 0 (decide (0 ≤ x)) x = (p, r, 0)) := by unfold Hid; rw [decide_eq_true hx1, ← hp, ← hr]; exact rdTake_ok hlt
  have HPL : Hid ((p.length : Int) = x) := by unfold Hid; rw [← hp, List.length_take]; omega
  have HRL : Hid (r.length ≤ 140737488355200) := by unfold Hid; rw [← hr, List.length_drop]; omega
  have HRB : Hid (Byt r) := fun y hy => HB.out y (List.mem_cons_of_mem _ (List.mem_of_mem_drop (by rw [hr]; exact hy)))
  have HT3 : Hid (rdTake r 0 true (rdLeft r 0) = (r, [], 0)) := by
    have h := rdTake_ok (xs := r) (n := rdLeft r 0) (by simp [rdLeft])
    unfold Hid
    rw [h]
    simp [rdLeft]
  clear hp hr
  by_cases hz : x = 0
  · have hpn : p = [] := List.eq_nil_of_length_eq_zero (by have := HPL.out; omega)
    have HF : Hid (ptsF (x :: ys) = (([], []), 4)) := by unfold Hid ptsF; rw [HPR.out]; exact if_pos hpn
    clear hpn
    subst hz
    go_enter Try.func88, Try.ntmps88
    go_upto_region 1 with fail
    obtain ⟨wb, hwb⟩ : ∃ wb, w.alloc (.cells #[.slice A n c] 140) = wb := ⟨_, rfl⟩
    have HP : Hid (wb.heap[w.heap.size]? = some (.cells #[.slice A n c] 140 (0, 0))) := by unfold Hid; rw [← hwb]; exact at_new w _
    have Sb : Step wb w := ⟨by rw [← hwb]; exact Ext.out⟩
    rw [hwb]
    clear hwb
    have p0 : wb.cell? ⟨w.heap.size, 0, none⟩ = some (.slice A n c) := at_cell HP.out 0
    go_wp2_with fail
    refine (newReader_any A n c (0 :: ys) Hn.out (by omega) _ (by exact HX.out.ext)).mono ?_
    rintro e w1 ⟨R, D, rfl, hr1, hR, hD, hR', hD', hb1⟩
    have HR1 := Lib.hid hr1
    have S1 : Step w1 wb := ⟨hb1⟩
    have X1 : Hid (Ext w w1) := (inferInstance : Ext w w1)
    have HRW : Hid (w.heap.size ≤ R ∧ R < w1.heap.size) := ⟨Nat.le_trans Sb.out.size hR, hR'⟩
    clear p0 hr1 hR hD hR' hD' hb1
    go_wp2_with fail
    refine (num_any R D (0 :: ys) 0 1 (by decide) (by decide) HB.out (by rw [Hn.out]; omega) _ HR1.out).mono ?_
    rintro e w2 ⟨rfl, hr2, hg2⟩
    rw [HT1.out] at hr2 ⊢
    simp only at hr2 ⊢
    have HR2 := Lib.hid hr2
    have X2 : Hid (Ext w w2) := rd_ext X1.out hg2 HRW.out.1
    have HZ2 : Hid (R < w2.heap.size) := hr2.lt
    clear hr2 hg2
    rw [hg0]
    go_wp2_with fail
    refine (take_any R D ys 0 0 (by omega) (by omega) hyl _ HR2.out).mono ?_
    rintro e w3 ⟨v3, rfl, ho3, hr3, hg3⟩
    rw [HT2.out] at ho3 hr3
    simp only at ho3 hr3
    obtain ⟨A3, c3, rfl, hc3⟩ := own_slice ho3
    have HO3 := Lib.hid ho3
    have HR3 := Lib.hid hr3
    have X3 : Hid (Ext w w3) := rd_ext X2.out hg3 HRW.out.1
    have HZ3 : Hid (R < w3.heap.size) := hr3.lt
    clear ho3 hr3 hg3 hc3
    go_wp2_with fail
    refine (rest_any R D r 0 HRL.out _ HR3.out).mono ?_
    rintro e w4 ⟨v4, rfl, ho4, hr4, hg4⟩
    rw [HT3.out] at ho4 hr4
    simp only at ho4 hr4
    obtain ⟨A4, c4, rfl, hc4⟩ := own_slice ho4
    have HR4 := Lib.hid hr4
    have X4 : Hid (Ext w w4) := rd_ext X3.out hg4 HRW.out.1
    have HO34 := Lib.hid (own_grown HO3.out hg4 (.inr fun h => by have h1 := own_base HO3.out _ h; have h2 := HZ2.out; omega))
    have hcv := conv_cells (P := Try.prog) (c := c4) 22 5 9 Try.underlying22 Try.underlying5 Try.underlying9 rfl (own_cells ho4)
    try simp only [List.length_nil] at hcv
    clear ho4 hr4 hg4 hc4
    go_wp2_with fail
    refine (err_any R D _ _ _ HR4.out).mono ?_
    rintro e w5 ⟨rfl, rfl⟩
    go_wp2_with fail
    go_ret3
    exact parts_no HF.out X4.out.out
  have hzb : (x == 0) = false := by simpa using hz
  have hpn : p ≠ [] := fun h => hz (by have h2 := HPL.out; rw [h] at h2; simpa using h2.symm)
  have HNS : Hid ((strOfNums r).size ≤ 140737488355328) := by unfold Hid; rw [← strB_len, strB_str _ HRB.out]; have := HRL.out; omega
  rcases hnm : nameF r with _ | _
  · have HF : Hid (ptsF (x :: ys) = (([], []), 60)) := by unfold Hid ptsF; rw [HPR.out]; simp only; rw [if_neg hpn, if_pos hnm]
    have HNM : Hid (nameF (strB (strOfNums r)) = false) := by unfold Hid; rw [strB_str _ HRB.out]; exact hnm
    clear hpn hnm
    go_enter Try.func88, Try.ntmps88
    go_upto_region 1 with fail
    obtain ⟨wb, hwb⟩ : ∃ wb, w.alloc (.cells #[.slice A n c] 140) = wb := ⟨_, rfl⟩
    have HP : Hid (wb.heap[w.heap.size]? = some (.cells #[.slice A n c] 140 (0, 0))) := by unfold Hid; rw [← hwb]; exact at_new w _
    have Sb : Step wb w := ⟨by rw [← hwb]; exact Ext.out⟩
    rw [hwb]
    clear hwb
    have p0 : wb.cell? ⟨w.heap.size, 0, none⟩ = some (.slice A n c) := at_cell HP.out 0
    go_wp2_with fail
    refine (newReader_any A n c (x :: ys) Hn.out (by omega) _ (by exact HX.out.ext)).mono ?_
    rintro e w1 ⟨R, D, rfl, hr1, hR, hD, hR', hD', hb1⟩
    have HR1 := Lib.hid hr1
    have S1 : Step w1 wb := ⟨hb1⟩
    have X1 : Hid (Ext w w1) := (inferInstance : Ext w w1)
    have HRW : Hid (w.heap.size ≤ R ∧ R < w1.heap.size) := ⟨Nat.le_trans Sb.out.size hR, hR'⟩
    clear p0 hr1 hR hD hR' hD' hb1
    go_wp2_with fail
    refine (num_any R D (x :: ys) 0 1 (by decide) (by decide) HB.out (by rw [Hn.out]; omega) _ HR1.out).mono ?_
    rintro e w2 ⟨rfl, hr2, hg2⟩
    rw [HT1.out] at hr2 ⊢
    simp only at hr2 ⊢
    have HR2 := Lib.hid hr2
    have X2 : Hid (Ext w w2) := rd_ext X1.out hg2 HRW.out.1
    have HZ2 : Hid (R < w2.heap.size) := hr2.lt
    clear hr2 hg2
    rw [hg0]
    go_wp2_with fail
    refine (take_any R D ys 0 x (by omega) (by omega) hyl _ HR2.out).mono ?_
    rintro e w3 ⟨v3, rfl, ho3, hr3, hg3⟩
    rw [HT2.out] at ho3 hr3
    simp only at ho3 hr3
    obtain ⟨A3, c3, rfl, hc3⟩ := own_slice ho3
    have HO3 := Lib.hid ho3
    have HR3 := Lib.hid hr3
    have X3 : Hid (Ext w w3) := rd_ext X2.out hg3 HRW.out.1
    have HZ3 : Hid (R < w3.heap.size) := hr3.lt
    clear ho3 hr3 hg3 hc3
    go_wp2_with fail
    refine (rest_any R D r 0 HRL.out _ HR3.out).mono ?_
    rintro e w4 ⟨v4, rfl, ho4, hr4, hg4⟩
    rw [HT3.out] at ho4 hr4
    simp only at ho4 hr4
    obtain ⟨A4, c4, rfl, hc4⟩ := own_slice ho4
    have HR4 := Lib.hid hr4
    have X4 : Hid (Ext w w4) := rd_ext X3.out hg4 HRW.out.1
    have HO34 := Lib.hid (own_grown HO3.out hg4 (.inr fun h => by have h1 := own_base HO3.out _ h; have h2 := HZ2.out; omega))
    have hcv := conv_cells (P := Try.prog) (c := c4) 22 5 9 Try.underlying22 Try.underlying5 Try.underlying9 rfl (own_cells ho4)
    try simp only [List.length_nil] at hcv
    clear ho4 hr4 hg4 hc4
    go_wp2_with fail
    refine (err_any R D _ _ _ HR4.out).mono ?_
    rintro e w5 ⟨rfl, rfl⟩
    go_wp2_with fail
    refine (named_any (strOfNums r) HNS.out _).mono ?_
    rintro e w6 ⟨rfl, rfl⟩
    rw [HNM.out]
    go_wp2_with fail
    go_ret3
    exact parts_no HF.out X4.out.out
  · have HF : Hid (ptsF (x :: ys) = ((p, r), 0)) := by unfold Hid ptsF; rw [HPR.out]; simp only; rw [if_neg hpn, if_neg (by simp [hnm])]
    have HNM : Hid (nameF (strB (strOfNums r)) = true) := by unfold Hid; rw [strB_str _ HRB.out]; exact hnm
    clear hpn hnm
    go_enter Try.func88, Try.ntmps88
    go_upto_region 1 with fail
    obtain ⟨wb, hwb⟩ : ∃ wb, w.alloc (.cells #[.slice A n c] 140) = wb := ⟨_, rfl⟩
    have HP : Hid (wb.heap[w.heap.size]? = some (.cells #[.slice A n c] 140 (0, 0))) := by unfold Hid; rw [← hwb]; exact at_new w _
    have Sb : Step wb w := ⟨by rw [← hwb]; exact Ext.out⟩
    rw [hwb]
    clear hwb
    have p0 : wb.cell? ⟨w.heap.size, 0, none⟩ = some (.slice A n c) := at_cell HP.out 0
    go_wp2_with fail
    refine (newReader_any A n c (x :: ys) Hn.out (by omega) _ (by exact HX.out.ext)).mono ?_
    rintro e w1 ⟨R, D, rfl, hr1, hR, hD, hR', hD', hb1⟩
    have HR1 := Lib.hid hr1
    have S1 : Step w1 wb := ⟨hb1⟩
    have X1 : Hid (Ext w w1) := (inferInstance : Ext w w1)
    have HRW : Hid (w.heap.size ≤ R ∧ R < w1.heap.size) := ⟨Nat.le_trans Sb.out.size hR, hR'⟩
    clear p0 hr1 hR hD hR' hD' hb1
    go_wp2_with fail
    refine (num_any R D (x :: ys) 0 1 (by decide) (by decide) HB.out (by rw [Hn.out]; omega) _ HR1.out).mono ?_
    rintro e w2 ⟨rfl, hr2, hg2⟩
    rw [HT1.out] at hr2 ⊢
    simp only at hr2 ⊢
    have HR2 := Lib.hid hr2
    have X2 : Hid (Ext w w2) := rd_ext X1.out hg2 HRW.out.1
    have HZ2 : Hid (R < w2.heap.size) := hr2.lt
    clear hr2 hg2
    rw [hg0]
    go_wp2_with fail
    refine (take_any R D ys 0 x (by omega) (by omega) hyl _ HR2.out).mono ?_
    rintro e w3 ⟨v3, rfl, ho3, hr3, hg3⟩
    rw [HT2.out] at ho3 hr3
    simp only at ho3 hr3
    obtain ⟨A3, c3, rfl, hc3⟩ := own_slice ho3
    have HO3 := Lib.hid ho3
    have HR3 := Lib.hid hr3
    have X3 : Hid (Ext w w3) := rd_ext X2.out hg3 HRW.out.1
    have HZ3 : Hid (R < w3.heap.size) := hr3.lt
    clear ho3 hr3 hg3 hc3
    go_wp2_with fail
    refine (rest_any R D r 0 HRL.out _ HR3.out).mono ?_
    rintro e w4 ⟨v4, rfl, ho4, hr4, hg4⟩
    rw [HT3.out] at ho4 hr4
    simp only at ho4 hr4
    obtain ⟨A4, c4, rfl, hc4⟩ := own_slice ho4
    have HR4 := Lib.hid hr4
    have X4 : Hid (Ext w w4) := rd_ext X3.out hg4 HRW.out.1
    have HO34 := Lib.hid (own_grown HO3.out hg4 (.inr fun h => by have h1 := own_base HO3.out _ h; have h2 := HZ2.out; omega))
    have hcv := conv_cells (P := Try.prog) (c := c4) 22 5 9 Try.underlying22 Try.underlying5 Try.underlying9 rfl (own_cells ho4)
    try simp only [List.length_nil] at hcv
    clear ho4 hr4 hg4 hc4
    go_wp2_with fail
    refine (err_any R D _ _ _ HR4.out).mono ?_
    rintro e w5 ⟨rfl, rfl⟩
    go_wp2_with fail
    refine (named_any (strOfNums r) HNS.out _).mono ?_
    rintro e w6 ⟨rfl, rfl⟩
    rw [HNM.out]
    go_wp2_with fail
    go_ret3
    rw [HF.out]
    exact ⟨A3, c3, rfl, own_weaken HO34.out X2.out.out.size, X4.out.out⟩
end Go.Proofs.Ytobddmpiljknpaa

namespace Go.Proofs.Ytobddmpiljknpaa
open Go.RowKit
set_option linter.unusedVariables false
set_option linter.unusedSimpArgs false

def badP (code id : Int) : Bool := decide ((code ≠ 1 ∧ code ≠ 2) ∨ id < 0 ∨ 255 < id)
def rdF (code id : Int) (xs : List Int) : (List Int × List Int) × Int := if badP code id then (([], []), 90) else ptsF xs
def kindV (code id : Int) (A : Option Addr) (n c : Nat) : Value := if badP code id then .iface 142 (.agg #[]) else .iface 140 (.agg #[.slice A n c])
set_option maxRecDepth 100000 in
set_option maxHeartbeats 2000000 in
theorem kind_any (code id : Int) (A : Option Addr) (n c : Nat) (w : World) :
    Calls Try.prog 65 #[.agg #[.int .i64 code, .int .i64 id, .slice A n c]] w fun e w' => e = .returned (kindV code id A n c) ∧ Below w.heap.size w w' := by
  by_cases c1 : code = 1
  · subst c1
    by_cases i1 : id < 0
    · have HF : Hid (kindV 1 id A n c = .iface 142 (.agg #[])) := if_pos (decide_eq_true (by omega))
      go_enter Try.func65, Try.ntmps65
      go_wp2_with fail
      go_ret
      exact ⟨by rw [HF.out]; rfl, Ext.out⟩
    by_cases i2 : 255 < id
    · have HF : Hid (kindV 1 id A n c = .iface 142 (.agg #[])) := if_pos (decide_eq_true (by omega))
      go_enter Try.func65, Try.ntmps65
      go_wp2_with fail
      go_ret
      exact ⟨by rw [HF.out]; rfl, Ext.out⟩
    have HF : Hid (kindV 1 id A n c = .iface 140 (.agg #[.slice A n c])) := if_neg (by unfold badP; rw [decide_eq_false (by omega)]; simp)
    go_enter Try.func65, Try.ntmps65
    go_wp2_with fail
    go_ret
    exact ⟨by rw [HF.out]; rfl, Ext.out⟩
  by_cases c2 : code = 2
  · subst c2
    by_cases i1 : id < 0
    · have HF : Hid (kindV 2 id A n c = .iface 142 (.agg #[])) := if_pos (decide_eq_true (by omega))
      go_enter Try.func65, Try.ntmps65
      go_wp2_with fail
      go_ret
      exact ⟨by rw [HF.out]; rfl, Ext.out⟩
    by_cases i2 : 255 < id
    · have HF : Hid (kindV 2 id A n c = .iface 142 (.agg #[])) := if_pos (decide_eq_true (by omega))
      go_enter Try.func65, Try.ntmps65
      go_wp2_with fail
      go_ret
      exact ⟨by rw [HF.out]; rfl, Ext.out⟩
    have HF : Hid (kindV 2 id A n c = .iface 140 (.agg #[.slice A n c])) := if_neg (by unfold badP; rw [decide_eq_false (by omega)]; simp)
    go_enter Try.func65, Try.ntmps65
    go_wp2_with fail
    go_ret
    exact ⟨by rw [HF.out]; rfl, Ext.out⟩
  have HF : Hid (kindV code id A n c = .iface 142 (.agg #[])) := if_pos (decide_eq_true (by omega))
  have c1' : (code != 1) = true := by simpa using c1
  have c2' : (code != 2) = true := by simpa using c2
  clear c1 c2
  go_enter Try.func65, Try.ntmps65
  go_wp2_with fail
  go_ret
  exact ⟨by rw [HF.out]; rfl, Ext.out⟩
theorem oparts_any (w : World) : Calls Try.prog 152 #[.agg #[]] w fun e w' => e = .returned (.tuple #[.slice none 0 0, .string ⟨#[]⟩, .int .i64 90]) ∧ Below w.heap.size w w' := by
  go_enter Try.func152, Try.ntmps152
  go_wp2_with fail
  go_ret3
  exact ⟨rfl, Ext.out⟩
set_option maxRecDepth 100000 in
set_option maxHeartbeats 2000000 in
theorem read_any (code id : Int) (A : Option Addr) (n c : Nat) (xs : List Int) (hn : xs.length = n) (hn' : n ≤ 140737488355200) (hb : Byt xs) (w : World) (hx : Cells w A (nums .u8 xs)) :
    Calls Try.prog 20 #[.agg #[.int .i64 code, .int .i64 id, .slice A n c]] w (PartsTells (rdF code id xs) w) := by
  have Hn := Lib.hid hn
  have HX := Lib.hid hx
  have HB := Lib.hid hb
  clear hn hx hb
  rcases hbd : badP code id with _ | _
  · have HK : Hid (kindV code id A n c = .iface 140 (.agg #[.slice A n c])) := if_neg (by rw [hbd]; simp)
    have HF : Hid (rdF code id xs = ptsF xs) := if_neg (by rw [hbd]; simp)
    clear hbd
    go_enter Try.func20, Try.ntmps20
    go_wp2_with fail
    refine (kind_any code id A n c _).mono ?_
    rintro e w1 ⟨rfl, hb1⟩
    rw [HK.out]
    have S1 : Step w1 _ := ⟨hb1⟩
    clear hb1
    go_wp2_with fail
    refine (parts_any A n c xs Hn.out hn' HB.out _ (by exact HX.out.ext)).mono ?_
    rintro e w2 ⟨A2, c2, rfl, ho2, hb2⟩
    have S2 : Step w2 w1 := ⟨hb2⟩
    have HO2 := Lib.hid ho2
    obtain ⟨⟨⟨p, r⟩, x⟩, hF⟩ : ∃ F, ptsF xs = F := ⟨_, rfl⟩
    have HF2 := Lib.hid hF
    rw [hF] at HO2 ⊢
    simp only at HO2 ⊢
    clear ho2 hb2 hF
    go_wp2_with fail
    go_ret3
    rw [HF.out, HF2.out]
    exact ⟨A2, c2, rfl, own_weaken HO2.out (size_ext (w := w) (w' := w1)), (inferInstance : Ext w w2).out⟩
  · have HK : Hid (kindV code id A n c = .iface 142 (.agg #[])) := if_pos hbd
    have HF : Hid (rdF code id xs = (([], []), 90)) := if_pos hbd
    clear hbd
    go_enter Try.func20, Try.ntmps20
    go_wp2_with fail
    refine (kind_any code id A n c _).mono ?_
    rintro e w1 ⟨rfl, hb1⟩
    rw [HK.out]
    have S1 : Step w1 _ := ⟨hb1⟩
    clear hb1
    go_wp2_with fail
    refine (oparts_any _).mono ?_
    rintro e w2 ⟨rfl, hb2⟩
    have S2 : Step w2 w1 := ⟨hb2⟩
    clear hb2
    go_wp2_with fail
    go_ret3
    exact parts_no HF.out (inferInstance : Ext w w2).out
end Go.Proofs.Ytobddmpiljknpaa

namespace Go.Proofs.Ytobddmpiljknpaa
open Go.RowKit
set_option linter.unusedVariables false
set_option linter.unusedSimpArgs false

theorem results_cell_row1 {P : Program} {fn : Func} {p : Tmp} {ty : TypeId} (h : fn.results = #[.cell p ty]) (tmps : Array Value) (w : World) (g : Nat) (t : TypeId) (cs : Array Value) (fr : Nat × Nat) (d : TypeDesc)
    (hp : tmps.getD p undef = .pointer (some ⟨g, 0, none⟩)) (hg : w.heap[g]? = some (.cells cs t fr))
    (hu : P.underlying ty = some d) (hd : (match d with | .struct _ | .array _ _ => true | _ => false) = true) (hi : (P.info? ty).map (·.size) = some cs.size) :
    (results fn tmps).run P w = .ok (.agg cs) w := by
  have hp' : tmps[p]?.getD undef = .pointer (some ⟨g, 0, none⟩) := by simpa using hp
  simp [results, h, hp', asAddr, run_loadVar_row w g t ty cs fr d hg hu hd hi]
theorem cells_setRow {w : World} {A : Option Addr} {cs : List Value} {g : Nat} (h : Cells w A cs) (hA : ∀ ad, A = some ad → ad.block ≠ g) (row : Array Value) : Cells (w.setRow g row) A cs :=
  h.grown (row := some g) ⟨rfl, rfl, rfl, by simp [World.setRow], fun k _ hk => setRow_other _ _ _ _ (fun e => hk (by rw [e]))⟩ fun ad ha e => hA ad ha (Option.some.inj e)
def ToldTells (r : (Int × Int) × List Int × Int) (w : World) (e : Ending) (w' : World) : Prop :=
  ∃ A c, e = .returned (.tuple #[.agg #[.int .i64 r.1.1, .int .i64 r.1.2, .slice A r.2.1.length c], .int .i64 r.2.2]) ∧ r.2.1.length ≤ c ∧ Cells w' A (nums .u8 r.2.1) ∧ Below w.heap.size w w'
set_option maxRecDepth 100000 in
set_option maxHeartbeats 4000000 in
theorem told_any (code id : Int) (s : ByteArray) (hs : s.size ≤ 140737488355328) (w : World) :
    Calls Try.prog 18 #[.int .i64 code, .int .i64 id, .string s] w (ToldTells (tdF code id (strB s)) w) := by
  have HL := Lib.hid (strB_len s)
  go_enter Try.func18, Try.ntmps18
  go_upto_region 1 with fail
  obtain ⟨wb, hwb⟩ : ∃ wb, w.alloc zPk = wb := ⟨_, rfl⟩
  have HZ : Hid (wb.heap[w.heap.size]? = some zPk) := by unfold Hid; rw [← hwb]; exact at_new w _
  have HW : Hid (Ext w wb) := by unfold Hid; rw [← hwb]; exact inferInstance
  have HLB : Hid (w.heap.size < wb.heap.size) := at_lt HZ.out
  rw [hwb]
  clear hwb
  obtain ⟨q, hq⟩ : ∃ q, decide ((code ≠ 3 ∧ code ≠ 4) ∨ id < 0 ∨ 255 < id) = q := ⟨_, rfl⟩
  have HQ := Lib.hid hq
  clear hq
  go_cut [22] (fun s wx => s = .bool q ∧ wb = wx)
  case first =>
    by_cases c1 : code = 3
    · subst c1
      by_cases i1 : id < 0
      · skip
        go_wp2_with fail
        go_meet
        case rel => exact ⟨by rw [← HQ.out, decide_eq_true (by omega)], rfl⟩
      by_cases i2 : 255 < id
      · skip
        go_wp2_with fail
        go_meet
        case rel => exact ⟨by rw [← HQ.out, decide_eq_true (by omega)], rfl⟩
      go_wp2_with fail
      go_meet
      case rel => exact ⟨by rw [← HQ.out, decide_eq_false (by omega)], rfl⟩
    have c1' : (code != 3) = true := by simpa using c1
    by_cases c2 : code = 4
    · subst c2
      by_cases i1 : id < 0
      · skip
        go_wp2_with fail
        go_meet
        case rel => exact ⟨by rw [← HQ.out, decide_eq_true (by omega)], rfl⟩
      by_cases i2 : 255 < id
      · skip
        go_wp2_with fail
        go_meet
        case rel => exact ⟨by rw [← HQ.out, decide_eq_true (by omega)], rfl⟩
      go_wp2_with fail
      go_meet
      case rel => exact ⟨by rw [← HQ.out, decide_eq_false (by omega)], rfl⟩
    have c2' : (code != 4) = true := by simpa using c2
    go_wp2_with fail
    go_meet
    case rel => exact ⟨by rw [← HQ.out, decide_eq_true (by omega)], rfl⟩
  case' rest =>
    obtain ⟨rfl, rfl⟩ := hcut
  cases q
  case true =>
    have HR : Hid (tdF code id (strB s) = ((0, 0), [], 90)) := if_pos (of_decide_eq_true HQ.out)
    go_wp2_with
      (refine wpList_store_row rfl 24 (.tmp 6) (.tmp 23) rfl w.heap.size #[.int .i64 0, .int .i64 0, .slice none 0 0] rfl rfl 24 #[.int .i64 0, .int .i64 0, .slice none 0 0] HZ.out (by kernel_rfl) rfl (by simp [Value.oneCell']) ?_)
    refine bodyPost_ret (results_cell_row2 Try.results18 _ _ w.heap.size 24 #[.int .i64 0, .int .i64 0, .slice none 0 0] (0, 0) _ (.int .i64 90) rfl rfl (setRow_heap _ _ _ _ _ _ HZ.out) Try.underlying24 rfl (by kernel_rfl)) rfl ?_
    rw [HR.out]
    exact ⟨none, 0, rfl, Nat.le_refl _, Cells.nil_ _ _, (Ext.setRow_ HW.out (Nat.le_refl _) _).out⟩
  have HG := Lib.hid (of_decide_eq_false HQ.out)
  go_wp2_with fail
  go_loopw [26, 8] (fun i t wr => ∃ k : Nat, i = .int .i64 k ∧ k ≤ s.size ∧ Hid (((strB s).take k).all okP = true) ∧ wb = wr) (fun i _ _ => s.size - (intOf i).toNat)
  case atStart => exact ⟨0, rfl, by omega, rfl, rfl⟩
  case round =>
    obtain ⟨k, rfl, hk, HA, rfl⟩ := hrel
    by_cases hlt : k < s.size
    · have hI : (k : Int) < (s.size : Int) := by omega
      have HLT := Lib.hid (show k < (strB s).length by rw [HL.out]; exact hlt)
      have HX : Hid ((strB s).getD k 0 = ((s[k]'hlt).toNat : Int)) := by
        unfold Hid strB
        rw [List.getD_eq_getElem?_getD, List.getElem?_map]
        have h2 : k < s.data.toList.length := by rw [Array.length_toList]; exact hlt
        rw [List.getElem?_eq_getElem h2]
        rfl
      by_cases p1 : ((s[k]'hlt).toNat : Int) < 32
      · have HR : Hid (tdF code id (strB s) = ((0, 0), [], 3)) := by unfold Hid tdF; rw [if_neg HG.out, if_pos (show plainF (strB s) = false from all_not HLT.out (by rw [HX.out]; unfold okP; exact decide_eq_false (by omega)))]
        go_wp2_with
          (refine wpList_store_row rfl 24 (.tmp 6) (.tmp 39) rfl w.heap.size #[.int .i64 0, .int .i64 0, .slice none 0 0] rfl rfl 24 #[.int .i64 0, .int .i64 0, .slice none 0 0] HZ.out (by kernel_rfl) rfl (by simp [Value.oneCell']) ?_)
        refine bodyPost_ret (results_cell_row2 Try.results18 _ _ w.heap.size 24 #[.int .i64 0, .int .i64 0, .slice none 0 0] (0, 0) _ (.int .i64 3) rfl rfl (setRow_heap _ _ _ _ _ _ HZ.out) Try.underlying24 rfl (by kernel_rfl)) rfl ?_
        rw [HR.out]
        exact ⟨none, 0, rfl, Nat.le_refl _, Cells.nil_ _ _, (Ext.setRow_ HW.out (Nat.le_refl _) _).out⟩
      by_cases p2 : 126 < ((s[k]'hlt).toNat : Int)
      · have HR : Hid (tdF code id (strB s) = ((0, 0), [], 3)) := by unfold Hid tdF; rw [if_neg HG.out, if_pos (show plainF (strB s) = false from all_not HLT.out (by rw [HX.out]; unfold okP; exact decide_eq_false (by omega)))]
        go_wp2_with
          (refine wpList_store_row rfl 24 (.tmp 6) (.tmp 39) rfl w.heap.size #[.int .i64 0, .int .i64 0, .slice none 0 0] rfl rfl 24 #[.int .i64 0, .int .i64 0, .slice none 0 0] HZ.out (by kernel_rfl) rfl (by simp [Value.oneCell']) ?_)
        refine bodyPost_ret (results_cell_row2 Try.results18 _ _ w.heap.size 24 #[.int .i64 0, .int .i64 0, .slice none 0 0] (0, 0) _ (.int .i64 3) rfl rfl (setRow_heap _ _ _ _ _ _ HZ.out) Try.underlying24 rfl (by kernel_rfl)) rfl ?_
        rw [HR.out]
        exact ⟨none, 0, rfl, Nat.le_refl _, Cells.nil_ _ _, (Ext.setRow_ HW.out (Nat.le_refl _) _).out⟩
      have HA2 := Lib.hid (all_take_succ HA.out HLT.out (by rw [HX.out]; unfold okP; exact decide_eq_true (by omega)))
      go_wp2_with fail
      go_roundw
      case rel => exact ⟨k + 1, by go_num, by omega, HA2.out, trivial⟩
      case measure => simp [intOf]; omega
    · obtain rfl : k = s.size := by omega
      have HPL : Hid (plainF (strB s) = true) := by
        have h1 := HA.out
        rw [List.take_of_length_le (by rw [HL.out]; exact Nat.le_refl _)] at h1
        exact h1
      by_cases l1 : 255 < s.size
      · have HR : Hid (tdF code id (strB s) = ((0, 0), [], 3)) := by unfold Hid tdF; rw [if_neg HG.out, if_neg (by rw [HPL.out]; simp), if_pos (by rw [HL.out]; exact l1)]
        have l1I : 255 < (s.size : Int) := by omega
        go_wp2_with
          (refine wpList_store_row rfl 24 (.tmp 6) (.tmp 44) rfl w.heap.size #[.int .i64 0, .int .i64 0, .slice none 0 0] rfl rfl 24 #[.int .i64 0, .int .i64 0, .slice none 0 0] HZ.out (by kernel_rfl) rfl (by simp [Value.oneCell']) ?_)
        refine bodyPost_ret (results_cell_row2 Try.results18 _ _ w.heap.size 24 #[.int .i64 0, .int .i64 0, .slice none 0 0] (0, 0) _ (.int .i64 3) rfl rfl (setRow_heap _ _ _ _ _ _ HZ.out) Try.underlying24 rfl (by kernel_rfl)) rfl ?_
        rw [HR.out]
        exact ⟨none, 0, rfl, Nat.le_refl _, Cells.nil_ _ _, (Ext.setRow_ HW.out (Nat.le_refl _) _).out⟩
      have l1I : ¬ 255 < (s.size : Int) := by omega
      have HR : Hid (tdF code id (strB s) = ((code, id), strB s, 0)) := by unfold Hid tdF; rw [if_neg HG.out, if_neg (by rw [HPL.out]; simp), if_neg (by rw [HL.out]; exact l1)]
      obtain ⟨w1, c1, hcv, hsc, hC1, hB1, _⟩ := conv_str (P := Try.prog) wb 9 22 5 s Try.underlying9 Try.underlying22 Try.underlying5
      have HC1 := Lib.hid hC1
      have HSC := Lib.hid hsc
      have X1 : Hid (Ext wb w1) := ⟨hB1⟩
      have HZ1 : Hid (w1.heap[w.heap.size]? = some zPk) := at_ext (h := X1.out) HZ.out
      clear hC1 hB1 hsc
      go_wp2_with
        (refine wpList_store_row rfl 24 (.tmp 6) (.tmp 49) rfl w.heap.size #[.int .i64 code, .int .i64 id, .slice (some ⟨wb.heap.size, 0, none⟩) s.size c1] rfl rfl 24 #[.int .i64 0, .int .i64 0, .slice none 0 0] HZ1.out (by kernel_rfl) rfl (by simp [Value.oneCell']) ?_)
      refine bodyPost_ret (results_cell_row2 Try.results18 _ _ w.heap.size 24 #[.int .i64 code, .int .i64 id, .slice (some ⟨wb.heap.size, 0, none⟩) s.size c1] (0, 0) _ (.int .i64 0) rfl rfl (setRow_heap _ _ _ _ _ _ HZ1.out) Try.underlying24 rfl (by kernel_rfl)) rfl ?_
      rw [HR.out]
      refine ⟨some ⟨wb.heap.size, 0, none⟩, c1, ?_, ?_, ?_, (Ext.setRow_ (Ext.trans_ HW.out X1.out) (Nat.le_refl _) _).out⟩
      · simp only [HL.out]
      · simp only [HL.out]; exact HSC.out
      · exact cells_setRow HC1.out (fun ad ha => by injection ha with ha; rw [← ha]; have := HLB.out; show wb.heap.size ≠ w.heap.size; omega) _
set_option maxRecDepth 100000 in
set_option maxHeartbeats 2000000 in
theorem cagain_any (code id : Int) (A : Option Addr) (n c : Nat) (xs : List Int) (hn : xs.length = n) (hn' : n ≤ 140737488355300) (w : World) (hx : Cells w A (nums .u8 xs)) :
    Calls Try.prog 87 #[.agg #[.int .i64 code, .int .i64 id, .slice A n c]] w fun e w' => ∃ A' c', e = .returned (.agg #[.int .i64 code, .int .i64 id, .slice A' n c']) ∧ w'.ownsRow w.heap.size 5 1 (.slice A' n c') n (nums .u8 xs) ∧ Below w.heap.size w w' := by
  have Hn := Lib.hid hn
  have HX := Lib.hid hx
  clear hn hx
  go_enter Try.func87, Try.ntmps87
  go_upto_region 1 with fail
  obtain ⟨wb, hwb⟩ : ∃ wb, (w.alloc (.cells #[.int .i64 code, .int .i64 id, .slice A n c] 24)).alloc zPk = wb := ⟨_, rfl⟩
  have HP : Hid (wb.heap[w.heap.size]? = some (.cells #[.int .i64 code, .int .i64 id, .slice A n c] 24 (0, 0))) := by unfold Hid; rw [← hwb]; exact at_ext (at_new w _)
  have HZ : Hid (wb.heap[w.heap.size + 1]? = some zPk) := by unfold Hid; rw [← hwb]; exact at_new1 (by simp)
  have HW : Hid (Ext w wb) := by unfold Hid; rw [← hwb]; exact inferInstance
  have HS : Hid (w.heap.size + 1 < wb.heap.size) := at_lt HZ.out
  rw [hwb]
  clear hwb
  have p2 : wb.cell? ⟨w.heap.size, 2, none⟩ = some (.slice A n c) := at_cell HP.out 2
  go_wp2_with fail
  refine (clone_any A n c xs Hn.out (by omega) _ (by have := HW.out; exact HX.out.ext)).mono ?_
  rintro e w1 ⟨v1, rfl, ho1, hb1⟩
  obtain ⟨A1, c1, rfl, hc1⟩ := own_slice ho1
  have HO1 := Lib.hid ho1
  have X1 : Ext wb w1 := ⟨hb1⟩
  have HP1 : Hid (w1.heap[w.heap.size]? = some (.cells #[.int .i64 code, .int .i64 id, .slice A n c] 24 (0, 0))) := at_ext HP.out
  have HZ1 : Hid (w1.heap[w.heap.size + 1]? = some zPk) := at_ext HZ.out
  have q2 : w1.cell? ⟨w.heap.size, 2, none⟩ = some (.slice A n c) := at_cell HP1.out 2
  have f2 : w1.frozen? ⟨w.heap.size, 2, none⟩ = false := at_frozen HP1.out 2
  clear p2 ho1 hb1 hc1
  go_upto_region 2 with fail
  obtain ⟨w3, hw3⟩ : ∃ w3, w1.setCell ⟨w.heap.size, 2, none⟩ (.slice A1 n c1) = w3 := ⟨_, rfl⟩
  have HP3 : Hid (w3.heap[w.heap.size]? = some (.cells #[.int .i64 code, .int .i64 id, .slice A1 n c1] 24 (0, 0))) := by unfold Hid; rw [← hw3]; exact at_set HP1.out 2 _
  have HZ3 : Hid (w3.heap[w.heap.size + 1]? = some zPk) := by unfold Hid; rw [← hw3]; exact (Below.heap_setCell _ _ _ _ (by show w.heap.size + 1 ≠ w.heap.size; omega)).trans HZ1.out
  have HO3 : Hid (w3.ownsRow wb.heap.size 5 1 (.slice A1 n c1) n (nums .u8 xs)) := by unfold Hid; rw [← hw3]; exact own_young HO1.out (by show w.heap.size < wb.heap.size; have := HS.out; omega)
  have HB3 : Hid (Below w.heap.size w w3) := by unfold Hid; rw [← hw3]; exact (Ext.trans_ HW.out X1).out.setCell (p := ⟨w.heap.size, 2, none⟩) (Nat.le_refl _) _
  rw [hw3]
  clear hw3 q2 f2
  go_wp2_with
    (first
     | (refine wpList_load_row rfl 24 (.tmp 1) rfl w.heap.size rfl 24 #[.int .i64 code, .int .i64 id, .slice A1 n c1] (0, 0) _ HP3.out Try.underlying24 rfl (by kernel_rfl) ?_)
     | (refine wpList_store_row_o rfl 24 (.tmp 2) (.tmp 7) rfl (w.heap.size + 1) #[.int .i64 code, .int .i64 id, .slice A1 n c1] rfl rfl 24 #[.int .i64 0, .int .i64 0, .slice none 0 0] HZ3.out (by kernel_rfl) rfl (by simp [Value.oneCell']) ?_
        intro w4 hr4 ho4 hz4 hb4))
  refine bodyPost_ret (results_cell_row1 Try.results87 _ _ (w.heap.size + 1) 24 #[.int .i64 code, .int .i64 id, .slice A1 n c1] (0, 0) _ rfl hr4 Try.underlying24 rfl (by kernel_rfl)) rfl ?_
  have HS0 := HS.out
  exact ⟨A1, c1, rfl, own_weaken (own_heap HO3.out fun j hj => ho4 j (by omega)) (by omega), hb4 _ _ HB3.out (by omega)⟩
/-- Whose word is asked for. -/
def secW (c s : List Int) (us : List SV) : ByteArray := match findF c s us with
  | none => ⟨#[]⟩
  | some u => u.d
set_option maxRecDepth 100000 in
set_option maxHeartbeats 2000000 in
theorem word_any (A : Option Addr) (n c : Nat) (us : List SV) (cb sb : ByteArray) (hn : us.length = n) (hn' : n ≤ 17592186044416) (w : World) (hx : SecsAt w A us) :
    Calls Try.prog 67 #[.slice A n c, .string cb, .string sb] w fun e w' => e = .returned (.string (secW (strB cb) (strB sb) us)) ∧ Below w.heap.size w w' := by
  have Hn := Lib.hid hn
  have HX := Lib.hid hx
  clear hn hx
  go_enter Try.func67, Try.ntmps67
  go_wp2_with fail
  refine (find_any A n c us cb sb Hn.out hn' _ HX.out).mono ?_
  rintro e w2 ⟨hb2, he⟩
  have S2 : Step w2 w := ⟨hb2⟩
  have HX2 : Hid (Ext w w2) := (inferInstance : Ext w w2)
  clear hb2
  rcases hq : findF (strB cb) (strB sb) us with _ | u
  · have HF : Hid (secW (strB cb) (strB sb) us = ⟨#[]⟩) := by unfold Hid secW; rw [hq]
    rw [hq] at he
    simp only at he
    subst he
    clear hq
    have p2 : ∀ o, (w2.alloc o).heap[w2.heap.size]? = some o := at_new w2
    go_wp2_with
      (refine wpList_store_row_o rfl 44 (.tmp 7) (.tmp 14) rfl w2.heap.size zSec rfl rfl 44 zSec (p2 _) (by kernel_rfl) rfl (by simp [Value.oneCell']) ?_
       intro w3 hr3 ho3 hz3 hb3
       have HX3 : Hid (Ext w w3) := ⟨hb3 _ _ (inferInstance : Ext w (w2.alloc _)).out HX2.out.out.size⟩
       have p3 : w3.cell? ⟨w2.heap.size, 2, none⟩ = some (.string ⟨#[]⟩) := at_cell hr3 2)
    go_ret
    exact ⟨by rw [HF.out]; rfl, HX3.out.out⟩
  · have HF : Hid (secW (strB cb) (strB sb) us = u.d) := by unfold Hid secW; rw [hq]
    rw [hq] at he
    simp only at he
    obtain ⟨⟨vc, vss, vd, vA, vn, vk, vx⟩, rfl, hd, hn2, ho2⟩ := he
    have hdd : vd = u.d := congrArg (fun x => x.2.1) hd
    rw [← hdd] at HF
    simp only [SV.val]
    clear hq hd hn2 ho2 hdd
    have p2 : ∀ o, (w2.alloc o).heap[w2.heap.size]? = some o := at_new w2
    go_wp2_with
      (refine wpList_store_row_o rfl 44 (.tmp 7) (.tmp 14) rfl w2.heap.size #[.string vc, .string vss, .string vd, .slice vA vn vk] rfl rfl 44 zSec (p2 _) (by kernel_rfl) rfl (by simp [Value.oneCell']) ?_
       intro w3 hr3 ho3 hz3 hb3
       have HX3 : Hid (Ext w w3) := ⟨hb3 _ _ (inferInstance : Ext w (w2.alloc _)).out HX2.out.out.size⟩
       have p3 : w3.cell? ⟨w2.heap.size, 2, none⟩ = some (.string vd) := at_cell hr3 2)
    go_ret
    exact ⟨by rw [HF.out]; rfl, HX3.out.out⟩
end Go.Proofs.Ytobddmpiljknpaa

namespace Go.Proofs.Ytobddmpiljknpaa
open Go.RowKit
set_option linter.unusedVariables false
set_option linter.unusedSimpArgs false

theorem prtF_some {xs p r : List Int} (hb : Byt xs) (h : prtF xs = some (p, r)) : (Byt p ∧ p.length ≤ 255) ∧ Byt r ∧ r.length ≤ xs.length := by
  cases xs with
  | nil => cases h
  | cons x xs =>
    have h' : (if (xs.length : Int) < x then none else some (xs.take x.toNat, xs.drop x.toNat)) = some (p, r) := h
    split at h'
    · cases h'
    · injection h' with h'
      injection h' with h1 h2
      subst h1 h2
      have hx := hb x (by simp)
      refine ⟨⟨fun y hy => hb y (List.mem_cons_of_mem _ (List.mem_of_mem_take hy)), ?_⟩, fun y hy => hb y (List.mem_cons_of_mem _ (List.mem_of_mem_drop hy)), ?_⟩
      · rw [List.length_take]; omega
      · rw [List.length_drop, List.length_cons]; omega
theorem rdF_all {code id e : Int} {xs p r : List Int} (hb : Byt xs) (h : rdF code id xs = ((p, r), e)) : (Byt p ∧ p.length ≤ 255) ∧ Byt r ∧ r.length ≤ xs.length := by
  have nl : ∀ k : Int, (([], []), k) = ((p, r), e) → (Byt p ∧ p.length ≤ 255) ∧ Byt r ∧ r.length ≤ xs.length := by
    intro k e
    injection e with e _
    injection e with e1 e2
    subst e1 e2
    exact ⟨⟨fun _ h => (by cases h), Nat.zero_le _⟩, fun _ h => (by cases h), Nat.zero_le _⟩
  unfold rdF ptsF at h
  split at h
  · exact nl _ h
  split at h
  · exact nl _ h
  · rename_i p1 r1 h1
    split at h
    · exact nl _ h
    · split at h
      · exact nl _ h
      · injection h with h _
        injection h with e1 e2
        subst e1 e2
        exact prtF_some hb h1
theorem best_gate {c s : List Int} : ∀ (us : List SV) (i : Nat) (p : Int × Nat), bestF c s i us p = p ∨ ∃ j u, us[j]? = some u ∧ (bestF c s i us p).2 = i + j ∧ gateF c s u = false := by
  intro us
  induction us with
  | nil => intro i p; exact .inl rfl
  | cons u us ih =>
    intro i p
    rw [bestF_cons]
    by_cases hs : gateF c s u = false ∧ p.1 < rankF c s u
    · have he : bestStep c s i u p = (rankF c s u, i) := if_pos hs
      rw [he]
      rcases ih (i + 1) (rankF c s u, i) with h | ⟨j, v, h1, h2, h3⟩
      · exact .inr ⟨0, u, rfl, by rw [h]; rfl, hs.1⟩
      · exact .inr ⟨j + 1, v, by simpa using h1, by rw [h2]; omega, h3⟩
    · have he : bestStep c s i u p = p := if_neg hs
      rw [he]
      rcases ih (i + 1) p with h | ⟨j, v, h1, h2, h3⟩
      · exact .inl h
      · exact .inr ⟨j + 1, v, by simpa using h1, by rw [h2]; omega, h3⟩
theorem find_gate {c s : List Int} {us : List SV} {u : SV} (h : findF c s us = some u) : gateF c s u = false := by
  unfold findF at h
  split at h
  · cases h
  · rename_i hz
    rcases best_gate us 0 (-1, 0) with h1 | ⟨j, v, h1, h2, h3⟩
    · rw [h1] at hz; simp at hz
    · rw [h2, Nat.zero_add, h1] at h
      injection h with h
      subst h
      exact h3
theorem right_word {u : SV} (h : u.right = 0) : u.d.size ≤ 64 := by
  unfold SV.right rightF at h
  split at h
  · cases h
  split at h
  · cases h
  · rename_i h1
    rw [← strB_len]
    by_cases h2 : strB u.d = []
    · rw [h2]; simp
    · have h3 : nameF (strB u.d) = true := by
        rcases h4 : nameF (strB u.d) with _ | _
        · exact absurd ⟨h2, h4⟩ h1
        · rfl
      unfold nameF at h3
      simp only [Bool.and_eq_true, decide_eq_true_eq] at h3
      omega
theorem secW_size {c s : List Int} {us : List SV} : (secW c s us).size ≤ 64 := by
  unfold secW
  split
  · exact Nat.zero_le _
  · rename_i u h
    refine right_word (Classical.byContradiction fun hr => ?_)
    have h1 := find_gate h
    rw [gate5 hr] at h1
    cases h1
end Go.Proofs.Ytobddmpiljknpaa

namespace Go.Proofs.Ytobddmpiljknpaa
open Go.RowKit
set_option linter.unusedVariables false
set_option linter.unusedSimpArgs false

/-- Whose name is asked for. -/
def rmF (said rm : ByteArray) : ByteArray := if strB rm = [] then said else rm
def anF (code id : Int) (xs : List Int) (nm rm : ByteArray) (us : List SV) : (Int × Int) × List Int × Int :=
  if code ≠ 1 then ((0, 0), [], 90) else if (rdF code id xs).2 ≠ 0 then ((0, 0), [], (rdF code id xs).2) else if nameF (strB nm) = false then ((0, 0), [], 60)
  else if strB (secW (strB nm) (strB (rmF (strOfNums (rdF code id xs).1.2) rm)) us) = [] then ((0, 0), [], 5)
  else mkF 2 id (respD id (secW (strB nm) (strB (rmF (strOfNums (rdF code id xs).1.2) rm)) us) (rdF code id xs).1.1) (strB nm)
theorem cells_row {w : World} {g : Nat} {xs : List Value} {t : TypeId} (h : w.heap[g]? = some (.cells xs.toArray t (0, 0))) : Cells w (some ⟨g, 0, none⟩) xs := by
  intro _
  refine ⟨_, rfl, fun j u hu => ?_⟩
  rw [add_plain]
  refine (at_cell h j).trans ?_
  simpa using hu
set_option maxRecDepth 100000 in
set_option maxHeartbeats 8000000 in
theorem canswer_any (code id : Int) (A : Option Addr) (n c : Nat) (xs : List Int) (nm rm : ByteArray) (LA : Option Addr) (ln lc : Nat) (us : List SV) (hn : xs.length = n) (hn' : n ≤ 140737488355200) (hb : Byt xs) (hnm : nm.size ≤ 140737488355328) (hln : us.length = ln) (hln' : ln ≤ 17592186044416) (w : World) (hx : Cells w A (nums .u8 xs)) (hs : SecsAt w LA us) :
    Calls Try.prog 25 #[.agg #[.int .i64 code, .int .i64 id, .slice A n c], .string nm, .string rm, .slice LA ln lc] w (ReplyTells (anF code id xs nm rm us) w) := by
  have Hn := Lib.hid hn
  have HX := Lib.hid hx
  have HB := Lib.hid hb
  have HLN := Lib.hid hln
  have HS := Lib.hid hs
  clear hn hx hb hln hs
  go_enter Try.func25, Try.ntmps25
  go_upto_region 1 with fail
  obtain ⟨wb, hwb⟩ : ∃ wb, (w.alloc (.cells #[.int .i64 code, .int .i64 id, .slice A n c] 24)).alloc zPk = wb := ⟨_, rfl⟩
  have HP : Hid (wb.heap[w.heap.size]? = some (.cells #[.int .i64 code, .int .i64 id, .slice A n c] 24 (0, 0))) := by unfold Hid; rw [← hwb]; exact at_ext (at_new w _)
  have HZ : Hid (wb.heap[w.heap.size + 1]? = some zPk) := by unfold Hid; rw [← hwb]; exact at_new1 (by simp)
  have HW : Hid (Ext w wb) := by unfold Hid; rw [← hwb]; exact inferInstance
  have HLB : Hid (w.heap.size + 1 < wb.heap.size) := at_lt HZ.out
  have Sb : Step wb w := ⟨HW.out.out⟩
  rw [hwb]
  clear hwb
  have p0 : wb.cell? ⟨w.heap.size, 0, none⟩ = some (.int .i64 code) := at_cell HP.out 0
  have p1 : wb.cell? ⟨w.heap.size, 1, none⟩ = some (.int .i64 id) := at_cell HP.out 1
  have p2 : wb.cell? ⟨w.heap.size, 2, none⟩ = some (.slice A n c) := at_cell HP.out 2
  by_cases c1 : code = 1
  case neg =>
    have HF : Hid (anF code id xs nm rm us = ((0, 0), [], 90)) := if_pos c1
    have c1' : (code != 1) = true := by simpa using c1
    clear c1
    go_wp2_with
      (refine wpList_store_row rfl 24 (.tmp 8) (.tmp 19) rfl (w.heap.size + 1) #[.int .i64 0, .int .i64 0, .slice none 0 0] rfl rfl 24 #[.int .i64 0, .int .i64 0, .slice none 0 0] HZ.out (by kernel_rfl) rfl (by simp [Value.oneCell']) ?_)
    refine bodyPost_ret (results_cell_row2 Try.results25 _ _ (w.heap.size + 1) 24 #[.int .i64 0, .int .i64 0, .slice none 0 0] (0, 0) _ (.int .i64 90) rfl rfl (setRow_heap _ _ _ _ _ _ HZ.out) Try.underlying24 rfl (by kernel_rfl)) rfl ?_
    rw [HF.out]
    exact ⟨none, 0, rfl, own_nil _ _ _ _, (Ext.setRow_ HW.out (by omega) _).out⟩
  subst c1
  obtain ⟨⟨⟨p, r⟩, e0⟩, hr⟩ : ∃ F, rdF 1 id xs = F := ⟨_, rfl⟩
  have HR := Lib.hid hr
  have HPR := Lib.hid (rdF_all HB.out hr)
  clear hr
  go_wp2_with fail
  refine (read_any 1 id A n c xs Hn.out hn' HB.out _ (by exact HX.out.ext)).mono ?_
  rintro e w1 ⟨A1, k1, rfl, ho1, hb1⟩
  rw [HR.out] at ho1 ⊢
  simp only at ho1 ⊢
  have S1 : Step w1 wb := ⟨hb1⟩
  have HO1 := Lib.hid ho1
  have X1 : Hid (Ext w w1) := (inferInstance : Ext w w1)
  have HZ1 : Hid (w1.heap[w.heap.size + 1]? = some zPk) := at_ext HZ.out
  obtain ⟨sd, hsd⟩ : ∃ sd, strOfNums r = sd := ⟨_, rfl⟩
  simp only [hsd]
  have HSD := Lib.hid hsd
  clear ho1 hb1 p0 p1 p2 hsd
  by_cases z0 : e0 = 0
  case neg =>
    have HF : Hid (anF 1 id xs nm rm us = ((0, 0), [], e0)) := by unfold Hid anF; rw [if_neg (by simp), HR.out, if_pos z0]
    have z0' : (e0 != 0) = true := by simpa using z0
    clear z0
    go_wp2_with
      (refine wpList_store_row rfl 24 (.tmp 8) (.tmp 29) rfl (w.heap.size + 1) #[.int .i64 0, .int .i64 0, .slice none 0 0] rfl rfl 24 #[.int .i64 0, .int .i64 0, .slice none 0 0] HZ1.out (by kernel_rfl) rfl (by simp [Value.oneCell']) ?_)
    refine bodyPost_ret (results_cell_row2 Try.results25 _ _ (w.heap.size + 1) 24 #[.int .i64 0, .int .i64 0, .slice none 0 0] (0, 0) _ (.int .i64 e0) rfl rfl (setRow_heap _ _ _ _ _ _ HZ1.out) Try.underlying24 rfl (by kernel_rfl)) rfl ?_
    rw [HF.out]
    exact ⟨none, 0, rfl, own_nil _ _ _ _, (Ext.setRow_ X1.out (by omega) _).out⟩
  subst z0
  go_wp2_with fail
  refine (named_any nm hnm _).mono ?_
  rintro e w2 ⟨rfl, rfl⟩
  rcases hnn : nameF (strB nm) with _ | _
  · have HF : Hid (anF 1 id xs nm rm us = ((0, 0), [], 60)) := by unfold Hid anF; rw [if_neg (by simp), HR.out, if_neg (by simp), if_pos hnn]
    clear hnn
    go_wp2_with
      (refine wpList_store_row rfl 24 (.tmp 8) (.tmp 35) rfl (w.heap.size + 1) #[.int .i64 0, .int .i64 0, .slice none 0 0] rfl rfl 24 #[.int .i64 0, .int .i64 0, .slice none 0 0] HZ1.out (by kernel_rfl) rfl (by simp [Value.oneCell']) ?_)
    refine bodyPost_ret (results_cell_row2 Try.results25 _ _ (w.heap.size + 1) 24 #[.int .i64 0, .int .i64 0, .slice none 0 0] (0, 0) _ (.int .i64 60) rfl rfl (setRow_heap _ _ _ _ _ _ HZ1.out) Try.underlying24 rfl (by kernel_rfl)) rfl ?_
    rw [HF.out]
    exact ⟨none, 0, rfl, own_nil _ _ _ _, (Ext.setRow_ X1.out (by omega) _).out⟩
  have HFN : Hid (∀ R, (if strB (secW (strB nm) (strB (rmF sd rm)) us) = [] then ((0, 0), [], 5)
      else mkF 2 id (respD id (secW (strB nm) (strB (rmF sd rm)) us) p) (strB nm)) = R → anF 1 id xs nm rm us = R) := by
    intro R h
    unfold anF
    rw [if_neg (by simp), HR.out, if_neg (by simp), if_neg (by simp [hnn])]
    simp only [HSD.out]
    exact h
  clear hnn
  obtain ⟨rB, hrB⟩ : ∃ rB, rmF sd rm = rB := ⟨_, rfl⟩
  have HRM := Lib.hid hrB
  rw [hrB] at HFN
  clear hrB
  go_upto_if 37 with fail
  obtain ⟨z1, hz1⟩ : ∃ z1, rm.toList.isEmpty = z1 := ⟨_, rfl⟩
  rw [hz1]
  have HZ1' := Lib.hid hz1
  clear hz1
  go_cut [2] (fun s wx => s = .string rB ∧ w1 = wx)
  case first =>
    cases z1
    · have HV : Hid (rB = rm) := by
        unfold Hid
        rw [← HRM.out]
        refine if_neg (fun h => ?_)
        have h2 : rm.toList = [] := by unfold strB at h; rw [Lib.toList_data]; exact List.map_eq_nil_iff.1 h
        have h3 := HZ1'.out
        rw [h2] at h3
        cases h3
      go_wp2_with fail
      go_meet
      case rel => exact ⟨by rw [HV.out], rfl⟩
    · have HV : Hid (rB = sd) := by
        unfold Hid
        rw [← HRM.out]
        have h2 : rm.toList = [] := List.isEmpty_iff.1 HZ1'.out
        exact if_pos (by unfold strB; rw [← Lib.toList_data, h2]; rfl)
      go_wp2_with fail
      go_meet
      case rel => exact ⟨by rw [HV.out], rfl⟩
  case' rest =>
    obtain ⟨rfl, rfl⟩ := hcut
  go_wp2_with fail
  refine (word_any LA ln lc us nm rB HLN.out hln' _ (by exact HS.out.ext)).mono ?_
  rintro e w3 ⟨rfl, hb3⟩
  have S3 : Step w3 w1 := ⟨hb3⟩
  have X3 : Hid (Ext w w3) := (inferInstance : Ext w w3)
  have HZ3 : Hid (w3.heap[w.heap.size + 1]? = some zPk) := at_ext HZ1.out
  have HWS : Hid ((secW (strB nm) (strB rB) us).size ≤ 64) := secW_size
  obtain ⟨wd, hwd⟩ : ∃ wd, secW (strB nm) (strB rB) us = wd := ⟨_, rfl⟩
  rw [hwd] at HFN HWS ⊢
  clear hwd hb3
  by_cases e2 : wd.toList = []
  · have HF : Hid (anF 1 id xs nm rm us = ((0, 0), [], 5)) := HFN.out _ (if_pos (by unfold strB; rw [← Lib.toList_data, e2]; rfl))
    go_wp2_with
      (refine wpList_store_row rfl 24 (.tmp 8) (.tmp 45) rfl (w.heap.size + 1) #[.int .i64 0, .int .i64 0, .slice none 0 0] rfl rfl 24 #[.int .i64 0, .int .i64 0, .slice none 0 0] HZ3.out (by kernel_rfl) rfl (by simp [Value.oneCell']) ?_)
    refine bodyPost_ret (results_cell_row2 Try.results25 _ _ (w.heap.size + 1) 24 #[.int .i64 0, .int .i64 0, .slice none 0 0] (0, 0) _ (.int .i64 5) rfl rfl (setRow_heap _ _ _ _ _ _ HZ3.out) Try.underlying24 rfl (by kernel_rfl)) rfl ?_
    rw [HF.out]
    exact ⟨none, 0, rfl, own_nil _ _ _ _, (Ext.setRow_ X3.out (by omega) _).out⟩
  have e2b : (wd.toList == []) = false := by simpa using e2
  have e2c : wd.toList.isEmpty = false := by rw [List.isEmpty_eq_false_iff]; exact e2
  have HF : Hid (anF 1 id xs nm rm us = mkF 2 id (respD id wd p) (strB nm)) := HFN.out _ (if_neg (fun h => e2 (by unfold strB at h; rw [Lib.toList_data]; exact List.map_eq_nil_iff.1 h)))
  clear HFN e2
  have p1 : w3.cell? ⟨w.heap.size, 1, none⟩ = some (.int .i64 id) := at_cell (at_ext HP.out) 1
  go_wp2_with fail
  refine (resp4_any id wd A1 p.length k1 p rfl (by have h1 := HWS.out; have h2 := HPR.out.1.2; omega) HPR.out.1.1 _ (own_cells (own_ext HO1.out))).mono ?_
  rintro e w4 ⟨rfl, hb4⟩
  have S4 : Step w4 w3 := ⟨hb4⟩
  have hl := respD_len id wd p
  obtain ⟨ds, hds⟩ : ∃ ds, respD id wd p = ds := ⟨_, rfl⟩
  rw [hds] at HF hl ⊢
  have HI16 : Hid ((Try.prog.info? 47).map (·.size) = some (nums .u8 ds).toArray.size) := by
    unfold Hid
    rw [List.size_toArray, nums_length, hl]
    kernel_rfl
  have HZ16 : Hid ((nums .u8 (List.replicate 16 0)).toArray.size = (nums .u8 ds).toArray.size) := by
    unfold Hid
    rw [List.size_toArray, List.size_toArray, nums_length, nums_length, hl]
    rfl
  have HL := Lib.hid hl
  have pn : ∀ o, (w4.alloc o).heap[w4.heap.size]? = some o := at_new w4
  clear hb4 hl hds p1
  go_upto_region 14 with
    (refine wpList_store_row_o rfl 47 (.tmp 14) (.tmp 52) rfl w4.heap.size (nums .u8 ds).toArray rfl rfl 47 (nums .u8 (List.replicate 16 0)).toArray (pn _) HI16.out HZ16.out (one_all _ _) ?_
     intro w5 hr5 ho5 hz5 hb5
     have HR5 := Lib.hid hr5
     have X45 : Hid (Ext w4 w5) := ⟨hb5 _ _ (inferInstance : Ext w4 (w4.alloc _)).out (Nat.le_refl _)⟩
     clear hr5 ho5 hz5 hb5 pn)
  have X5 : Hid (Ext w w5) := Ext.trans_ (inferInstance : Ext w w4) X45.out
  have HP5 : Hid (w5.heap[w.heap.size]? = some (.cells #[.int .i64 1, .int .i64 id, .slice A n c] 24 (0, 0))) := at_ext (w := w4) (h := X45.out) (at_ext HP.out)
  have HZ5 : Hid (w5.heap[w.heap.size + 1]? = some zPk) := at_ext (w := w4) (h := X45.out) (at_ext HZ3.out)
  obtain ⟨⟨⟨ra, rb⟩, rd, re⟩, hmk⟩ : ∃ F, mkF 2 id ds (strB nm) = F := ⟨_, rfl⟩
  have HMK := Lib.hid hmk
  rw [hmk] at HF
  have HC5 : Hid (Cells w5 (some ⟨w4.heap.size, 0, none⟩) (nums .u8 ds)) := cells_row HR5.out
  clear hmk
  refine wp_region_held_drew (S := fun W => W.heap[w.heap.size]? = some (.cells #[.int .i64 1, .int .i64 id, .slice A n c] 24 (0, 0))) (by kernel_rfl) HP5.out (fun hHeld => ?_)
  refine wpAnyH_take (i := 0) (v := ?_) rfl (by kernel_rfl) (by kernel_rfl) (by kernel_rfl) (fun _ _ _ h => h) (Yields.yieldsIf (Or.inl ⟨by rfl, ?_⟩)) hHeld ?_
  rotate_left
  · intro W
    go_simp
    try with_reducible rfl
  simp only [List.getElem_toArray, List.getElem_cons_succ, List.getElem_cons_zero, Act.put, List.setIfInBounds_toArray, List.set_cons_zero, List.set_cons_succ]
  refine wpAnyH_take (i := 1) (v := ?_) rfl (by kernel_rfl) (by kernel_rfl) (by kernel_rfl) (fun _ _ _ h => h) (Or.inl ⟨by rfl, ?_⟩) hHeld ?_
  rotate_left
  · intro W hW
    have hcl := (at_cell hW 1)
    go_simp
    try with_reducible rfl
  simp only [List.getElem_toArray, List.getElem_cons_succ, List.getElem_cons_zero, Act.put, List.setIfInBounds_toArray, List.set_cons_zero, List.set_cons_succ]
  refine wpAnyH_take (i := 2) (v := ?_) rfl (by kernel_rfl) (by kernel_rfl) (by kernel_rfl) (fun _ _ _ h => h) (Yields.yieldsIf (Or.inl ⟨by rfl, ?_⟩)) hHeld ?_
  rotate_left
  · intro W
    go_simp
    try with_reducible rfl
  simp only [List.getElem_toArray, List.getElem_cons_succ, List.getElem_cons_zero, Act.put, List.setIfInBounds_toArray, List.set_cons_zero, List.set_cons_succ]
  refine wpAnyH_take (i := 3) (v := ?_) rfl (by kernel_rfl) (by kernel_rfl) (by kernel_rfl) (fun _ _ _ h => h) (Yields.yieldsIf (Or.inl ⟨by rfl, ?_⟩)) hHeld ?_
  rotate_left
  · intro W
    go_simp
    try with_reducible rfl
  simp only [List.getElem_toArray, List.getElem_cons_succ, List.getElem_cons_zero, Act.put, List.setIfInBounds_toArray, List.set_cons_zero, List.set_cons_succ]
  refine wpAnyH_ready (rs := [4]) (by kernel_rfl) (by simp) ?_
  refine AllReadyH.cons rfl (fun K hK => ?_) AllReadyH.nil
  refine step_call_w (by rfl) Try.func14 (by kernel_rfl) (by kernel_rfl) #[.const (.int .i64 2), .tmp 55, .tmp 56, .tmp 57] #[3, 3, 22, 9] rfl #[.int .i64 2, .int .i64 id, .slice (some ⟨w4.heap.size, 0, none⟩) 16 16, .string nm] ?hv (make_any 2 id (some ⟨w4.heap.size, 0, none⟩) 16 16 ds nm HL.out hnm (by omega) _ HC5.out.drew) ?_
  case hv => go_simp
  rintro e w6 ⟨A6, c6, rfl, ho6, hb6⟩
  refine ⟨_, rfl, ?_⟩
  rw [HMK.out] at ho6 ⊢
  simp only at ho6 ⊢
  have X6 : Hid (Ext w5 w6) := Ext.trans_ (inferInstance : Ext w5 w5.drew) ⟨hb6⟩
  have HO6 := Lib.hid ho6
  have HP6 : Hid (w6.heap[w.heap.size]? = some (.cells #[.int .i64 1, .int .i64 id, .slice A n c] 24 (0, 0))) := at_ext (h := X6.out) HP5.out
  have HZ6 : Hid (w6.heap[w.heap.size + 1]? = some zPk) := at_ext (h := X6.out) HZ5.out
  have HNE : Hid ((Value.slice A6 rd.length c6).ownBlock ≠ some (w.heap.size + 1)) := by
    intro e
    have h1 := own_base HO6.out _ e
    have h2 := at_lt HZ5.out
    simp at h1
    omega
  clear hb6 ho6 hHeld
  refine hK.out _ _ HP6.out (fun hHeld => ?_)
  clear hK K
  simp only [List.getElem_toArray, List.getElem_cons_succ, List.getElem_cons_zero, Act.put, List.setIfInBounds_toArray, List.set_cons_zero, List.set_cons_succ]
  refine wpAnyH_take (i := 5) (v := ?_) rfl (by kernel_rfl) (by kernel_rfl) (by kernel_rfl) (fun _ _ _ h => h) (Yields.yieldsIf (Or.inl ⟨by rfl, ?_⟩)) hHeld ?_
  rotate_left
  · intro W
    go_simp
    try with_reducible rfl
  simp only [List.getElem_toArray, List.getElem_cons_succ, List.getElem_cons_zero, Act.put, List.setIfInBounds_toArray, List.set_cons_zero, List.set_cons_succ]
  refine wpAnyH_take (i := 6) (v := ?_) rfl (by kernel_rfl) (by kernel_rfl) (by kernel_rfl) (fun _ _ _ h => h) (Yields.yieldsIf (Or.inl ⟨by rfl, ?_⟩)) hHeld ?_
  rotate_left
  · intro W
    go_simp
    try with_reducible rfl
  simp only [List.getElem_toArray, List.getElem_cons_succ, List.getElem_cons_zero, Act.put, List.setIfInBounds_toArray, List.set_cons_zero, List.set_cons_succ]
  refine wpAnyH_ready (rs := [7]) (by kernel_rfl) (by simp) ?_
  refine AllReadyH.cons rfl (fun K hK => ?_) AllReadyH.nil
  refine step_store_row (by rfl) 24 (.tmp 8) (.tmp 59) rfl (w.heap.size + 1) #[.int .i64 ra, .int .i64 rb, .slice A6 rd.length c6] rfl rfl 24 #[.int .i64 0, .int .i64 0, .slice none 0 0] HZ6.out (by kernel_rfl) rfl (by simp [Value.oneCell']) ?_
  clear hHeld
  refine hK.out _ _ ((setRow_other _ _ _ _ (by omega)).trans HP6.out) (fun hHeld => ?_)
  clear hK K
  simp only [List.getElem_toArray, List.getElem_cons_succ, List.getElem_cons_zero, Act.put, List.setIfInBounds_toArray, List.set_cons_zero, List.set_cons_succ]
  refine wpAnyH_take (i := 8) (v := ?_) rfl (by kernel_rfl) (by kernel_rfl) (by kernel_rfl) (fun _ _ _ h => h) (Yields.yieldsIf (Or.inl ⟨by rfl, ?_⟩)) hHeld ?_
  rotate_left
  · intro W
    go_simp
    try with_reducible rfl
  simp only [List.getElem_toArray, List.getElem_cons_succ, List.getElem_cons_zero, Act.put, List.setIfInBounds_toArray, List.set_cons_zero, List.set_cons_succ]
  refine wpAnyH_done (by kernel_rfl) ?_ _
  clear hHeld
  go_wp2
  refine bodyPost_ret (results_cell_row2 Try.results25 _ _ (w.heap.size + 1) 24 #[.int .i64 ra, .int .i64 rb, .slice A6 rd.length c6] (0, 0) _ (.int .i64 re) rfl rfl (setRow_heap _ _ _ _ _ _ HZ6.out) Try.underlying24 rfl (by kernel_rfl)) rfl ?_
  rw [HF.out]
  refine ⟨A6, c6, rfl, ?_, (Ext.setRow_ (Ext.trans_ X5.out X6.out) (by omega) _).out⟩
  exact own_weaken (own_setRow HO6.out HNE.out _) (by simp; exact X5.out.out.size)
end Go.Proofs.Ytobddmpiljknpaa

namespace Go.Proofs.Ytobddmpiljknpaa
open Go.RowKit
set_option linter.unusedVariables false
set_option linter.unusedSimpArgs false

def hoF (c1 i1 : Int) (xs1 : List Int) (c2 i2 : Int) (xs2 : List Int) (nm : ByteArray) (us : List SV) : ByteArray × Int :=
  if c1 ≠ 1 ∨ c2 ≠ 2 then (⟨#[]⟩, 90) else if (rdF c1 i1 xs1).2 ≠ 0 then (⟨#[]⟩, (rdF c1 i1 xs1).2) else if (rdF c2 i2 xs2).2 ≠ 0 then (⟨#[]⟩, (rdF c2 i2 xs2).2) else if i1 ≠ i2 then (⟨#[]⟩, 201)
  else if strB (secW (strB (strOfNums (rdF c2 i2 xs2).1.2)) (strB nm) us) = [] then (⟨#[]⟩, 5)
  else if respD i1 (secW (strB (strOfNums (rdF c2 i2 xs2).1.2)) (strB nm) us) (rdF c1 i1 xs1).1.1 ≠ (rdF c2 i2 xs2).1.1 then (⟨#[]⟩, 120) else (strOfNums (rdF c2 i2 xs2).1.2, 0)
theorem respD_byt {id : Int} {s : ByteArray} {xs : List Int} : Byt (respD id s xs) := by
  unfold respD
  split
  · intro x hx
    rw [List.eq_of_mem_replicate hx]
    omega
  · exact digest_byt _
set_option maxRecDepth 100000 in
set_option maxHeartbeats 8000000 in
theorem holds_any (c1 i1 : Int) (A1 : Option Addr) (n1 k1 : Nat) (xs1 : List Int) (c2 i2 : Int) (A2 : Option Addr) (n2 k2 : Nat) (xs2 : List Int) (nm : ByteArray) (LA : Option Addr) (ln lc : Nat) (us : List SV) (hn1 : xs1.length = n1) (hm1 : n1 ≤ 140737488355200) (hb1 : Byt xs1) (hn2 : xs2.length = n2) (hm2 : n2 ≤ 140737488355200) (hb2 : Byt xs2) (hln : us.length = ln) (hln' : ln ≤ 17592186044416) (w : World)
    (hx1 : Cells w A1 (nums .u8 xs1)) (hx2 : Cells w A2 (nums .u8 xs2)) (hs : SecsAt w LA us) :
    Calls Try.prog 27 #[.agg #[.int .i64 c1, .int .i64 i1, .slice A1 n1 k1], .agg #[.int .i64 c2, .int .i64 i2, .slice A2 n2 k2], .string nm, .slice LA ln lc] w fun e w' => e = .returned (.tuple #[.string (hoF c1 i1 xs1 c2 i2 xs2 nm us).1, .int .i64 (hoF c1 i1 xs1 c2 i2 xs2 nm us).2]) ∧ Below w.heap.size w w' := by
  have Hn1 := Lib.hid hn1
  have HX1 := Lib.hid hx1
  have HB1 := Lib.hid hb1
  have Hn2 := Lib.hid hn2
  have HX2 := Lib.hid hx2
  have HB2 := Lib.hid hb2
  have HLN := Lib.hid hln
  have HS := Lib.hid hs
  clear hn1 hx1 hb1 hn2 hx2 hb2 hln hs
  go_enter Try.func27, Try.ntmps27
  go_upto_region 1 with fail
  obtain ⟨wb, hwb⟩ : ∃ wb, (w.alloc (.cells #[.int .i64 c1, .int .i64 i1, .slice A1 n1 k1] 24)).alloc (.cells #[.int .i64 c2, .int .i64 i2, .slice A2 n2 k2] 24) = wb := ⟨_, rfl⟩
  have HP : Hid (wb.heap[w.heap.size]? = some (.cells #[.int .i64 c1, .int .i64 i1, .slice A1 n1 k1] 24 (0, 0))) := by unfold Hid; rw [← hwb]; exact at_ext (at_new w _)
  have HQ : Hid (wb.heap[w.heap.size + 1]? = some (.cells #[.int .i64 c2, .int .i64 i2, .slice A2 n2 k2] 24 (0, 0))) := by unfold Hid; rw [← hwb]; exact at_new1 (by simp)
  have Sb : Step wb w := ⟨by rw [← hwb]; exact Ext.out⟩
  rw [hwb]
  clear hwb
  have p0 : wb.cell? ⟨w.heap.size, 0, none⟩ = some (.int .i64 c1) := at_cell HP.out 0
  have p1 : wb.cell? ⟨w.heap.size, 1, none⟩ = some (.int .i64 i1) := at_cell HP.out 1
  have p2 : wb.cell? ⟨w.heap.size, 2, none⟩ = some (.slice A1 n1 k1) := at_cell HP.out 2
  have q0 : wb.cell? ⟨w.heap.size + 1, 0, none⟩ = some (.int .i64 c2) := at_cell HQ.out 0
  by_cases z1 : c1 = 1
  case neg =>
    have HF : Hid (hoF c1 i1 xs1 c2 i2 xs2 nm us = (⟨#[]⟩, 90)) := if_pos (.inl z1)
    have z1' : (c1 != 1) = true := by simpa using z1
    clear z1
    go_wp2_with fail
    go_ret2
    exact ⟨by rw [HF.out]; rfl, (inferInstance : Ext w wb).out⟩
  subst z1
  by_cases z2 : c2 = 2
  case neg =>
    have HF : Hid (hoF 1 i1 xs1 c2 i2 xs2 nm us = (⟨#[]⟩, 90)) := if_pos (.inr z2)
    have z2' : (c2 != 2) = true := by simpa using z2
    clear z2
    go_wp2_with fail
    go_ret2
    exact ⟨by rw [HF.out]; rfl, (inferInstance : Ext w wb).out⟩
  subst z2
  obtain ⟨⟨⟨p, r⟩, e1⟩, hr1⟩ : ∃ F, rdF 1 i1 xs1 = F := ⟨_, rfl⟩
  obtain ⟨⟨⟨p', r'⟩, e2⟩, hr2⟩ : ∃ F, rdF 2 i2 xs2 = F := ⟨_, rfl⟩
  have HR1 := Lib.hid hr1
  have HR2 := Lib.hid hr2
  have HA1 := Lib.hid (rdF_all HB1.out hr1)
  have HA2 := Lib.hid (rdF_all HB2.out hr2)
  clear hr1 hr2
  go_wp2_with fail
  refine (read_any 1 i1 A1 n1 k1 xs1 Hn1.out hm1 HB1.out _ (by exact HX1.out.ext)).mono ?_
  rintro e w1 ⟨B1, m1, rfl, ho1, hb1⟩
  rw [HR1.out] at ho1 ⊢
  simp only at ho1 ⊢
  have S1 : Step w1 wb := ⟨hb1⟩
  have HO1 := Lib.hid ho1
  clear ho1 hb1 p0 p1 p2 q0
  by_cases z3 : e1 = 0
  case neg =>
    have HF : Hid (hoF 1 i1 xs1 2 i2 xs2 nm us = (⟨#[]⟩, e1)) := by unfold Hid hoF; rw [if_neg (by simp), HR1.out, if_pos z3]
    have z3' : (e1 != 0) = true := by simpa using z3
    clear z3
    go_wp2_with fail
    go_ret2
    exact ⟨by rw [HF.out]; rfl, (inferInstance : Ext w w1).out⟩
  subst z3
  have q0 : w1.cell? ⟨w.heap.size + 1, 0, none⟩ = some (.int .i64 2) := at_cell (at_ext HQ.out) 0
  have q1 : w1.cell? ⟨w.heap.size + 1, 1, none⟩ = some (.int .i64 i2) := at_cell (at_ext HQ.out) 1
  have q2 : w1.cell? ⟨w.heap.size + 1, 2, none⟩ = some (.slice A2 n2 k2) := at_cell (at_ext HQ.out) 2
  go_wp2_with fail
  refine (read_any 2 i2 A2 n2 k2 xs2 Hn2.out hm2 HB2.out _ (by exact HX2.out.ext)).mono ?_
  rintro e w2 ⟨B2, m2, rfl, ho2, hb2⟩
  rw [HR2.out] at ho2 ⊢
  simp only at ho2 ⊢
  have S2 : Step w2 w1 := ⟨hb2⟩
  have HO2 := Lib.hid ho2
  obtain ⟨sd, hsd⟩ : ∃ sd, strOfNums r' = sd := ⟨_, rfl⟩
  simp only [hsd]
  have HSD := Lib.hid hsd
  clear ho2 hb2 q0 q1 q2 hsd
  by_cases z4 : e2 = 0
  case neg =>
    have HF : Hid (hoF 1 i1 xs1 2 i2 xs2 nm us = (⟨#[]⟩, e2)) := by unfold Hid hoF; rw [if_neg (by simp), HR1.out, HR2.out, if_neg (by simp), if_pos z4]
    have z4' : (e2 != 0) = true := by simpa using z4
    clear z4
    go_wp2_with fail
    go_ret2
    exact ⟨by rw [HF.out]; rfl, (inferInstance : Ext w w2).out⟩
  subst z4
  have p1 : w2.cell? ⟨w.heap.size, 1, none⟩ = some (.int .i64 i1) := at_cell (at_ext HP.out) 1
  have q1 : w2.cell? ⟨w.heap.size + 1, 1, none⟩ = some (.int .i64 i2) := at_cell (at_ext HQ.out) 1
  by_cases z5 : i1 = i2
  case neg =>
    have HF : Hid (hoF 1 i1 xs1 2 i2 xs2 nm us = (⟨#[]⟩, 201)) := by unfold Hid hoF; rw [if_neg (by simp), HR1.out, HR2.out, if_neg (by simp), if_neg (by simp), if_pos z5]
    have z5' : (i1 != i2) = true := by simpa using z5
    clear z5
    go_wp2_with fail
    go_ret2
    exact ⟨by rw [HF.out]; rfl, (inferInstance : Ext w w2).out⟩
  subst z5
  have HFN : Hid (∀ R, (if strB (secW (strB sd) (strB nm) us) = [] then (⟨#[]⟩, 5)
      else if respD i1 (secW (strB sd) (strB nm) us) p ≠ p' then (⟨#[]⟩, 120) else (sd, 0)) = R → hoF 1 i1 xs1 2 i1 xs2 nm us = R) := by
    intro R h
    unfold hoF
    rw [if_neg (by simp), HR1.out, HR2.out, if_neg (by simp), if_neg (by simp), if_neg (by simp)]
    simp only [HSD.out]
    exact h
  go_wp2_with fail
  refine (word_any LA ln lc us sd nm HLN.out hln' _ (by exact HS.out.ext)).mono ?_
  rintro e w3 ⟨rfl, hb3⟩
  have S3 : Step w3 w2 := ⟨hb3⟩
  have HWS : Hid ((secW (strB sd) (strB nm) us).size ≤ 64) := secW_size
  obtain ⟨wd, hwd⟩ : ∃ wd, secW (strB sd) (strB nm) us = wd := ⟨_, rfl⟩
  rw [hwd] at HFN HWS ⊢
  clear hwd hb3 p1 q1
  by_cases z6 : wd.toList = []
  · have HF : Hid (hoF 1 i1 xs1 2 i1 xs2 nm us = (⟨#[]⟩, 5)) := HFN.out _ (if_pos (by unfold strB; rw [← Lib.toList_data, z6]; rfl))
    go_wp2_with fail
    go_ret2
    exact ⟨by rw [HF.out]; rfl, (inferInstance : Ext w w3).out⟩
  have z6b : (wd.toList == []) = false := by simpa using z6
  have z6c : wd.toList.isEmpty = false := by rw [List.isEmpty_eq_false_iff]; exact z6
  have HFM : Hid (∀ R, (if respD i1 wd p ≠ p' then (⟨#[]⟩, 120) else (sd, 0)) = R → hoF 1 i1 xs1 2 i1 xs2 nm us = R) := fun R h => HFN.out R ((if_neg (fun h => z6 (by unfold strB at h; rw [Lib.toList_data]; exact List.map_eq_nil_iff.1 h))).trans h)
  clear HFN z6
  have p1 : w3.cell? ⟨w.heap.size, 1, none⟩ = some (.int .i64 i1) := at_cell (at_ext HP.out) 1
  go_wp2_with fail
  refine (resp4_any i1 wd B1 p.length m1 p rfl (by have h1 := HWS.out; have h2 := HA1.out.1.2; omega) HA1.out.1.1 _ (own_cells (own_ext HO1.out))).mono ?_
  rintro e w4 ⟨rfl, hb4⟩
  have S4 : Step w4 w3 := ⟨hb4⟩
  have hl := respD_len i1 wd p
  have HDB : Hid (Byt (respD i1 wd p)) := respD_byt
  obtain ⟨ds, hds⟩ : ∃ ds, respD i1 wd p = ds := ⟨_, rfl⟩
  rw [hds] at HFM hl HDB ⊢
  have HI16 : Hid ((Try.prog.info? 47).map (·.size) = some (nums .u8 ds).toArray.size) := by
    unfold Hid
    rw [List.size_toArray, nums_length, hl]
    kernel_rfl
  have HZ16 : Hid ((nums .u8 (List.replicate 16 0)).toArray.size = (nums .u8 ds).toArray.size) := by
    unfold Hid
    rw [List.size_toArray, List.size_toArray, nums_length, nums_length, hl]
    rfl
  have HL := Lib.hid hl
  have pn : ∀ o, (w4.alloc o).heap[w4.heap.size]? = some o := at_new w4
  clear hb4 hl hds p1
  go_upto_region 15 with
    (refine wpList_store_row_o rfl 47 (.tmp 16) (.tmp 63) rfl w4.heap.size (nums .u8 ds).toArray rfl rfl 47 (nums .u8 (List.replicate 16 0)).toArray (pn _) HI16.out HZ16.out (one_all _ _) ?_
     intro w5 hr5 ho5 hz5 hb5
     have HR5 := Lib.hid hr5
     have X45 : Hid (Ext w4 w5) := ⟨hb5 _ _ (inferInstance : Ext w4 (w4.alloc _)).out (Nat.le_refl _)⟩
     clear hr5 ho5 hz5 hb5 pn)
  have S5 : Step w5 w4 := ⟨X45.out.out⟩
  go_wp2_with fail
  refine (equal4_any (some ⟨w4.heap.size, 0, none⟩) B2 16 p'.length 16 m2 ds p' HL.out rfl (by omega) (by have := HA2.out.1.2; omega) HDB.out HA2.out.1.1 _ (cells_row HR5.out) (own_cells (own_ext (w := w4) (own_ext (w := w3) (own_ext HO2.out))))).mono ?_
  rintro e w6 ⟨rfl, hd6⟩
  have S6 : Step w6 w5 := Step.drawn hd6
  clear hd6
  by_cases z7 : ds = p'
  · have HF : Hid (hoF 1 i1 xs1 2 i1 xs2 nm us = (sd, 0)) := HFM.out _ (if_neg (by simpa using z7))
    rw [decide_eq_true z7]
    clear z7
    go_wp2_with fail
    go_ret2
    exact ⟨by rw [HF.out]; rfl, (inferInstance : Ext w w6).out⟩
  · have HF : Hid (hoF 1 i1 xs1 2 i1 xs2 nm us = (⟨#[]⟩, 120)) := HFM.out _ (if_pos z7)
    rw [decide_eq_false z7]
    clear z7
    go_wp2_with fail
    go_ret2
    exact ⟨by rw [HF.out]; rfl, (inferInstance : Ext w w6).out⟩
end Go.Proofs.Ytobddmpiljknpaa
