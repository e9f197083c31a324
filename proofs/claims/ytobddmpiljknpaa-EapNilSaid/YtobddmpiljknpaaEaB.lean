/-
  eap: Message.body. Conditions: sizes.
-/
import Derived.Test.YtobddmpiljknpaaEaA
namespace Go.Proofs.Ytobddmpiljknpaa
open Go.RowKit
set_option linter.unusedVariables false
set_option linter.unusedSimpArgs false

theorem strB_none {s : ByteArray} : strB s = [] ↔ s.toList = [] := by
  rw [Lib.toList_data]
  unfold strB
  exact List.map_eq_nil_iff
def BodyTells (ty : Int) (v : List Int) (s : ByteArray) (w : World) (e : Ending) (w' : World) : Prop :=
  ∃ bv, e = .returned (.tuple #[bv, .int .i64 (bodyE ty v (strB s))]) ∧ (bodyE ty v (strB s) = 0 → BytesOf w' bv (bodyD ty v (strB s))) ∧ Below w.heap.size w w'
theorem body_no {ty x : Int} {v : List Int} {s : ByteArray} {w w' : World} (h : bodyE ty v (strB s) = x) (hx : x ≠ 0) (hb : Below w.heap.size w w') : BodyTells ty v s w (.returned (.tuple #[.nilIface, .int .i64 x])) w' := by
  subst h
  exact ⟨_, rfl, fun h => absurd h hx, hb⟩
theorem body_yes {ty : Int} {v : List Int} {s : ByteArray} {w w' : World} {bv : Value} (h : bodyE ty v (strB s) = 0) (hv : BytesOf w' bv (bodyD ty v (strB s))) (hb : Below w.heap.size w w') : BodyTells ty v s w (.returned (.tuple #[bv, .int .i64 0])) w' :=
  ⟨bv, by rw [h], fun _ => hv, hb⟩
set_option maxRecDepth 100000 in
set_option maxHeartbeats 4000000 in
theorem body_any (code id ty : Int) (V : Option Addr) (n c : Nat) (v : List Int) (s : ByteArray) (hn : v.length = n) (hn' : n ≤ 140737488355000) (hs : s.size ≤ 140737488355000) (w : World) (hx : Cells w V (nums .u8 v)) :
    Calls Try.prog 76 #[.agg #[.int .i64 code, .int .i64 id, .int .i64 ty, .slice V n c, .string s]] w (BodyTells ty v s w) := by
  have Hn := Lib.hid hn
  have HX := Lib.hid hx
  clear hn hx
  by_cases t1 : ty = 1
  · subst t1
    go_enter Try.func76, Try.ntmps76
    go_upto_region 1 with fail
    obtain ⟨wb, hwb⟩ : ∃ wb, w.alloc (.cells #[.int .i64 code, .int .i64 id, .int .i64 1, .slice V n c, .string s] 52) = wb := ⟨_, rfl⟩
    have HP : Hid (wb.heap[w.heap.size]? = some (.cells #[.int .i64 code, .int .i64 id, .int .i64 1, .slice V n c, .string s] 52 (0, 0))) := by unfold Hid; rw [← hwb]; exact at_new w _
    have HW : Hid (Ext w wb) := by unfold Hid; rw [← hwb]; exact inferInstance
    rw [hwb]
    clear hwb
    have p2 : wb.cell? ⟨w.heap.size, 2, none⟩ = some (.int .i64 1) := at_cell HP.out 2
    have p3 : wb.cell? ⟨w.heap.size, 3, none⟩ = some (.slice V n c) := at_cell HP.out 3
    have p4 : wb.cell? ⟨w.heap.size, 4, none⟩ = some (.string s) := at_cell HP.out 4
    by_cases hz : n = 0
    · have HE : Hid (bodyE 1 v (strB s) = 0) := by unfold Hid bodyE; rw [if_pos (by omega), if_pos (List.eq_nil_of_length_eq_zero (by rw [Hn.out]; exact hz))]
      have HD : Hid (bodyD 1 v (strB s) = strB s) := if_pos (by omega)
      have hzI : ¬ (0 : Int) < (n : Int) := by omega
      clear hz
      go_wp2
      go_ret2
      exact body_yes HE.out (by rw [HD.out]; exact bytesOf_plain s wb) HW.out.out
    · have HE : Hid (bodyE 1 v (strB s) = 3) := by unfold Hid bodyE; rw [if_pos (by omega), if_neg (fun h => hz (by rw [← Hn.out, h]; rfl))]
      have hzI : (0 : Int) < (n : Int) := by omega
      clear hz
      go_wp2
      go_ret2
      exact body_no HE.out (by decide) HW.out.out
  have t1b : (ty == 1) = false := by simpa using t1
  by_cases t2 : ty = 2
  · subst t2
    go_enter Try.func76, Try.ntmps76
    go_upto_region 1 with fail
    obtain ⟨wb, hwb⟩ : ∃ wb, w.alloc (.cells #[.int .i64 code, .int .i64 id, .int .i64 2, .slice V n c, .string s] 52) = wb := ⟨_, rfl⟩
    have HP : Hid (wb.heap[w.heap.size]? = some (.cells #[.int .i64 code, .int .i64 id, .int .i64 2, .slice V n c, .string s] 52 (0, 0))) := by unfold Hid; rw [← hwb]; exact at_new w _
    have HW : Hid (Ext w wb) := by unfold Hid; rw [← hwb]; exact inferInstance
    rw [hwb]
    clear hwb
    have p2 : wb.cell? ⟨w.heap.size, 2, none⟩ = some (.int .i64 2) := at_cell HP.out 2
    have p3 : wb.cell? ⟨w.heap.size, 3, none⟩ = some (.slice V n c) := at_cell HP.out 3
    have p4 : wb.cell? ⟨w.heap.size, 4, none⟩ = some (.string s) := at_cell HP.out 4
    by_cases hz : n = 0
    · have HE : Hid (bodyE 2 v (strB s) = 0) := by unfold Hid bodyE; rw [if_pos (by omega), if_pos (List.eq_nil_of_length_eq_zero (by rw [Hn.out]; exact hz))]
      have HD : Hid (bodyD 2 v (strB s) = strB s) := if_pos (by omega)
      have hzI : ¬ (0 : Int) < (n : Int) := by omega
      clear hz
      go_wp2
      go_ret2
      exact body_yes HE.out (by rw [HD.out]; exact bytesOf_plain s wb) HW.out.out
    · have HE : Hid (bodyE 2 v (strB s) = 3) := by unfold Hid bodyE; rw [if_pos (by omega), if_neg (fun h => hz (by rw [← Hn.out, h]; rfl))]
      have hzI : (0 : Int) < (n : Int) := by omega
      clear hz
      go_wp2
      go_ret2
      exact body_no HE.out (by decide) HW.out.out
  have t2b : (ty == 2) = false := by simpa using t2
  by_cases t4 : ty = 4
  · subst t4
    go_enter Try.func76, Try.ntmps76
    go_upto_region 1 with fail
    obtain ⟨wb, hwb⟩ : ∃ wb, w.alloc (.cells #[.int .i64 code, .int .i64 id, .int .i64 4, .slice V n c, .string s] 52) = wb := ⟨_, rfl⟩
    have HP : Hid (wb.heap[w.heap.size]? = some (.cells #[.int .i64 code, .int .i64 id, .int .i64 4, .slice V n c, .string s] 52 (0, 0))) := by unfold Hid; rw [← hwb]; exact at_new w _
    have HW : Hid (Ext w wb) := by unfold Hid; rw [← hwb]; exact inferInstance
    rw [hwb]
    clear hwb
    have p2 : wb.cell? ⟨w.heap.size, 2, none⟩ = some (.int .i64 4) := at_cell HP.out 2
    have p3 : wb.cell? ⟨w.heap.size, 3, none⟩ = some (.slice V n c) := at_cell HP.out 3
    have p4 : wb.cell? ⟨w.heap.size, 4, none⟩ = some (.string s) := at_cell HP.out 4
    by_cases l1 : n < 1
    · have HE : Hid (bodyE 4 v (strB s) = 3) := by unfold Hid bodyE; rw [if_neg (by omega), if_pos rfl, if_pos (by rw [Hn.out]; omega)]
      have l1I : (n : Int) < 1 := by omega
      go_wp2
      go_ret2
      exact body_no HE.out (by decide) HW.out.out
    have l1I : ¬ (n : Int) < 1 := by omega
    by_cases l2 : 255 < n
    · have HE : Hid (bodyE 4 v (strB s) = 3) := by unfold Hid bodyE; rw [if_neg (by omega), if_pos rfl, if_pos (by rw [Hn.out]; omega)]
      have l2I : 255 < (n : Int) := by omega
      go_wp2
      go_ret2
      exact body_no HE.out (by decide) HW.out.out
    have l2I : ¬ 255 < (n : Int) := by omega
    have HE : Hid (bodyE 4 v (strB s) = 0) := by unfold Hid bodyE; rw [if_neg (by omega), if_pos rfl, if_neg (by rw [Hn.out]; omega)]
    have HD : Hid (bodyD 4 v (strB s) = [(v.length : Int)] ++ v ++ strB s) := by unfold Hid bodyD; rw [if_neg (by omega), if_pos rfl]
    obtain ⟨w1, c1, hcv, hsc, hC1, hB1, _⟩ := conv_str (P := Try.prog) wb 9 22 5 s Try.underlying9 Try.underlying22 Try.underlying5
    have HC1 := Lib.hid hC1
    have X1 : Hid (Ext wb w1) := ⟨hB1⟩
    have hl2 : n ≤ 255 := by omega
    clear hC1 hB1 hsc
    go_wp2
    go_ret2
    have XX := Ext.trans_ HW.out X1.out
    exact body_yes HE.out (by rw [HD.out]; exact bytesOf_proof V n c v _ s.size c1 (strB s) Hn.out hl2 (strB_len s) hs w1 (HX.out.ext (h := XX)) HC1.out) XX.out
  have t4b : (ty == 4) = false := by simpa using t4
  by_cases ts : s.toList = []
  case neg =>
    have HE : Hid (bodyE ty v (strB s) = 3) := by unfold Hid bodyE; rw [if_neg (by omega), if_neg t4, if_pos (.inl (fun h => ts (strB_none.1 h)))]
    have tsb : (s.toList == []) = false := by simpa using ts
    have tsc : s.toList.isEmpty = false := by rw [List.isEmpty_eq_false_iff]; exact ts
    clear t1 t2 t4 ts
    go_enter Try.func76, Try.ntmps76
    go_upto_region 1 with fail
    obtain ⟨wb, hwb⟩ : ∃ wb, w.alloc (.cells #[.int .i64 code, .int .i64 id, .int .i64 ty, .slice V n c, .string s] 52) = wb := ⟨_, rfl⟩
    have HP : Hid (wb.heap[w.heap.size]? = some (.cells #[.int .i64 code, .int .i64 id, .int .i64 ty, .slice V n c, .string s] 52 (0, 0))) := by unfold Hid; rw [← hwb]; exact at_new w _
    have HW : Hid (Ext w wb) := by unfold Hid; rw [← hwb]; exact inferInstance
    rw [hwb]
    clear hwb
    have p2 : wb.cell? ⟨w.heap.size, 2, none⟩ = some (.int .i64 ty) := at_cell HP.out 2
    have p3 : wb.cell? ⟨w.heap.size, 3, none⟩ = some (.slice V n c) := at_cell HP.out 3
    have p4 : wb.cell? ⟨w.heap.size, 4, none⟩ = some (.string s) := at_cell HP.out 4
    go_wp2
    go_ret2
    exact body_no HE.out (by decide) HW.out.out
  have HS : Hid (strB s = []) := strB_none.2 ts
  have tsb : (s.toList == []) = true := by simpa using ts
  have tsc : s.toList.isEmpty = true := by rw [ts]; rfl
  clear ts
  by_cases t3 : ty = 3
  · subst t3
    by_cases hz : n = 0
    · have HE : Hid (bodyE 3 v (strB s) = 3) := by unfold Hid bodyE; rw [if_neg (by omega), if_neg t4, if_pos (.inr ⟨rfl, List.eq_nil_of_length_eq_zero (by rw [Hn.out]; exact hz)⟩)]
      have hzI : ((n : Int) == 0) = true := by simpa using hz
      clear t1 t2 t4 hz
      go_enter Try.func76, Try.ntmps76
      go_upto_region 1 with fail
      obtain ⟨wb, hwb⟩ : ∃ wb, w.alloc (.cells #[.int .i64 code, .int .i64 id, .int .i64 3, .slice V n c, .string s] 52) = wb := ⟨_, rfl⟩
      have HP : Hid (wb.heap[w.heap.size]? = some (.cells #[.int .i64 code, .int .i64 id, .int .i64 3, .slice V n c, .string s] 52 (0, 0))) := by unfold Hid; rw [← hwb]; exact at_new w _
      have HW : Hid (Ext w wb) := by unfold Hid; rw [← hwb]; exact inferInstance
      rw [hwb]
      clear hwb
      have p2 : wb.cell? ⟨w.heap.size, 2, none⟩ = some (.int .i64 3) := at_cell HP.out 2
      have p3 : wb.cell? ⟨w.heap.size, 3, none⟩ = some (.slice V n c) := at_cell HP.out 3
      have p4 : wb.cell? ⟨w.heap.size, 4, none⟩ = some (.string s) := at_cell HP.out 4
      go_wp2
      go_ret2
      exact body_no HE.out (by decide) HW.out.out
    · have HE : Hid (bodyE 3 v (strB s) = 0) := by unfold Hid bodyE; rw [if_neg (by omega), if_neg t4, if_neg (by rw [HS.out]; rintro (h | h); exact h rfl; exact hz (by rw [← Hn.out, h.2]; rfl))]
      have HD : Hid (bodyD 3 v (strB s) = v) := by unfold Hid bodyD; rw [if_neg (by omega), if_neg t4]
      have hzI : ((n : Int) == 0) = false := by simpa using hz
      clear t1 t2 t4
      go_enter Try.func76, Try.ntmps76
      go_upto_region 1 with fail
      obtain ⟨wb, hwb⟩ : ∃ wb, w.alloc (.cells #[.int .i64 code, .int .i64 id, .int .i64 3, .slice V n c, .string s] 52) = wb := ⟨_, rfl⟩
      have HP : Hid (wb.heap[w.heap.size]? = some (.cells #[.int .i64 code, .int .i64 id, .int .i64 3, .slice V n c, .string s] 52 (0, 0))) := by unfold Hid; rw [← hwb]; exact at_new w _
      have HW : Hid (Ext w wb) := by unfold Hid; rw [← hwb]; exact inferInstance
      rw [hwb]
      clear hwb
      have p2 : wb.cell? ⟨w.heap.size, 2, none⟩ = some (.int .i64 3) := at_cell HP.out 2
      have p3 : wb.cell? ⟨w.heap.size, 3, none⟩ = some (.slice V n c) := at_cell HP.out 3
      have p4 : wb.cell? ⟨w.heap.size, 4, none⟩ = some (.string s) := at_cell HP.out 4
      go_wp2
      go_ret2
      exact body_yes HE.out (by rw [HD.out]; exact bytesOf_unread V n c v Hn.out wb (HX.out.ext (h := HW.out))) HW.out.out
  have t3b : (ty == 3) = false := by simpa using t3
  have HE : Hid (bodyE ty v (strB s) = 0) := by unfold Hid bodyE; rw [if_neg (by omega), if_neg t4, if_neg (by rw [HS.out]; rintro (h | h); exact h rfl; exact t3 h.1)]
  have HD : Hid (bodyD ty v (strB s) = v) := by unfold Hid bodyD; rw [if_neg (by omega), if_neg t4]
  clear t1 t2 t3 t4
  go_enter Try.func76, Try.ntmps76
  go_upto_region 1 with fail
  obtain ⟨wb, hwb⟩ : ∃ wb, w.alloc (.cells #[.int .i64 code, .int .i64 id, .int .i64 ty, .slice V n c, .string s] 52) = wb := ⟨_, rfl⟩
  have HP : Hid (wb.heap[w.heap.size]? = some (.cells #[.int .i64 code, .int .i64 id, .int .i64 ty, .slice V n c, .string s] 52 (0, 0))) := by unfold Hid; rw [← hwb]; exact at_new w _
  have HW : Hid (Ext w wb) := by unfold Hid; rw [← hwb]; exact inferInstance
  rw [hwb]
  clear hwb
  have p2 : wb.cell? ⟨w.heap.size, 2, none⟩ = some (.int .i64 ty) := at_cell HP.out 2
  have p3 : wb.cell? ⟨w.heap.size, 3, none⟩ = some (.slice V n c) := at_cell HP.out 3
  have p4 : wb.cell? ⟨w.heap.size, 4, none⟩ = some (.string s) := at_cell HP.out 4
  go_wp2
  go_ret2
  exact body_yes HE.out (by rw [HD.out]; exact bytesOf_unread V n c v Hn.out wb (HX.out.ext (h := HW.out))) HW.out.out
end Go.Proofs.Ytobddmpiljknpaa
