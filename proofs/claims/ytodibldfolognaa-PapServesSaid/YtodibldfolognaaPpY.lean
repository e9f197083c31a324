/-
  Peers of pap and of its reference: Take. Conditions: sizes.
-/
import Derived.Test.YtodibldfolognaaPpX
namespace Go.Proofs.Ytodibldfolognaa
open Go.RowKit
set_option linter.unusedVariables false
set_option linter.unusedSimpArgs false

def ptF (qid : Int) (ra : (Bool × List Int) × Int) (sn id st : Int) (ms : ByteArray) : (Bool × Int) × Int × ByteArray :=
  if ra.2 ≠ 0 then ((false, ra.2), st, ms) else if st ≠ 0 ∨ sn = 0 then ((false, 9), st, ms) else if qid ≠ id then ((false, 1), st, ms) else ((ra.1.1, 0), if ra.1.1 then 1 else 2, strOfNums ra.1.2)
def PTTells (ty : TypeId) (B : Nat) (nm wd : ByteArray) (tr sn id : Int) (r : (Bool × Int) × Int × ByteArray) (w : World) (e : Ending) (w' : World) : Prop :=
  But w w' B ∧ PeerAt ty w' B nm wd tr sn id r.2.1 r.2.2 ∧ e = .returned (.tuple #[.bool r.1.1, .int .i64 r.1.2])
set_option maxRecDepth 100000 in
set_option maxHeartbeats 8000000 in
theorem ptake_any (B : Nat) (nm wd ms : ByteArray) (tr sn id st : Int) (code qid : Int) (A : Option Addr) (n c : Nat) (xs : List Int) (hn : xs.length = n) (hn' : n ≤ 140737488355328) (hnc : n ≤ c) (hb : Byt xs) (w : World) (hx : Cells w A (nums .u8 xs)) (h : PeerAt 154 w B nm wd tr sn id st ms) :
    Calls Try.prog 69 #[.pointer (some ⟨B, 0, none⟩), .agg #[.int .i64 code, .int .i64 qid, .slice A n c]] w (PTTells 154 B nm wd tr sn id (ptF qid (raF code qid xs) sn id st ms) w) := by
  have HP := Lib.hid h
  have Hn := Lib.hid hn
  have HX := Lib.hid hx
  have HB := Lib.hid hb
  clear h hn hx hb
  obtain ⟨⟨⟨b, m⟩, r⟩, hra⟩ : ∃ r, raF code qid xs = r := ⟨_, rfl⟩
  have HRA := Lib.hid hra
  rw [hra]
  clear hra
  by_cases h1 : r = 0
  · subst h1
    by_cases h2 : st = 0
    · subst h2
      by_cases h3 : sn = 0
      · subst h3
        go_enter Try.func69, Try.ntmps69
        go_upto_region 1 with fail
        obtain ⟨wb, hwb⟩ : ∃ wb, w.alloc (.cells #[.int .i64 code, .int .i64 qid, .slice A n c] 43) = wb := ⟨_, rfl⟩
        have HQ : Hid (wb.heap[w.heap.size]? = some (.cells #[.int .i64 code, .int .i64 qid, .slice A n c] 43 (0, 0))) := by unfold Hid; rw [← hwb]; exact at_new w _
        have Sb : Step wb w := ⟨by rw [← hwb]; exact Ext.out⟩
        rw [hwb]
        clear hwb
        have p0 : wb.cell? ⟨w.heap.size, 0, none⟩ = some (.int .i64 code) := at_cell HQ.out 0
        have p1 : wb.cell? ⟨w.heap.size, 1, none⟩ = some (.int .i64 qid) := at_cell HQ.out 1
        have p2 : wb.cell? ⟨w.heap.size, 2, none⟩ = some (.slice A n c) := at_cell HQ.out 2
        go_wp2_with fail
        refine (readAns_any code qid A n c xs Hn.out hn' hnc HB.out _ (by exact HX.out.ext)).mono ?_
        rintro e w2 ⟨he, hb2⟩
        unfold RATells at he
        rw [HRA.out] at he
        subst he
        have S2 : Step w2 wb := ⟨hb2⟩
        have HX2 : Hid (Ext w w2) := (inferInstance : Ext w w2)
        have HP2 := Lib.hid (HP.out.ext (w1 := w2))
        have HQ2 : Hid (w2.heap[w.heap.size]? = some (.cells #[.int .i64 code, .int .i64 qid, .slice A n c] 43 (0, 0))) := at_ext HQ.out
        obtain ⟨mb, hmb⟩ : ∃ mb, strOfNums m = mb := ⟨_, rfl⟩
        have HMB := Lib.hid hmb
        simp only [hmb]
        clear hb2 p0 p1 p2 hmb
        have q5 := HP2.out.p5
        have q3 := HP2.out.p3
        have HF : Hid (ptF qid ((b, m), 0) 0 id 0 ms = ((false, 9), 0, ms)) := by unfold Hid ptF; rw [if_neg (by simp), if_pos (.inr rfl)]
        go_wp2_with fail
        go_ret2
        exact ⟨But.of, by rw [HF.out]; exact HP2.out, by rw [HF.out]; rfl⟩
      have h3' : (sn == 0) = false := by simpa using h3
      by_cases h4 : qid = id
      · subst h4
        have HF : Hid (ptF qid ((b, m), 0) sn qid 0 ms = ((b, 0), if b then 1 else 2, strOfNums m)) := by unfold Hid ptF; rw [if_neg (by simp), if_neg (by simp [h3]), if_neg (by simp)]
        clear h3
        go_enter Try.func69, Try.ntmps69
        go_upto_region 1 with fail
        obtain ⟨wb, hwb⟩ : ∃ wb, w.alloc (.cells #[.int .i64 code, .int .i64 qid, .slice A n c] 43) = wb := ⟨_, rfl⟩
        have HQ : Hid (wb.heap[w.heap.size]? = some (.cells #[.int .i64 code, .int .i64 qid, .slice A n c] 43 (0, 0))) := by unfold Hid; rw [← hwb]; exact at_new w _
        have Sb : Step wb w := ⟨by rw [← hwb]; exact Ext.out⟩
        rw [hwb]
        clear hwb
        have p0 : wb.cell? ⟨w.heap.size, 0, none⟩ = some (.int .i64 code) := at_cell HQ.out 0
        have p1 : wb.cell? ⟨w.heap.size, 1, none⟩ = some (.int .i64 qid) := at_cell HQ.out 1
        have p2 : wb.cell? ⟨w.heap.size, 2, none⟩ = some (.slice A n c) := at_cell HQ.out 2
        go_wp2_with fail
        refine (readAns_any code qid A n c xs Hn.out hn' hnc HB.out _ (by exact HX.out.ext)).mono ?_
        rintro e w2 ⟨he, hb2⟩
        unfold RATells at he
        rw [HRA.out] at he
        subst he
        have S2 : Step w2 wb := ⟨hb2⟩
        have HX2 : Hid (Ext w w2) := (inferInstance : Ext w w2)
        have HP2 := Lib.hid (HP.out.ext (w1 := w2))
        have HQ2 : Hid (w2.heap[w.heap.size]? = some (.cells #[.int .i64 code, .int .i64 qid, .slice A n c] 43 (0, 0))) := at_ext HQ.out
        obtain ⟨mb, hmb⟩ : ∃ mb, strOfNums m = mb := ⟨_, rfl⟩
        have HMB := Lib.hid hmb
        simp only [hmb]
        clear hb2 p0 p1 p2 hmb
        rw [HMB.out] at HF
        have q5 := HP2.out.p5
        have q3 := HP2.out.p3
        have q4 := HP2.out.p4
        have q1 : w2.cell? ⟨w.heap.size, 1, none⟩ = some (.int .i64 qid) := at_cell HQ2.out 1
        go_upto_region 8 with fail
        refine wp_region_held_drew (S := fun W => Ext w2 W) (by kernel_rfl) (by exact inferInstance) (fun hHeld => ?_)
        refine wpAnyH_take (i := 0) (v := ?_) rfl (by kernel_rfl) (by kernel_rfl) (by kernel_rfl) (fun _ _ _ h => h) (Yields.yieldsIf (Or.inl ⟨by rfl, ?_⟩)) hHeld ?_
        rotate_left
        · intro W
          go_simp
          try with_reducible rfl
        simp only [List.getElem_toArray, List.getElem_cons_succ, List.getElem_cons_zero, Act.put, List.setIfInBounds_toArray, List.set_cons_zero, List.set_cons_succ]
        refine wpAnyH_take (i := 1) (v := ?_) rfl (by kernel_rfl) (by kernel_rfl) (by kernel_rfl) (fun _ _ _ h => h) (Or.inl ⟨by rfl, ?_⟩) hHeld ?_
        rotate_left
        · intro W hW
          have hcl := (cell_ext (h := hW) q1)
          go_simp
          try with_reducible rfl
        simp only [List.getElem_toArray, List.getElem_cons_succ, List.getElem_cons_zero, Act.put, List.setIfInBounds_toArray, List.set_cons_zero, List.set_cons_succ]
        refine wpAnyH_take (i := 2) (v := ?_) rfl (by kernel_rfl) (by kernel_rfl) (by kernel_rfl) (fun _ _ _ h => h) (Yields.yieldsIf (Or.inl ⟨by rfl, ?_⟩)) hHeld ?_
        rotate_left
        · intro W
          go_simp
          try with_reducible rfl
        simp only [List.getElem_toArray, List.getElem_cons_succ, List.getElem_cons_zero, Act.put, List.setIfInBounds_toArray, List.set_cons_zero, List.set_cons_succ]
        refine wpAnyH_take (i := 3) (v := ?_) rfl (by kernel_rfl) (by kernel_rfl) (by kernel_rfl) (fun _ _ _ h => h) (Yields.yieldsIf (Or.inl ⟨by rfl, ?_⟩)) hHeld ?_
        rotate_left
        · intro W
          go_simp
          try with_reducible rfl
        simp only [List.getElem_toArray, List.getElem_cons_succ, List.getElem_cons_zero, Act.put, List.setIfInBounds_toArray, List.set_cons_zero, List.set_cons_succ]
        refine wpAnyH_take (i := 4) (v := ?_) rfl (by kernel_rfl) (by kernel_rfl) (by kernel_rfl) (fun _ _ _ h => h) (Yields.yieldsIf (Or.inl ⟨by rfl, ?_⟩)) hHeld ?_
        rotate_left
        · intro W
          go_simp
          try with_reducible rfl
        simp only [List.getElem_toArray, List.getElem_cons_succ, List.getElem_cons_zero, Act.put, List.setIfInBounds_toArray, List.set_cons_zero, List.set_cons_succ]
        refine wpAnyH_take (i := 5) (v := ?_) rfl (by kernel_rfl) (by kernel_rfl) (by kernel_rfl) (fun _ _ _ h => h) (Or.inl ⟨by rfl, ?_⟩) hHeld ?_
        rotate_left
        · intro W hW
          have hcl := (cell_ext (h := hW) q4)
          go_simp
          try with_reducible rfl
        simp only [List.getElem_toArray, List.getElem_cons_succ, List.getElem_cons_zero, Act.put, List.setIfInBounds_toArray, List.set_cons_zero, List.set_cons_succ]
        refine wpAnyH_take (i := 6) (v := ?_) rfl (by kernel_rfl) (by kernel_rfl) (by kernel_rfl) (fun _ _ _ h => h) (Yields.yieldsIf (Or.inl ⟨by rfl, ?_⟩)) hHeld ?_
        rotate_left
        · intro W
          go_simp
          try with_reducible rfl
        simp only [List.getElem_toArray, List.getElem_cons_succ, List.getElem_cons_zero, Act.put, List.setIfInBounds_toArray, List.set_cons_zero, List.set_cons_succ]
        refine wpAnyH_take (i := 7) (v := ?_) rfl (by kernel_rfl) (by kernel_rfl) (by kernel_rfl) (fun _ _ _ h => h) (Yields.yieldsIf (Or.inl ⟨by rfl, ?_⟩)) hHeld ?_
        rotate_left
        · intro W
          go_simp
          try with_reducible rfl
        simp only [List.getElem_toArray, List.getElem_cons_succ, List.getElem_cons_zero, Act.put, List.setIfInBounds_toArray, List.set_cons_zero, List.set_cons_succ]
        refine wpAnyH_done (by kernel_rfl) ?_ _
        clear hHeld
        obtain ⟨wv, hwv⟩ : ∃ wv, w2.drew = wv := ⟨_, rfl⟩
        have HPv : Hid (PeerAt 154 wv B nm wd tr sn qid 0 ms) := by unfold Hid; rw [← hwv]; exact HP2.out.ext
        have HBv : Hid (But w wv B) := by unfold Hid; rw [← hwv]; exact But.of (w1 := w2.drew)
        rw [hwv]
        clear hwv q5 q3 q4 q1
        have q5 := HPv.out.p5
        have f5 := HPv.out.f 5
        have h5 := HPv.out.s5 2
        cases b
        · skip
          have p6 := h5.p6
          have f6 := h5.f 6
          clear h5
          go_wp2_with fail
          go_ret2
          exact ⟨(HBv.out.set 5 _).set 6 _, by rw [HF.out]; exact (HPv.out.s5 2).s6 mb, by rw [HF.out]; rfl⟩
        · skip
          have p6 := h5.p6
          have f6 := h5.f 6
          have h6 := h5.s6 mb
          have r5 := h6.p5
          have g5 := h6.f 5
          clear h5 h6
          go_wp2_with fail
          go_ret2
          exact ⟨((HBv.out.set 5 _).set 6 _).set 5 _, by rw [HF.out]; exact ((HPv.out.s5 2).s6 mb).s5 1, by rw [HF.out]; rfl⟩
      · have h4' : (qid == id) = false := by simpa using h4
        have h4'' : (qid != id) = true := by simpa using h4
        have HF : Hid (ptF qid ((b, m), 0) sn id 0 ms = ((false, 1), 0, ms)) := by unfold Hid ptF; rw [if_neg (by simp), if_neg (by simp [h3]), if_pos h4]
        clear h3 h4
        go_enter Try.func69, Try.ntmps69
        go_upto_region 1 with fail
        obtain ⟨wb, hwb⟩ : ∃ wb, w.alloc (.cells #[.int .i64 code, .int .i64 qid, .slice A n c] 43) = wb := ⟨_, rfl⟩
        have HQ : Hid (wb.heap[w.heap.size]? = some (.cells #[.int .i64 code, .int .i64 qid, .slice A n c] 43 (0, 0))) := by unfold Hid; rw [← hwb]; exact at_new w _
        have Sb : Step wb w := ⟨by rw [← hwb]; exact Ext.out⟩
        rw [hwb]
        clear hwb
        have p0 : wb.cell? ⟨w.heap.size, 0, none⟩ = some (.int .i64 code) := at_cell HQ.out 0
        have p1 : wb.cell? ⟨w.heap.size, 1, none⟩ = some (.int .i64 qid) := at_cell HQ.out 1
        have p2 : wb.cell? ⟨w.heap.size, 2, none⟩ = some (.slice A n c) := at_cell HQ.out 2
        go_wp2_with fail
        refine (readAns_any code qid A n c xs Hn.out hn' hnc HB.out _ (by exact HX.out.ext)).mono ?_
        rintro e w2 ⟨he, hb2⟩
        unfold RATells at he
        rw [HRA.out] at he
        subst he
        have S2 : Step w2 wb := ⟨hb2⟩
        have HX2 : Hid (Ext w w2) := (inferInstance : Ext w w2)
        have HP2 := Lib.hid (HP.out.ext (w1 := w2))
        have HQ2 : Hid (w2.heap[w.heap.size]? = some (.cells #[.int .i64 code, .int .i64 qid, .slice A n c] 43 (0, 0))) := at_ext HQ.out
        obtain ⟨mb, hmb⟩ : ∃ mb, strOfNums m = mb := ⟨_, rfl⟩
        have HMB := Lib.hid hmb
        simp only [hmb]
        clear hb2 p0 p1 p2 hmb
        have q5 := HP2.out.p5
        have q3 := HP2.out.p3
        have q4 := HP2.out.p4
        have q1 : w2.cell? ⟨w.heap.size, 1, none⟩ = some (.int .i64 qid) := at_cell HQ2.out 1
        go_upto_region 8 with fail
        refine wp_region_held_drew (S := fun W => Ext w2 W) (by kernel_rfl) (by exact inferInstance) (fun hHeld => ?_)
        refine wpAnyH_take (i := 0) (v := ?_) rfl (by kernel_rfl) (by kernel_rfl) (by kernel_rfl) (fun _ _ _ h => h) (Yields.yieldsIf (Or.inl ⟨by rfl, ?_⟩)) hHeld ?_
        rotate_left
        · intro W
          go_simp
          try with_reducible rfl
        simp only [List.getElem_toArray, List.getElem_cons_succ, List.getElem_cons_zero, Act.put, List.setIfInBounds_toArray, List.set_cons_zero, List.set_cons_succ]
        refine wpAnyH_take (i := 1) (v := ?_) rfl (by kernel_rfl) (by kernel_rfl) (by kernel_rfl) (fun _ _ _ h => h) (Or.inl ⟨by rfl, ?_⟩) hHeld ?_
        rotate_left
        · intro W hW
          have hcl := (cell_ext (h := hW) q1)
          go_simp
          try with_reducible rfl
        simp only [List.getElem_toArray, List.getElem_cons_succ, List.getElem_cons_zero, Act.put, List.setIfInBounds_toArray, List.set_cons_zero, List.set_cons_succ]
        refine wpAnyH_take (i := 2) (v := ?_) rfl (by kernel_rfl) (by kernel_rfl) (by kernel_rfl) (fun _ _ _ h => h) (Yields.yieldsIf (Or.inl ⟨by rfl, ?_⟩)) hHeld ?_
        rotate_left
        · intro W
          go_simp
          try with_reducible rfl
        simp only [List.getElem_toArray, List.getElem_cons_succ, List.getElem_cons_zero, Act.put, List.setIfInBounds_toArray, List.set_cons_zero, List.set_cons_succ]
        refine wpAnyH_take (i := 3) (v := ?_) rfl (by kernel_rfl) (by kernel_rfl) (by kernel_rfl) (fun _ _ _ h => h) (Yields.yieldsIf (Or.inl ⟨by rfl, ?_⟩)) hHeld ?_
        rotate_left
        · intro W
          go_simp
          try with_reducible rfl
        simp only [List.getElem_toArray, List.getElem_cons_succ, List.getElem_cons_zero, Act.put, List.setIfInBounds_toArray, List.set_cons_zero, List.set_cons_succ]
        refine wpAnyH_take (i := 4) (v := ?_) rfl (by kernel_rfl) (by kernel_rfl) (by kernel_rfl) (fun _ _ _ h => h) (Yields.yieldsIf (Or.inl ⟨by rfl, ?_⟩)) hHeld ?_
        rotate_left
        · intro W
          go_simp
          try with_reducible rfl
        simp only [List.getElem_toArray, List.getElem_cons_succ, List.getElem_cons_zero, Act.put, List.setIfInBounds_toArray, List.set_cons_zero, List.set_cons_succ]
        refine wpAnyH_take (i := 5) (v := ?_) rfl (by kernel_rfl) (by kernel_rfl) (by kernel_rfl) (fun _ _ _ h => h) (Or.inl ⟨by rfl, ?_⟩) hHeld ?_
        rotate_left
        · intro W hW
          have hcl := (cell_ext (h := hW) q4)
          go_simp
          try with_reducible rfl
        simp only [List.getElem_toArray, List.getElem_cons_succ, List.getElem_cons_zero, Act.put, List.setIfInBounds_toArray, List.set_cons_zero, List.set_cons_succ]
        refine wpAnyH_take (i := 6) (v := ?_) rfl (by kernel_rfl) (by kernel_rfl) (by kernel_rfl) (fun _ _ _ h => h) (Yields.yieldsIf (Or.inl ⟨by rfl, ?_⟩)) hHeld ?_
        rotate_left
        · intro W
          go_simp
          try with_reducible rfl
        simp only [List.getElem_toArray, List.getElem_cons_succ, List.getElem_cons_zero, Act.put, List.setIfInBounds_toArray, List.set_cons_zero, List.set_cons_succ]
        refine wpAnyH_take (i := 7) (v := ?_) rfl (by kernel_rfl) (by kernel_rfl) (by kernel_rfl) (fun _ _ _ h => h) (Yields.yieldsIf (Or.inl ⟨by rfl, ?_⟩)) hHeld ?_
        rotate_left
        · intro W
          go_simp
          try with_reducible rfl
        simp only [List.getElem_toArray, List.getElem_cons_succ, List.getElem_cons_zero, Act.put, List.setIfInBounds_toArray, List.set_cons_zero, List.set_cons_succ]
        refine wpAnyH_done (by kernel_rfl) ?_ _
        clear hHeld
        obtain ⟨wv, hwv⟩ : ∃ wv, w2.drew = wv := ⟨_, rfl⟩
        have HPv : Hid (PeerAt 154 wv B nm wd tr sn id 0 ms) := by unfold Hid; rw [← hwv]; exact HP2.out.ext
        have HBv : Hid (But w wv B) := by unfold Hid; rw [← hwv]; exact But.of (w1 := w2.drew)
        rw [hwv]
        clear hwv q5 q3 q4 q1
        go_wp2_with fail
        go_ret2
        exact ⟨HBv.out, by rw [HF.out]; exact HPv.out, by rw [HF.out]; rfl⟩
    · have h2' : (st != 0) = true := by simpa using h2
      have HF : Hid (ptF qid ((b, m), 0) sn id st ms = ((false, 9), st, ms)) := by unfold Hid ptF; rw [if_neg (by simp), if_pos (.inl h2)]
      clear h2
      go_enter Try.func69, Try.ntmps69
      go_upto_region 1 with fail
      obtain ⟨wb, hwb⟩ : ∃ wb, w.alloc (.cells #[.int .i64 code, .int .i64 qid, .slice A n c] 43) = wb := ⟨_, rfl⟩
      have HQ : Hid (wb.heap[w.heap.size]? = some (.cells #[.int .i64 code, .int .i64 qid, .slice A n c] 43 (0, 0))) := by unfold Hid; rw [← hwb]; exact at_new w _
      have Sb : Step wb w := ⟨by rw [← hwb]; exact Ext.out⟩
      rw [hwb]
      clear hwb
      have p0 : wb.cell? ⟨w.heap.size, 0, none⟩ = some (.int .i64 code) := at_cell HQ.out 0
      have p1 : wb.cell? ⟨w.heap.size, 1, none⟩ = some (.int .i64 qid) := at_cell HQ.out 1
      have p2 : wb.cell? ⟨w.heap.size, 2, none⟩ = some (.slice A n c) := at_cell HQ.out 2
      go_wp2_with fail
      refine (readAns_any code qid A n c xs Hn.out hn' hnc HB.out _ (by exact HX.out.ext)).mono ?_
      rintro e w2 ⟨he, hb2⟩
      unfold RATells at he
      rw [HRA.out] at he
      subst he
      have S2 : Step w2 wb := ⟨hb2⟩
      have HX2 : Hid (Ext w w2) := (inferInstance : Ext w w2)
      have HP2 := Lib.hid (HP.out.ext (w1 := w2))
      have HQ2 : Hid (w2.heap[w.heap.size]? = some (.cells #[.int .i64 code, .int .i64 qid, .slice A n c] 43 (0, 0))) := at_ext HQ.out
      obtain ⟨mb, hmb⟩ : ∃ mb, strOfNums m = mb := ⟨_, rfl⟩
      have HMB := Lib.hid hmb
      simp only [hmb]
      clear hb2 p0 p1 p2 hmb
      have q5 := HP2.out.p5
      go_wp2_with fail
      go_ret2
      exact ⟨But.of, by rw [HF.out]; exact HP2.out, by rw [HF.out]; rfl⟩
  · have h1' : (r != 0) = true := by simpa using h1
    have HF : Hid (ptF qid ((b, m), r) sn id st ms = ((false, r), st, ms)) := by unfold Hid ptF; rw [if_pos h1]
    clear h1
    go_enter Try.func69, Try.ntmps69
    go_upto_region 1 with fail
    obtain ⟨wb, hwb⟩ : ∃ wb, w.alloc (.cells #[.int .i64 code, .int .i64 qid, .slice A n c] 43) = wb := ⟨_, rfl⟩
    have HQ : Hid (wb.heap[w.heap.size]? = some (.cells #[.int .i64 code, .int .i64 qid, .slice A n c] 43 (0, 0))) := by unfold Hid; rw [← hwb]; exact at_new w _
    have Sb : Step wb w := ⟨by rw [← hwb]; exact Ext.out⟩
    rw [hwb]
    clear hwb
    have p0 : wb.cell? ⟨w.heap.size, 0, none⟩ = some (.int .i64 code) := at_cell HQ.out 0
    have p1 : wb.cell? ⟨w.heap.size, 1, none⟩ = some (.int .i64 qid) := at_cell HQ.out 1
    have p2 : wb.cell? ⟨w.heap.size, 2, none⟩ = some (.slice A n c) := at_cell HQ.out 2
    go_wp2_with fail
    refine (readAns_any code qid A n c xs Hn.out hn' hnc HB.out _ (by exact HX.out.ext)).mono ?_
    rintro e w2 ⟨he, hb2⟩
    unfold RATells at he
    rw [HRA.out] at he
    subst he
    have S2 : Step w2 wb := ⟨hb2⟩
    have HX2 : Hid (Ext w w2) := (inferInstance : Ext w w2)
    have HP2 := Lib.hid (HP.out.ext (w1 := w2))
    have HQ2 : Hid (w2.heap[w.heap.size]? = some (.cells #[.int .i64 code, .int .i64 qid, .slice A n c] 43 (0, 0))) := at_ext HQ.out
    obtain ⟨mb, hmb⟩ : ∃ mb, strOfNums m = mb := ⟨_, rfl⟩
    have HMB := Lib.hid hmb
    simp only [hmb]
    clear hb2 p0 p1 p2 hmb
    go_wp2_with fail
    go_ret2
    exact ⟨But.of, by rw [HF.out]; exact HP2.out, by rw [HF.out]; rfl⟩
set_option maxRecDepth 100000 in
set_option maxHeartbeats 8000000 in
theorem rptake_any (B : Nat) (nm wd ms : ByteArray) (tr sn id st : Int) (code qid : Int) (A : Option Addr) (n c : Nat) (xs : List Int) (hn : xs.length = n) (hn' : n ≤ 140737488355328) (hnc : n ≤ c) (hb : Byt xs) (w : World) (hx : Cells w A (nums .u8 xs)) (h : PeerAt 114 w B nm wd tr sn id st ms) :
    Calls Try.prog 73 #[.pointer (some ⟨B, 0, none⟩), .agg #[.int .i64 code, .int .i64 qid, .slice A n c]] w (PTTells 114 B nm wd tr sn id (ptF qid (raF code qid xs) sn id st ms) w) := by
  have HP := Lib.hid h
  have Hn := Lib.hid hn
  have HX := Lib.hid hx
  have HB := Lib.hid hb
  clear h hn hx hb
  obtain ⟨⟨⟨b, m⟩, r⟩, hra⟩ : ∃ r, raF code qid xs = r := ⟨_, rfl⟩
  have HRA := Lib.hid hra
  rw [hra]
  clear hra
  by_cases h1 : r = 0
  · subst h1
    by_cases h2 : st = 0
    · subst h2
      by_cases h3 : sn = 0
      · subst h3
        go_enter Try.func73, Try.ntmps73
        go_upto_region 1 with fail
        obtain ⟨wb, hwb⟩ : ∃ wb, w.alloc (.cells #[.int .i64 code, .int .i64 qid, .slice A n c] 43) = wb := ⟨_, rfl⟩
        have HQ : Hid (wb.heap[w.heap.size]? = some (.cells #[.int .i64 code, .int .i64 qid, .slice A n c] 43 (0, 0))) := by unfold Hid; rw [← hwb]; exact at_new w _
        have Sb : Step wb w := ⟨by rw [← hwb]; exact Ext.out⟩
        rw [hwb]
        clear hwb
        have p0 : wb.cell? ⟨w.heap.size, 0, none⟩ = some (.int .i64 code) := at_cell HQ.out 0
        have p1 : wb.cell? ⟨w.heap.size, 1, none⟩ = some (.int .i64 qid) := at_cell HQ.out 1
        have p2 : wb.cell? ⟨w.heap.size, 2, none⟩ = some (.slice A n c) := at_cell HQ.out 2
        go_wp2_with fail
        refine (rreadAns_any code qid A n c xs Hn.out hn' hnc HB.out _ (by exact HX.out.ext)).mono ?_
        rintro e w2 ⟨he, hb2⟩
        unfold RATells at he
        rw [HRA.out] at he
        subst he
        have S2 : Step w2 wb := ⟨hb2⟩
        have HX2 : Hid (Ext w w2) := (inferInstance : Ext w w2)
        have HP2 := Lib.hid (HP.out.ext (w1 := w2))
        have HQ2 : Hid (w2.heap[w.heap.size]? = some (.cells #[.int .i64 code, .int .i64 qid, .slice A n c] 43 (0, 0))) := at_ext HQ.out
        obtain ⟨mb, hmb⟩ : ∃ mb, strOfNums m = mb := ⟨_, rfl⟩
        have HMB := Lib.hid hmb
        simp only [hmb]
        clear hb2 p0 p1 p2 hmb
        have q5 := HP2.out.p5
        have q3 := HP2.out.p3
        have HF : Hid (ptF qid ((b, m), 0) 0 id 0 ms = ((false, 9), 0, ms)) := by unfold Hid ptF; rw [if_neg (by simp), if_pos (.inr rfl)]
        go_wp2_with fail
        go_ret2
        exact ⟨But.of, by rw [HF.out]; exact HP2.out, by rw [HF.out]; rfl⟩
      have h3' : (sn == 0) = false := by simpa using h3
      by_cases h4 : qid = id
      · subst h4
        have HF : Hid (ptF qid ((b, m), 0) sn qid 0 ms = ((b, 0), if b then 1 else 2, strOfNums m)) := by unfold Hid ptF; rw [if_neg (by simp), if_neg (by simp [h3]), if_neg (by simp)]
        clear h3
        go_enter Try.func73, Try.ntmps73
        go_upto_region 1 with fail
        obtain ⟨wb, hwb⟩ : ∃ wb, w.alloc (.cells #[.int .i64 code, .int .i64 qid, .slice A n c] 43) = wb := ⟨_, rfl⟩
        have HQ : Hid (wb.heap[w.heap.size]? = some (.cells #[.int .i64 code, .int .i64 qid, .slice A n c] 43 (0, 0))) := by unfold Hid; rw [← hwb]; exact at_new w _
        have Sb : Step wb w := ⟨by rw [← hwb]; exact Ext.out⟩
        rw [hwb]
        clear hwb
        have p0 : wb.cell? ⟨w.heap.size, 0, none⟩ = some (.int .i64 code) := at_cell HQ.out 0
        have p1 : wb.cell? ⟨w.heap.size, 1, none⟩ = some (.int .i64 qid) := at_cell HQ.out 1
        have p2 : wb.cell? ⟨w.heap.size, 2, none⟩ = some (.slice A n c) := at_cell HQ.out 2
        go_wp2_with fail
        refine (rreadAns_any code qid A n c xs Hn.out hn' hnc HB.out _ (by exact HX.out.ext)).mono ?_
        rintro e w2 ⟨he, hb2⟩
        unfold RATells at he
        rw [HRA.out] at he
        subst he
        have S2 : Step w2 wb := ⟨hb2⟩
        have HX2 : Hid (Ext w w2) := (inferInstance : Ext w w2)
        have HP2 := Lib.hid (HP.out.ext (w1 := w2))
        have HQ2 : Hid (w2.heap[w.heap.size]? = some (.cells #[.int .i64 code, .int .i64 qid, .slice A n c] 43 (0, 0))) := at_ext HQ.out
        obtain ⟨mb, hmb⟩ : ∃ mb, strOfNums m = mb := ⟨_, rfl⟩
        have HMB := Lib.hid hmb
        simp only [hmb]
        clear hb2 p0 p1 p2 hmb
        rw [HMB.out] at HF
        have q5 := HP2.out.p5
        have q3 := HP2.out.p3
        have q4 := HP2.out.p4
        have q1 : w2.cell? ⟨w.heap.size, 1, none⟩ = some (.int .i64 qid) := at_cell HQ2.out 1
        go_upto_region 6 with fail
        refine wp_region_held_drew (S := fun W => Ext w2 W) (by kernel_rfl) (by exact inferInstance) (fun hHeld => ?_)
        refine wpAnyH_take (i := 0) (v := ?_) rfl (by kernel_rfl) (by kernel_rfl) (by kernel_rfl) (fun _ _ _ h => h) (Yields.yieldsIf (Or.inl ⟨by rfl, ?_⟩)) hHeld ?_
        rotate_left
        · intro W
          go_simp
          try with_reducible rfl
        simp only [List.getElem_toArray, List.getElem_cons_succ, List.getElem_cons_zero, Act.put, List.setIfInBounds_toArray, List.set_cons_zero, List.set_cons_succ]
        refine wpAnyH_take (i := 1) (v := ?_) rfl (by kernel_rfl) (by kernel_rfl) (by kernel_rfl) (fun _ _ _ h => h) (Or.inl ⟨by rfl, ?_⟩) hHeld ?_
        rotate_left
        · intro W hW
          have hcl := (cell_ext (h := hW) q1)
          go_simp
          try with_reducible rfl
        simp only [List.getElem_toArray, List.getElem_cons_succ, List.getElem_cons_zero, Act.put, List.setIfInBounds_toArray, List.set_cons_zero, List.set_cons_succ]
        refine wpAnyH_take (i := 2) (v := ?_) rfl (by kernel_rfl) (by kernel_rfl) (by kernel_rfl) (fun _ _ _ h => h) (Yields.yieldsIf (Or.inl ⟨by rfl, ?_⟩)) hHeld ?_
        rotate_left
        · intro W
          go_simp
          try with_reducible rfl
        simp only [List.getElem_toArray, List.getElem_cons_succ, List.getElem_cons_zero, Act.put, List.setIfInBounds_toArray, List.set_cons_zero, List.set_cons_succ]
        refine wpAnyH_take (i := 3) (v := ?_) rfl (by kernel_rfl) (by kernel_rfl) (by kernel_rfl) (fun _ _ _ h => h) (Yields.yieldsIf (Or.inl ⟨by rfl, ?_⟩)) hHeld ?_
        rotate_left
        · intro W
          go_simp
          try with_reducible rfl
        simp only [List.getElem_toArray, List.getElem_cons_succ, List.getElem_cons_zero, Act.put, List.setIfInBounds_toArray, List.set_cons_zero, List.set_cons_succ]
        refine wpAnyH_take (i := 4) (v := ?_) rfl (by kernel_rfl) (by kernel_rfl) (by kernel_rfl) (fun _ _ _ h => h) (Yields.yieldsIf (Or.inl ⟨by rfl, ?_⟩)) hHeld ?_
        rotate_left
        · intro W
          go_simp
          try with_reducible rfl
        simp only [List.getElem_toArray, List.getElem_cons_succ, List.getElem_cons_zero, Act.put, List.setIfInBounds_toArray, List.set_cons_zero, List.set_cons_succ]
        refine wpAnyH_take (i := 5) (v := ?_) rfl (by kernel_rfl) (by kernel_rfl) (by kernel_rfl) (fun _ _ _ h => h) (Or.inl ⟨by rfl, ?_⟩) hHeld ?_
        rotate_left
        · intro W hW
          have hcl := (cell_ext (h := hW) q4)
          go_simp
          try with_reducible rfl
        simp only [List.getElem_toArray, List.getElem_cons_succ, List.getElem_cons_zero, Act.put, List.setIfInBounds_toArray, List.set_cons_zero, List.set_cons_succ]
        refine wpAnyH_take (i := 6) (v := ?_) rfl (by kernel_rfl) (by kernel_rfl) (by kernel_rfl) (fun _ _ _ h => h) (Yields.yieldsIf (Or.inl ⟨by rfl, ?_⟩)) hHeld ?_
        rotate_left
        · intro W
          go_simp
          try with_reducible rfl
        simp only [List.getElem_toArray, List.getElem_cons_succ, List.getElem_cons_zero, Act.put, List.setIfInBounds_toArray, List.set_cons_zero, List.set_cons_succ]
        refine wpAnyH_take (i := 7) (v := ?_) rfl (by kernel_rfl) (by kernel_rfl) (by kernel_rfl) (fun _ _ _ h => h) (Yields.yieldsIf (Or.inl ⟨by rfl, ?_⟩)) hHeld ?_
        rotate_left
        · intro W
          go_simp
          try with_reducible rfl
        simp only [List.getElem_toArray, List.getElem_cons_succ, List.getElem_cons_zero, Act.put, List.setIfInBounds_toArray, List.set_cons_zero, List.set_cons_succ]
        refine wpAnyH_done (by kernel_rfl) ?_ _
        clear hHeld
        obtain ⟨wv, hwv⟩ : ∃ wv, w2.drew = wv := ⟨_, rfl⟩
        have HPv : Hid (PeerAt 114 wv B nm wd tr sn qid 0 ms) := by unfold Hid; rw [← hwv]; exact HP2.out.ext
        have HBv : Hid (But w wv B) := by unfold Hid; rw [← hwv]; exact But.of (w1 := w2.drew)
        rw [hwv]
        clear hwv q5 q3 q4 q1
        have q5 := HPv.out.p5
        have f5 := HPv.out.f 5
        have h5 := HPv.out.s5 2
        cases b
        · skip
          have p6 := h5.p6
          have f6 := h5.f 6
          clear h5
          go_wp2_with fail
          go_ret2
          exact ⟨(HBv.out.set 5 _).set 6 _, by rw [HF.out]; exact (HPv.out.s5 2).s6 mb, by rw [HF.out]; rfl⟩
        · skip
          have r5 := h5.p5
          have g5 := h5.f 5
          have h6 := h5.s5 1
          have p6 := h6.p6
          have f6 := h6.f 6
          clear h5 h6
          go_wp2_with fail
          go_ret2
          exact ⟨((HBv.out.set 5 _).set 5 _).set 6 _, by rw [HF.out]; exact ((HPv.out.s5 2).s5 1).s6 mb, by rw [HF.out]; rfl⟩
      · have h4' : (qid == id) = false := by simpa using h4
        have h4'' : (qid != id) = true := by simpa using h4
        have HF : Hid (ptF qid ((b, m), 0) sn id 0 ms = ((false, 1), 0, ms)) := by unfold Hid ptF; rw [if_neg (by simp), if_neg (by simp [h3]), if_pos h4]
        clear h3 h4
        go_enter Try.func73, Try.ntmps73
        go_upto_region 1 with fail
        obtain ⟨wb, hwb⟩ : ∃ wb, w.alloc (.cells #[.int .i64 code, .int .i64 qid, .slice A n c] 43) = wb := ⟨_, rfl⟩
        have HQ : Hid (wb.heap[w.heap.size]? = some (.cells #[.int .i64 code, .int .i64 qid, .slice A n c] 43 (0, 0))) := by unfold Hid; rw [← hwb]; exact at_new w _
        have Sb : Step wb w := ⟨by rw [← hwb]; exact Ext.out⟩
        rw [hwb]
        clear hwb
        have p0 : wb.cell? ⟨w.heap.size, 0, none⟩ = some (.int .i64 code) := at_cell HQ.out 0
        have p1 : wb.cell? ⟨w.heap.size, 1, none⟩ = some (.int .i64 qid) := at_cell HQ.out 1
        have p2 : wb.cell? ⟨w.heap.size, 2, none⟩ = some (.slice A n c) := at_cell HQ.out 2
        go_wp2_with fail
        refine (rreadAns_any code qid A n c xs Hn.out hn' hnc HB.out _ (by exact HX.out.ext)).mono ?_
        rintro e w2 ⟨he, hb2⟩
        unfold RATells at he
        rw [HRA.out] at he
        subst he
        have S2 : Step w2 wb := ⟨hb2⟩
        have HX2 : Hid (Ext w w2) := (inferInstance : Ext w w2)
        have HP2 := Lib.hid (HP.out.ext (w1 := w2))
        have HQ2 : Hid (w2.heap[w.heap.size]? = some (.cells #[.int .i64 code, .int .i64 qid, .slice A n c] 43 (0, 0))) := at_ext HQ.out
        obtain ⟨mb, hmb⟩ : ∃ mb, strOfNums m = mb := ⟨_, rfl⟩
        have HMB := Lib.hid hmb
        simp only [hmb]
        clear hb2 p0 p1 p2 hmb
        have q5 := HP2.out.p5
        have q3 := HP2.out.p3
        have q4 := HP2.out.p4
        have q1 : w2.cell? ⟨w.heap.size, 1, none⟩ = some (.int .i64 qid) := at_cell HQ2.out 1
        go_upto_region 6 with fail
        refine wp_region_held_drew (S := fun W => Ext w2 W) (by kernel_rfl) (by exact inferInstance) (fun hHeld => ?_)
        refine wpAnyH_take (i := 0) (v := ?_) rfl (by kernel_rfl) (by kernel_rfl) (by kernel_rfl) (fun _ _ _ h => h) (Yields.yieldsIf (Or.inl ⟨by rfl, ?_⟩)) hHeld ?_
        rotate_left
        · intro W
          go_simp
          try with_reducible rfl
        simp only [List.getElem_toArray, List.getElem_cons_succ, List.getElem_cons_zero, Act.put, List.setIfInBounds_toArray, List.set_cons_zero, List.set_cons_succ]
        refine wpAnyH_take (i := 1) (v := ?_) rfl (by kernel_rfl) (by kernel_rfl) (by kernel_rfl) (fun _ _ _ h => h) (Or.inl ⟨by rfl, ?_⟩) hHeld ?_
        rotate_left
        · intro W hW
          have hcl := (cell_ext (h := hW) q1)
          go_simp
          try with_reducible rfl
        simp only [List.getElem_toArray, List.getElem_cons_succ, List.getElem_cons_zero, Act.put, List.setIfInBounds_toArray, List.set_cons_zero, List.set_cons_succ]
        refine wpAnyH_take (i := 2) (v := ?_) rfl (by kernel_rfl) (by kernel_rfl) (by kernel_rfl) (fun _ _ _ h => h) (Yields.yieldsIf (Or.inl ⟨by rfl, ?_⟩)) hHeld ?_
        rotate_left
        · intro W
          go_simp
          try with_reducible rfl
        simp only [List.getElem_toArray, List.getElem_cons_succ, List.getElem_cons_zero, Act.put, List.setIfInBounds_toArray, List.set_cons_zero, List.set_cons_succ]
        refine wpAnyH_take (i := 3) (v := ?_) rfl (by kernel_rfl) (by kernel_rfl) (by kernel_rfl) (fun _ _ _ h => h) (Yields.yieldsIf (Or.inl ⟨by rfl, ?_⟩)) hHeld ?_
        rotate_left
        · intro W
          go_simp
          try with_reducible rfl
        simp only [List.getElem_toArray, List.getElem_cons_succ, List.getElem_cons_zero, Act.put, List.setIfInBounds_toArray, List.set_cons_zero, List.set_cons_succ]
        refine wpAnyH_take (i := 4) (v := ?_) rfl (by kernel_rfl) (by kernel_rfl) (by kernel_rfl) (fun _ _ _ h => h) (Yields.yieldsIf (Or.inl ⟨by rfl, ?_⟩)) hHeld ?_
        rotate_left
        · intro W
          go_simp
          try with_reducible rfl
        simp only [List.getElem_toArray, List.getElem_cons_succ, List.getElem_cons_zero, Act.put, List.setIfInBounds_toArray, List.set_cons_zero, List.set_cons_succ]
        refine wpAnyH_take (i := 5) (v := ?_) rfl (by kernel_rfl) (by kernel_rfl) (by kernel_rfl) (fun _ _ _ h => h) (Or.inl ⟨by rfl, ?_⟩) hHeld ?_
        rotate_left
        · intro W hW
          have hcl := (cell_ext (h := hW) q4)
          go_simp
          try with_reducible rfl
        simp only [List.getElem_toArray, List.getElem_cons_succ, List.getElem_cons_zero, Act.put, List.setIfInBounds_toArray, List.set_cons_zero, List.set_cons_succ]
        refine wpAnyH_take (i := 6) (v := ?_) rfl (by kernel_rfl) (by kernel_rfl) (by kernel_rfl) (fun _ _ _ h => h) (Yields.yieldsIf (Or.inl ⟨by rfl, ?_⟩)) hHeld ?_
        rotate_left
        · intro W
          go_simp
          try with_reducible rfl
        simp only [List.getElem_toArray, List.getElem_cons_succ, List.getElem_cons_zero, Act.put, List.setIfInBounds_toArray, List.set_cons_zero, List.set_cons_succ]
        refine wpAnyH_take (i := 7) (v := ?_) rfl (by kernel_rfl) (by kernel_rfl) (by kernel_rfl) (fun _ _ _ h => h) (Yields.yieldsIf (Or.inl ⟨by rfl, ?_⟩)) hHeld ?_
        rotate_left
        · intro W
          go_simp
          try with_reducible rfl
        simp only [List.getElem_toArray, List.getElem_cons_succ, List.getElem_cons_zero, Act.put, List.setIfInBounds_toArray, List.set_cons_zero, List.set_cons_succ]
        refine wpAnyH_done (by kernel_rfl) ?_ _
        clear hHeld
        obtain ⟨wv, hwv⟩ : ∃ wv, w2.drew = wv := ⟨_, rfl⟩
        have HPv : Hid (PeerAt 114 wv B nm wd tr sn id 0 ms) := by unfold Hid; rw [← hwv]; exact HP2.out.ext
        have HBv : Hid (But w wv B) := by unfold Hid; rw [← hwv]; exact But.of (w1 := w2.drew)
        rw [hwv]
        clear hwv q5 q3 q4 q1
        go_wp2_with fail
        go_ret2
        exact ⟨HBv.out, by rw [HF.out]; exact HPv.out, by rw [HF.out]; rfl⟩
    · have h2' : (st != 0) = true := by simpa using h2
      have HF : Hid (ptF qid ((b, m), 0) sn id st ms = ((false, 9), st, ms)) := by unfold Hid ptF; rw [if_neg (by simp), if_pos (.inl h2)]
      clear h2
      go_enter Try.func73, Try.ntmps73
      go_upto_region 1 with fail
      obtain ⟨wb, hwb⟩ : ∃ wb, w.alloc (.cells #[.int .i64 code, .int .i64 qid, .slice A n c] 43) = wb := ⟨_, rfl⟩
      have HQ : Hid (wb.heap[w.heap.size]? = some (.cells #[.int .i64 code, .int .i64 qid, .slice A n c] 43 (0, 0))) := by unfold Hid; rw [← hwb]; exact at_new w _
      have Sb : Step wb w := ⟨by rw [← hwb]; exact Ext.out⟩
      rw [hwb]
      clear hwb
      have p0 : wb.cell? ⟨w.heap.size, 0, none⟩ = some (.int .i64 code) := at_cell HQ.out 0
      have p1 : wb.cell? ⟨w.heap.size, 1, none⟩ = some (.int .i64 qid) := at_cell HQ.out 1
      have p2 : wb.cell? ⟨w.heap.size, 2, none⟩ = some (.slice A n c) := at_cell HQ.out 2
      go_wp2_with fail
      refine (rreadAns_any code qid A n c xs Hn.out hn' hnc HB.out _ (by exact HX.out.ext)).mono ?_
      rintro e w2 ⟨he, hb2⟩
      unfold RATells at he
      rw [HRA.out] at he
      subst he
      have S2 : Step w2 wb := ⟨hb2⟩
      have HX2 : Hid (Ext w w2) := (inferInstance : Ext w w2)
      have HP2 := Lib.hid (HP.out.ext (w1 := w2))
      have HQ2 : Hid (w2.heap[w.heap.size]? = some (.cells #[.int .i64 code, .int .i64 qid, .slice A n c] 43 (0, 0))) := at_ext HQ.out
      obtain ⟨mb, hmb⟩ : ∃ mb, strOfNums m = mb := ⟨_, rfl⟩
      have HMB := Lib.hid hmb
      simp only [hmb]
      clear hb2 p0 p1 p2 hmb
      have q5 := HP2.out.p5
      go_wp2_with fail
      go_ret2
      exact ⟨But.of, by rw [HF.out]; exact HP2.out, by rw [HF.out]; rfl⟩
  · have h1' : (r != 0) = true := by simpa using h1
    have HF : Hid (ptF qid ((b, m), r) sn id st ms = ((false, r), st, ms)) := by unfold Hid ptF; rw [if_pos h1]
    clear h1
    go_enter Try.func73, Try.ntmps73
    go_upto_region 1 with fail
    obtain ⟨wb, hwb⟩ : ∃ wb, w.alloc (.cells #[.int .i64 code, .int .i64 qid, .slice A n c] 43) = wb := ⟨_, rfl⟩
    have HQ : Hid (wb.heap[w.heap.size]? = some (.cells #[.int .i64 code, .int .i64 qid, .slice A n c] 43 (0, 0))) := by unfold Hid; rw [← hwb]; exact at_new w _
    have Sb : Step wb w := ⟨by rw [← hwb]; exact Ext.out⟩
    rw [hwb]
    clear hwb
    have p0 : wb.cell? ⟨w.heap.size, 0, none⟩ = some (.int .i64 code) := at_cell HQ.out 0
    have p1 : wb.cell? ⟨w.heap.size, 1, none⟩ = some (.int .i64 qid) := at_cell HQ.out 1
    have p2 : wb.cell? ⟨w.heap.size, 2, none⟩ = some (.slice A n c) := at_cell HQ.out 2
    go_wp2_with fail
    refine (rreadAns_any code qid A n c xs Hn.out hn' hnc HB.out _ (by exact HX.out.ext)).mono ?_
    rintro e w2 ⟨he, hb2⟩
    unfold RATells at he
    rw [HRA.out] at he
    subst he
    have S2 : Step w2 wb := ⟨hb2⟩
    have HX2 : Hid (Ext w w2) := (inferInstance : Ext w w2)
    have HP2 := Lib.hid (HP.out.ext (w1 := w2))
    have HQ2 : Hid (w2.heap[w.heap.size]? = some (.cells #[.int .i64 code, .int .i64 qid, .slice A n c] 43 (0, 0))) := at_ext HQ.out
    obtain ⟨mb, hmb⟩ : ∃ mb, strOfNums m = mb := ⟨_, rfl⟩
    have HMB := Lib.hid hmb
    simp only [hmb]
    clear hb2 p0 p1 p2 hmb
    go_wp2_with fail
    go_ret2
    exact ⟨But.of, by rw [HF.out]; exact HP2.out, by rw [HF.out]; rfl⟩
end Go.Proofs.Ytodibldfolognaa
