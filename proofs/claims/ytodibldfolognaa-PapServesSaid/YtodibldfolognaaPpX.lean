/-
  Peers of pap and of its reference: Send, Take. Conditions: sizes; the numbers are bytes.
-/
import Derived.Test.YtodibldfolognaaPpW
namespace Go.Proofs.Ytodibldfolognaa
open Go.RowKit
set_option linter.unusedVariables false
set_option linter.unusedSimpArgs false


def sendS (tr sn id st : Int) : Int × Int × Int := if st ≠ 0 then (sn, id, st) else if tr ≤ sn then (sn, id, 3) else (sn + 1, (id + 1) % 256, 0)
def sendR (nm wd : List Int) (tr sn id st : Int) : ((Int × Int) × List Int) × Bool × Int := if st ≠ 0 then (((0, 0), []), false, 9) else if tr ≤ sn then (((0, 0), []), false, 0)
  else (((reqF ((id + 1) % 256) nm wd).1, (reqF ((id + 1) % 256) nm wd).2.1), true, 0)
def SendTells (ty : TypeId) (B : Nat) (nm wd ms : ByteArray) (tr : Int) (s : Int × Int × Int) (r : ((Int × Int) × List Int) × Bool × Int) (w : World) (e : Ending) (w' : World) : Prop :=
  But w w' B ∧ PeerAt ty w' B nm wd tr s.1 s.2.1 s.2.2 ms ∧ ∃ A c, e = .returned (.tuple #[.agg #[.int .i64 r.1.1.1, .int .i64 r.1.1.2, .slice A r.1.2.length c], .bool r.2.1, .int .i64 r.2.2]) ∧
    w'.ownsRow w.heap.size 5 1 (.slice A r.1.2.length c) r.1.2.length (nums .u8 r.1.2)
section
variable {w w1 w2 : World} {B g : Nat} {ty : TypeId} {nm wd ms : ByteArray} {tr sn id st : Int}
theorem PeerAt.setRow (k : PeerAt ty w1 B nm wd tr sn id st ms) (hg : B < g) (cs : Array Value) : PeerAt ty (w1.setRow g cs) B nm wd tr sn id st ms := (setRow_other _ _ _ _ (by omega)).trans k
theorem PeerAt.but {C : Nat} (k : PeerAt ty w B nm wd tr sn id st ms) (h : But w w1 C) (hne : B ≠ C) : PeerAt ty w1 B nm wd tr sn id st ms := h.at hne k
end
set_option maxRecDepth 100000 in
set_option maxHeartbeats 8000000 in
theorem psend_any (B : Nat) (nm wd ms : ByteArray) (tr sn id st : Int) (hnm : nm.size ≤ 140737488355328) (hwd : wd.size ≤ 140737488355328) (hs0 : 0 ≤ sn) (hs1 : sn ≤ 1000) (hi0 : 0 ≤ id) (hi1 : id ≤ 255) (w : World) (h : PeerAt 154 w B nm wd tr sn id st ms) :
    Calls Try.prog 68 #[.pointer (some ⟨B, 0, none⟩)] w (SendTells 154 B nm wd ms tr (sendS tr sn id st) (sendR (strB nm) (strB wd) tr sn id st) w) := by
  have HP := Lib.hid h
  have HLT : Hid (B < w.heap.size) := at_lt h
  clear h
  have HZ0 : Hid ((w.alloc zPk).heap[w.heap.size]? = some zPk) := at_new w _
  by_cases h1 : st = 0
  · subst h1
    by_cases h2 : tr ≤ sn
    · have HS : Hid (sendS tr sn id 0 = (sn, id, 3)) := by unfold Hid sendS; rw [if_neg (by simp), if_pos h2]
      have HR : Hid (sendR (strB nm) (strB wd) tr sn id 0 = (((0, 0), []), false, 0)) := by unfold Hid sendR; rw [if_neg (by simp), if_pos h2]
      go_enter Try.func68, Try.ntmps68
      go_upto_region 1 with fail
      obtain ⟨wb, hwb⟩ : ∃ wb, w.alloc zPk = wb := ⟨_, rfl⟩
      rw [hwb] at HZ0 ⊢
      have HPb : Hid (PeerAt 154 wb B nm wd tr sn id 0 ms) := by unfold Hid; rw [← hwb]; exact HP.out.ext
      have Sb : Step wb w := ⟨by rw [← hwb]; exact Ext.out⟩
      clear hwb
      have p5 := HPb.out.p5
      have p3 := HPb.out.p3
      have p2 := HPb.out.p2
      go_upto_region 5 with fail
      refine wp_region_held_drew (S := fun W => Ext wb W) (by kernel_rfl) (by exact inferInstance) (fun hHeld => ?_)
      refine wpAnyH_take (i := 0) (v := ?_) rfl (by kernel_rfl) (by kernel_rfl) (by kernel_rfl) (fun _ _ _ h => h) (Yields.yieldsIf (Or.inl ⟨by rfl, ?_⟩)) hHeld ?_
      rotate_left
      · intro W
        go_simp
        try with_reducible rfl
      simp only [List.getElem_toArray, List.getElem_cons_succ, List.getElem_cons_zero, Act.put, List.setIfInBounds_toArray, List.set_cons_zero, List.set_cons_succ]
      refine wpAnyH_take (i := 1) (v := ?_) rfl (by kernel_rfl) (by kernel_rfl) (by kernel_rfl) (fun _ _ _ h => h) (Yields.yieldsIf (Or.inl ⟨by rfl, ?_⟩)) hHeld ?_
      rotate_left
      · intro W
        go_simp
        try with_reducible rfl
      simp only [List.getElem_toArray, List.getElem_cons_succ, List.getElem_cons_zero, Act.put, List.setIfInBounds_toArray, List.set_cons_zero, List.set_cons_succ]
      refine wpAnyH_take (i := 2) (v := ?_) rfl (by kernel_rfl) (by kernel_rfl) (by kernel_rfl) (fun _ _ _ h => h) (Yields.yieldsIf (Or.inl ⟨by rfl, ?_⟩)) hHeld ?_
      rotate_left
      · intro W
        go_simp
        try with_reducible rfl
      simp only [List.getElem_toArray, List.getElem_cons_succ, List.getElem_cons_zero, Act.put, List.setIfInBounds_toArray, List.set_cons_zero, List.set_cons_succ]
      refine wpAnyH_take (i := 3) (v := ?_) rfl (by kernel_rfl) (by kernel_rfl) (by kernel_rfl) (fun _ _ _ h => h) (Or.inl ⟨by rfl, ?_⟩) hHeld ?_
      rotate_left
      · intro W hW
        have hcl := (cell_ext (h := hW) p3)
        go_simp
        try with_reducible rfl
      simp only [List.getElem_toArray, List.getElem_cons_succ, List.getElem_cons_zero, Act.put, List.setIfInBounds_toArray, List.set_cons_zero, List.set_cons_succ]
      refine wpAnyH_take (i := 4) (v := ?_) rfl (by kernel_rfl) (by kernel_rfl) (by kernel_rfl) (fun _ _ _ h => h) (Yields.yieldsIf (Or.inl ⟨by rfl, ?_⟩)) hHeld ?_
      rotate_left
      · intro W
        go_simp
        try with_reducible rfl
      simp only [List.getElem_toArray, List.getElem_cons_succ, List.getElem_cons_zero, Act.put, List.setIfInBounds_toArray, List.set_cons_zero, List.set_cons_succ]
      refine wpAnyH_take (i := 5) (v := ?_) rfl (by kernel_rfl) (by kernel_rfl) (by kernel_rfl) (fun _ _ _ h => h) (Yields.yieldsIf (Or.inl ⟨by rfl, ?_⟩)) hHeld ?_
      rotate_left
      · intro W
        go_simp
        try with_reducible rfl
      simp only [List.getElem_toArray, List.getElem_cons_succ, List.getElem_cons_zero, Act.put, List.setIfInBounds_toArray, List.set_cons_zero, List.set_cons_succ]
      refine wpAnyH_take (i := 6) (v := ?_) rfl (by kernel_rfl) (by kernel_rfl) (by kernel_rfl) (fun _ _ _ h => h) (Yields.yieldsIf (Or.inl ⟨by rfl, ?_⟩)) hHeld ?_
      rotate_left
      · intro W
        go_simp
        try with_reducible rfl
      simp only [List.getElem_toArray, List.getElem_cons_succ, List.getElem_cons_zero, Act.put, List.setIfInBounds_toArray, List.set_cons_zero, List.set_cons_succ]
      refine wpAnyH_take (i := 7) (v := ?_) rfl (by kernel_rfl) (by kernel_rfl) (by kernel_rfl) (fun _ _ _ h => h) (Or.inl ⟨by rfl, ?_⟩) hHeld ?_
      rotate_left
      · intro W hW
        have hcl := (cell_ext (h := hW) p2)
        go_simp
        try with_reducible rfl
      simp only [List.getElem_toArray, List.getElem_cons_succ, List.getElem_cons_zero, Act.put, List.setIfInBounds_toArray, List.set_cons_zero, List.set_cons_succ]
      refine wpAnyH_take (i := 8) (v := ?_) rfl (by kernel_rfl) (by kernel_rfl) (by kernel_rfl) (fun _ _ _ h => h) (Yields.yieldsIf (Or.inl ⟨by rfl, ?_⟩)) hHeld ?_
      rotate_left
      · intro W
        go_simp
        try with_reducible rfl
      simp only [List.getElem_toArray, List.getElem_cons_succ, List.getElem_cons_zero, Act.put, List.setIfInBounds_toArray, List.set_cons_zero, List.set_cons_succ]
      refine wpAnyH_take (i := 9) (v := ?_) rfl (by kernel_rfl) (by kernel_rfl) (by kernel_rfl) (fun _ _ _ h => h) (Yields.yieldsIf (Or.inl ⟨by rfl, ?_⟩)) hHeld ?_
      rotate_left
      · intro W
        go_simp
        try with_reducible rfl
      simp only [List.getElem_toArray, List.getElem_cons_succ, List.getElem_cons_zero, Act.put, List.setIfInBounds_toArray, List.set_cons_zero, List.set_cons_succ]
      refine wpAnyH_done (by kernel_rfl) ?_ _
      clear hHeld p5
      have h5 := HPb.out.ext (w1 := wb.drew)
      have p5 := h5.p5
      have f5 := h5.f 5
      have HP6 := Lib.hid (h5.s5 3)
      have HZ : Hid ((wb.drew.setCell ⟨B, 5, none⟩ (.int .i64 3)).heap[w.heap.size]? = some zPk) := (Below.heap_setCell _ _ _ _ (by have := HLT.out; show w.heap.size ≠ B; omega)).trans (at_ext (w' := wb.drew) HZ0.out)
      have HB6 : Hid (But w (wb.drew.setCell ⟨B, 5, none⟩ (.int .i64 3)) B) := (But.of (w1 := wb.drew)).set 5 _
      clear h5
      go_wp2_with
        (refine wpList_store_row rfl 43 (.tmp 2) (.tmp 31) rfl w.heap.size #[.int .i64 0, .int .i64 0, .slice none 0 0] rfl rfl 43 #[.int .i64 0, .int .i64 0, .slice none 0 0] HZ.out (by kernel_rfl) rfl (by simp [Value.oneCell']) ?_)
      refine bodyPost_ret (results_cell_row3 Try.results68 _ _ w.heap.size 43 #[.int .i64 0, .int .i64 0, .slice none 0 0] (0, 0) _ (.bool false) (.int .i64 0) rfl rfl rfl (setRow_heap _ _ _ _ _ _ HZ.out) Try.underlying43 rfl (by kernel_rfl)) rfl ?_
      refine ⟨HB6.out.setRow (Nat.le_refl _) _, ?_, none, 0, ?_, ?_⟩
      · rw [HS.out]; exact HP6.out.setRow HLT.out _
      · rw [HR.out]; rfl
      · rw [HR.out]; exact own_nil _ _ _ _
    · obtain ⟨i2, hi2⟩ : ∃ i2, (id + 1) % 256 = i2 := ⟨_, rfl⟩
      have HS : Hid (sendS tr sn id 0 = (sn + 1, i2, 0)) := by unfold Hid sendS; rw [if_neg (by simp), if_neg h2, hi2]
      have HR : Hid (sendR (strB nm) (strB wd) tr sn id 0 = (((reqF i2 (strB nm) (strB wd)).1, (reqF i2 (strB nm) (strB wd)).2.1), true, 0)) := by unfold Hid sendR; rw [if_neg (by simp), if_neg h2, hi2]
      have HI2 := Lib.hid hi2
      have h2' : sn < tr := by omega
      clear hi2
      go_enter Try.func68, Try.ntmps68
      go_upto_region 1 with fail
      obtain ⟨wb, hwb⟩ : ∃ wb, w.alloc zPk = wb := ⟨_, rfl⟩
      rw [hwb] at HZ0 ⊢
      have HPb : Hid (PeerAt 154 wb B nm wd tr sn id 0 ms) := by unfold Hid; rw [← hwb]; exact HP.out.ext
      have Sb : Step wb w := ⟨by rw [← hwb]; exact Ext.out⟩
      clear hwb
      have p5 := HPb.out.p5
      have p3 := HPb.out.p3
      have p2 := HPb.out.p2
      go_upto_region 5 with fail
      refine wp_region_held_drew (S := fun W => Ext wb W) (by kernel_rfl) (by exact inferInstance) (fun hHeld => ?_)
      refine wpAnyH_take (i := 0) (v := ?_) rfl (by kernel_rfl) (by kernel_rfl) (by kernel_rfl) (fun _ _ _ h => h) (Yields.yieldsIf (Or.inl ⟨by rfl, ?_⟩)) hHeld ?_
      rotate_left
      · intro W
        go_simp
        try with_reducible rfl
      simp only [List.getElem_toArray, List.getElem_cons_succ, List.getElem_cons_zero, Act.put, List.setIfInBounds_toArray, List.set_cons_zero, List.set_cons_succ]
      refine wpAnyH_take (i := 1) (v := ?_) rfl (by kernel_rfl) (by kernel_rfl) (by kernel_rfl) (fun _ _ _ h => h) (Yields.yieldsIf (Or.inl ⟨by rfl, ?_⟩)) hHeld ?_
      rotate_left
      · intro W
        go_simp
        try with_reducible rfl
      simp only [List.getElem_toArray, List.getElem_cons_succ, List.getElem_cons_zero, Act.put, List.setIfInBounds_toArray, List.set_cons_zero, List.set_cons_succ]
      refine wpAnyH_take (i := 2) (v := ?_) rfl (by kernel_rfl) (by kernel_rfl) (by kernel_rfl) (fun _ _ _ h => h) (Yields.yieldsIf (Or.inl ⟨by rfl, ?_⟩)) hHeld ?_
      rotate_left
      · intro W
        go_simp
        try with_reducible rfl
      simp only [List.getElem_toArray, List.getElem_cons_succ, List.getElem_cons_zero, Act.put, List.setIfInBounds_toArray, List.set_cons_zero, List.set_cons_succ]
      refine wpAnyH_take (i := 3) (v := ?_) rfl (by kernel_rfl) (by kernel_rfl) (by kernel_rfl) (fun _ _ _ h => h) (Or.inl ⟨by rfl, ?_⟩) hHeld ?_
      rotate_left
      · intro W hW
        have hcl := (cell_ext (h := hW) p3)
        go_simp
        try with_reducible rfl
      simp only [List.getElem_toArray, List.getElem_cons_succ, List.getElem_cons_zero, Act.put, List.setIfInBounds_toArray, List.set_cons_zero, List.set_cons_succ]
      refine wpAnyH_take (i := 4) (v := ?_) rfl (by kernel_rfl) (by kernel_rfl) (by kernel_rfl) (fun _ _ _ h => h) (Yields.yieldsIf (Or.inl ⟨by rfl, ?_⟩)) hHeld ?_
      rotate_left
      · intro W
        go_simp
        try with_reducible rfl
      simp only [List.getElem_toArray, List.getElem_cons_succ, List.getElem_cons_zero, Act.put, List.setIfInBounds_toArray, List.set_cons_zero, List.set_cons_succ]
      refine wpAnyH_take (i := 5) (v := ?_) rfl (by kernel_rfl) (by kernel_rfl) (by kernel_rfl) (fun _ _ _ h => h) (Yields.yieldsIf (Or.inl ⟨by rfl, ?_⟩)) hHeld ?_
      rotate_left
      · intro W
        go_simp
        try with_reducible rfl
      simp only [List.getElem_toArray, List.getElem_cons_succ, List.getElem_cons_zero, Act.put, List.setIfInBounds_toArray, List.set_cons_zero, List.set_cons_succ]
      refine wpAnyH_take (i := 6) (v := ?_) rfl (by kernel_rfl) (by kernel_rfl) (by kernel_rfl) (fun _ _ _ h => h) (Yields.yieldsIf (Or.inl ⟨by rfl, ?_⟩)) hHeld ?_
      rotate_left
      · intro W
        go_simp
        try with_reducible rfl
      simp only [List.getElem_toArray, List.getElem_cons_succ, List.getElem_cons_zero, Act.put, List.setIfInBounds_toArray, List.set_cons_zero, List.set_cons_succ]
      refine wpAnyH_take (i := 7) (v := ?_) rfl (by kernel_rfl) (by kernel_rfl) (by kernel_rfl) (fun _ _ _ h => h) (Or.inl ⟨by rfl, ?_⟩) hHeld ?_
      rotate_left
      · intro W hW
        have hcl := (cell_ext (h := hW) p2)
        go_simp
        try with_reducible rfl
      simp only [List.getElem_toArray, List.getElem_cons_succ, List.getElem_cons_zero, Act.put, List.setIfInBounds_toArray, List.set_cons_zero, List.set_cons_succ]
      refine wpAnyH_take (i := 8) (v := ?_) rfl (by kernel_rfl) (by kernel_rfl) (by kernel_rfl) (fun _ _ _ h => h) (Yields.yieldsIf (Or.inl ⟨by rfl, ?_⟩)) hHeld ?_
      rotate_left
      · intro W
        go_simp
        try with_reducible rfl
      simp only [List.getElem_toArray, List.getElem_cons_succ, List.getElem_cons_zero, Act.put, List.setIfInBounds_toArray, List.set_cons_zero, List.set_cons_succ]
      refine wpAnyH_take (i := 9) (v := ?_) rfl (by kernel_rfl) (by kernel_rfl) (by kernel_rfl) (fun _ _ _ h => h) (Yields.yieldsIf (Or.inl ⟨by rfl, ?_⟩)) hHeld ?_
      rotate_left
      · intro W
        go_simp
        try with_reducible rfl
      simp only [List.getElem_toArray, List.getElem_cons_succ, List.getElem_cons_zero, Act.put, List.setIfInBounds_toArray, List.set_cons_zero, List.set_cons_succ]
      refine wpAnyH_done (by kernel_rfl) ?_ _
      clear hHeld p5
      obtain ⟨wv, hwv⟩ : ∃ wv, wb.drew = wv := ⟨_, rfl⟩
      rw [hwv]
      have Sv : Step wv wb := ⟨by rw [← hwv]; exact Ext.out⟩
      clear hwv p3 p2
      have h5 := HPb.out.ext (w1 := wv)
      have p3 := h5.p3
      have f3 := h5.f 3
      have h6 := h5.s3 (sn + 1)
      have p4 := h6.p4
      have f4 := h6.f 4
      have HP7 := Lib.hid (h6.s4 ((id + 1) % 256))
      have HB7 : Hid (But w ((wv.setCell ⟨B, 3, none⟩ (.int .i64 (sn + 1))).setCell ⟨B, 4, none⟩ (.int .i64 ((id + 1) % 256))) B) := ((But.of (w1 := wv)).set 3 _).set 4 _
      have HZ7 : Hid (((wv.setCell ⟨B, 3, none⟩ (.int .i64 (sn + 1))).setCell ⟨B, 4, none⟩ (.int .i64 ((id + 1) % 256))).heap[w.heap.size]? = some zPk) := (Below.heap_setCell _ _ _ _ (by have := HLT.out; show w.heap.size ≠ B; omega)).trans ((Below.heap_setCell _ _ _ _ (by have := HLT.out; show w.heap.size ≠ B; omega)).trans (at_ext (w' := wv) HZ0.out))
      clear h5 h6
      go_upto_region 10 with fail
      obtain ⟨y, hy⟩ : ∃ y, (wv.setCell ⟨B, 3, none⟩ (.int .i64 (sn + 1))).setCell ⟨B, 4, none⟩ (.int .i64 ((id + 1) % 256)) = y := ⟨_, rfl⟩
      have HPy : Hid (PeerAt 154 y B nm wd tr (sn + 1) i2 0 ms) := by unfold Hid; rw [← hy, ← HI2.out]; exact HP7.out
      have HBy : Hid (But w y B) := by unfold Hid; rw [← hy]; exact HB7.out
      have HZy : Hid (y.heap[w.heap.size]? = some zPk) := by unfold Hid; rw [← hy]; exact HZ7.out
      have Hy : Hid (w.heap.size ≤ y.heap.size) := HBy.out.size
      have HLy : Hid (w.heap.size < y.heap.size) := at_lt HZy.out
      rw [hy]
      clear hy p3 f3 p4 f4 HP7 HB7 HZ7
      have q0 := HPy.out.p0
      have q1 := HPy.out.p1
      have q4 := HPy.out.p4
      obtain ⟨⟨⟨ra, rb⟩, rd, re⟩, hrr⟩ : ∃ a, reqF i2 (strB nm) (strB wd) = a := ⟨_, rfl⟩
      have HRR := Lib.hid hrr
      clear hrr
      refine wp_region_held_drew (S := fun W => Ext y W) (by kernel_rfl) (by exact inferInstance) (fun hHeld => ?_)
      refine wpAnyH_take (i := 0) (v := ?_) rfl (by kernel_rfl) (by kernel_rfl) (by kernel_rfl) (fun _ _ _ h => h) (Yields.yieldsIf (Or.inl ⟨by rfl, ?_⟩)) hHeld ?_
      rotate_left
      · intro W
        go_simp
        try with_reducible rfl
      simp only [List.getElem_toArray, List.getElem_cons_succ, List.getElem_cons_zero, Act.put, List.setIfInBounds_toArray, List.set_cons_zero, List.set_cons_succ]
      refine wpAnyH_take (i := 1) (v := ?_) rfl (by kernel_rfl) (by kernel_rfl) (by kernel_rfl) (fun _ _ _ h => h) (Yields.yieldsIf (Or.inl ⟨by rfl, ?_⟩)) hHeld ?_
      rotate_left
      · intro W
        go_simp
        try with_reducible rfl
      simp only [List.getElem_toArray, List.getElem_cons_succ, List.getElem_cons_zero, Act.put, List.setIfInBounds_toArray, List.set_cons_zero, List.set_cons_succ]
      refine wpAnyH_take (i := 2) (v := ?_) rfl (by kernel_rfl) (by kernel_rfl) (by kernel_rfl) (fun _ _ _ h => h) (Yields.yieldsIf (Or.inl ⟨by rfl, ?_⟩)) hHeld ?_
      rotate_left
      · intro W
        go_simp
        try with_reducible rfl
      simp only [List.getElem_toArray, List.getElem_cons_succ, List.getElem_cons_zero, Act.put, List.setIfInBounds_toArray, List.set_cons_zero, List.set_cons_succ]
      refine wpAnyH_take (i := 3) (v := ?_) rfl (by kernel_rfl) (by kernel_rfl) (by kernel_rfl) (fun _ _ _ h => h) (Or.inl ⟨by rfl, ?_⟩) hHeld ?_
      rotate_left
      · intro W hW
        have hcl := (cell_ext (h := hW) q4)
        go_simp
        try with_reducible rfl
      simp only [List.getElem_toArray, List.getElem_cons_succ, List.getElem_cons_zero, Act.put, List.setIfInBounds_toArray, List.set_cons_zero, List.set_cons_succ]
      refine wpAnyH_take (i := 4) (v := ?_) rfl (by kernel_rfl) (by kernel_rfl) (by kernel_rfl) (fun _ _ _ h => h) (Yields.yieldsIf (Or.inl ⟨by rfl, ?_⟩)) hHeld ?_
      rotate_left
      · intro W
        go_simp
        try with_reducible rfl
      simp only [List.getElem_toArray, List.getElem_cons_succ, List.getElem_cons_zero, Act.put, List.setIfInBounds_toArray, List.set_cons_zero, List.set_cons_succ]
      refine wpAnyH_take (i := 5) (v := ?_) rfl (by kernel_rfl) (by kernel_rfl) (by kernel_rfl) (fun _ _ _ h => h) (Yields.yieldsIf (Or.inl ⟨by rfl, ?_⟩)) hHeld ?_
      rotate_left
      · intro W
        go_simp
        try with_reducible rfl
      simp only [List.getElem_toArray, List.getElem_cons_succ, List.getElem_cons_zero, Act.put, List.setIfInBounds_toArray, List.set_cons_zero, List.set_cons_succ]
      refine wpAnyH_take (i := 6) (v := ?_) rfl (by kernel_rfl) (by kernel_rfl) (by kernel_rfl) (fun _ _ _ h => h) (Yields.yieldsIf (Or.inl ⟨by rfl, ?_⟩)) hHeld ?_
      rotate_left
      · intro W
        go_simp
        try with_reducible rfl
      simp only [List.getElem_toArray, List.getElem_cons_succ, List.getElem_cons_zero, Act.put, List.setIfInBounds_toArray, List.set_cons_zero, List.set_cons_succ]
      refine wpAnyH_take (i := 7) (v := ?_) rfl (by kernel_rfl) (by kernel_rfl) (by kernel_rfl) (fun _ _ _ h => h) (Or.inl ⟨by rfl, ?_⟩) hHeld ?_
      rotate_left
      · intro W hW
        have hcl := (cell_ext (h := hW) q0)
        go_simp
        try with_reducible rfl
      simp only [List.getElem_toArray, List.getElem_cons_succ, List.getElem_cons_zero, Act.put, List.setIfInBounds_toArray, List.set_cons_zero, List.set_cons_succ]
      refine wpAnyH_take (i := 8) (v := ?_) rfl (by kernel_rfl) (by kernel_rfl) (by kernel_rfl) (fun _ _ _ h => h) (Yields.yieldsIf (Or.inl ⟨by rfl, ?_⟩)) hHeld ?_
      rotate_left
      · intro W
        go_simp
        try with_reducible rfl
      simp only [List.getElem_toArray, List.getElem_cons_succ, List.getElem_cons_zero, Act.put, List.setIfInBounds_toArray, List.set_cons_zero, List.set_cons_succ]
      refine wpAnyH_take (i := 9) (v := ?_) rfl (by kernel_rfl) (by kernel_rfl) (by kernel_rfl) (fun _ _ _ h => h) (Yields.yieldsIf (Or.inl ⟨by rfl, ?_⟩)) hHeld ?_
      rotate_left
      · intro W
        go_simp
        try with_reducible rfl
      simp only [List.getElem_toArray, List.getElem_cons_succ, List.getElem_cons_zero, Act.put, List.setIfInBounds_toArray, List.set_cons_zero, List.set_cons_succ]
      refine wpAnyH_take (i := 10) (v := ?_) rfl (by kernel_rfl) (by kernel_rfl) (by kernel_rfl) (fun _ _ _ h => h) (Yields.yieldsIf (Or.inl ⟨by rfl, ?_⟩)) hHeld ?_
      rotate_left
      · intro W
        go_simp
        try with_reducible rfl
      simp only [List.getElem_toArray, List.getElem_cons_succ, List.getElem_cons_zero, Act.put, List.setIfInBounds_toArray, List.set_cons_zero, List.set_cons_succ]
      refine wpAnyH_take (i := 11) (v := ?_) rfl (by kernel_rfl) (by kernel_rfl) (by kernel_rfl) (fun _ _ _ h => h) (Or.inl ⟨by rfl, ?_⟩) hHeld ?_
      rotate_left
      · intro W hW
        have hcl := (cell_ext (h := hW) q1)
        go_simp
        try with_reducible rfl
      simp only [List.getElem_toArray, List.getElem_cons_succ, List.getElem_cons_zero, Act.put, List.setIfInBounds_toArray, List.set_cons_zero, List.set_cons_succ]
      refine wpAnyH_ready (rs := [12, 16]) (by kernel_rfl) (by simp) ?_
      refine AllReadyH.cons rfl (fun K hK => ?_) (AllReadyH.cons rfl (fun K hK => ?_) AllReadyH.nil)
      · refine step_call_w (by rfl) Try.func58 (by kernel_rfl) (by kernel_rfl) #[.tmp 52, .tmp 56, .tmp 60] #[3, 9, 9] rfl #[.int .i64 i2, .string nm, .string wd] ?hv (request_any i2 nm wd hnm hwd _) ?_
        case hv => go_simp
        rintro e w3 ⟨A3, c3, rfl, ho3, hb3⟩
        refine ⟨_, rfl, ?_⟩
        rw [HRR.out] at ho3 ⊢
        simp only at ho3 ⊢
        have S3 : Step w3 y.drew := ⟨hb3⟩
        have X3 : Ext y w3 := inferInstance
        have HO3 := Lib.hid ho3
        clear hb3 ho3 hHeld
        refine hK.out _ _ (by exact inferInstance) (fun hHeld => ?_)
        clear hK K
        simp only [List.getElem_toArray, List.getElem_cons_succ, List.getElem_cons_zero, Act.put, List.setIfInBounds_toArray, List.set_cons_zero, List.set_cons_succ]
        refine wpAnyH_take (i := 13) (v := ?_) rfl (by kernel_rfl) (by kernel_rfl) (by kernel_rfl) (fun _ _ _ h => h) (Yields.yieldsIf (Or.inl ⟨by rfl, ?_⟩)) hHeld ?_
        rotate_left
        · intro W
          go_simp
          try with_reducible rfl
        simp only [List.getElem_toArray, List.getElem_cons_succ, List.getElem_cons_zero, Act.put, List.setIfInBounds_toArray, List.set_cons_zero, List.set_cons_succ]
        refine wpAnyH_take (i := 14) (v := ?_) rfl (by kernel_rfl) (by kernel_rfl) (by kernel_rfl) (fun _ _ _ h => h) (Yields.yieldsIf (Or.inl ⟨by rfl, ?_⟩)) hHeld ?_
        rotate_left
        · intro W
          go_simp
          try with_reducible rfl
        simp only [List.getElem_toArray, List.getElem_cons_succ, List.getElem_cons_zero, Act.put, List.setIfInBounds_toArray, List.set_cons_zero, List.set_cons_succ]
        refine wpAnyH_take (i := 15) (v := ?_) rfl (by kernel_rfl) (by kernel_rfl) (by kernel_rfl) (fun _ _ _ h => h) (Yields.yieldsIf (Or.inl ⟨by rfl, ?_⟩)) hHeld ?_
        rotate_left
        · intro W
          go_simp
          try with_reducible rfl
        simp only [List.getElem_toArray, List.getElem_cons_succ, List.getElem_cons_zero, Act.put, List.setIfInBounds_toArray, List.set_cons_zero, List.set_cons_succ]
        refine wpAnyH_ready (rs := [16]) (by kernel_rfl) (by simp) ?_
        refine AllReadyH.cons rfl (fun K hK => ?_) AllReadyH.nil
        rw [if_pos (by rfl)]
        unfold Oper.wp
        go_simp
        clear hHeld
        refine hK.out _ _ (by exact inferInstance) (fun hHeld => ?_)
        clear hK K
        try simp only [List.getElem_toArray, List.getElem_cons_succ, List.getElem_cons_zero, Act.put, List.setIfInBounds_toArray, List.set_cons_zero, List.set_cons_succ]
        refine wpAnyH_ready (rs := [17]) (by kernel_rfl) (by simp) ?_
        refine AllReadyH.cons rfl (fun K hK => ?_) AllReadyH.nil
        refine step_store_row (by rfl) 43 (.tmp 5) (.tmp 62) rfl w3.heap.size #[.int .i64 ra, .int .i64 rb, .slice A3 rd.length c3] rfl rfl 43 #[.int .i64 0, .int .i64 0, .slice none 0 0] (at_new w3 zPk) (by kernel_rfl) rfl (by simp [Value.oneCell']) ?_
        clear hHeld
        refine hK.out _ _ (Ext.setRow_ (inferInstance : Ext y (w3.alloc zPk)) X3.out.size _) (fun hHeld => ?_)
        clear hK K
        simp only [List.getElem_toArray, List.getElem_cons_succ, List.getElem_cons_zero, Act.put, List.setIfInBounds_toArray, List.set_cons_zero, List.set_cons_succ]
        refine wpAnyH_take (i := 18) (v := ?_) rfl (by kernel_rfl) (by kernel_rfl) (by kernel_rfl) (fun _ _ _ h => h) (Yields.yieldsIf (Or.inl ⟨by rfl, ?_⟩)) hHeld ?_
        rotate_left
        · intro W
          go_simp
          try with_reducible rfl
        simp only [List.getElem_toArray, List.getElem_cons_succ, List.getElem_cons_zero, Act.put, List.setIfInBounds_toArray, List.set_cons_zero, List.set_cons_succ]
        refine wpAnyH_done (by kernel_rfl) ?_ _
        clear hHeld
        obtain ⟨wf, hwf⟩ : ∃ wf, (w3.alloc zPk).setRow w3.heap.size #[.int .i64 ra, .int .i64 rb, .slice A3 rd.length c3] = wf := ⟨_, rfl⟩
        obtain ⟨bf, hbf⟩ : ∃ bf, w3.heap.size = bf := ⟨_, rfl⟩
        have hal : wf = w3.alloc (.cells #[.int .i64 ra, .int .i64 rb, .slice A3 rd.length c3] 43) := hwf.symm.trans (World.setRow_alloc_new w3 _ _ _)
        have Xf : Ext y wf := by rw [hal]; exact inferInstance
        have X3f : Ext w3 wf := by rw [hal]; exact inferInstance
        have hbb : wf.heap[bf]? = some (.cells #[.int .i64 ra, .int .i64 rb, .slice A3 rd.length c3] 43 (0, 0)) := by rw [hal, ← hbf]; exact at_new w3 _
        rw [hwf, hbf]
        clear hal hwf hbf
        have HBf : Hid (wf.heap[bf]? = some (.cells #[.int .i64 ra, .int .i64 rb, .slice A3 rd.length c3] 43 (0, 0))) := hbb
        have HOf : Hid (wf.ownsRow w.heap.size 5 1 (.slice A3 rd.length c3) rd.length (nums .u8 rd)) := (own_weaken (own_ext HO3.out) (Nat.le_trans Hy.out (by simp)))
        have HEf : Hid (Ext y wf) := Xf
        have HNf : Hid ((Value.slice A3 rd.length c3).ownBlock ≠ some w.heap.size) := (fun e => by have h1 := own_base HO3.out _ e; have h2 := HLy.out; simp at h1; omega)
        have HTf : Hid (PeerAt 154 wf B nm wd tr (sn + 1) i2 0 ms) := HPy.out.ext (h := HEf.out)
        have HZf : Hid (wf.heap[w.heap.size]? = some zPk) := at_ext (h := HEf.out) HZy.out
        have HBu : Hid (But w wf B) := HBy.out.trans_ext HEf.out
        go_wp2_with
          (first
           | (refine wpList_load_row rfl 43 (.tmp 5) rfl bf rfl 43 #[.int .i64 ra, .int .i64 rb, .slice A3 rd.length c3] (0, 0) _ HBf.out Try.underlying43 rfl (by kernel_rfl) ?_)
           | (refine wpList_store_row rfl 43 (.tmp 2) (.tmp 64) rfl w.heap.size #[.int .i64 ra, .int .i64 rb, .slice A3 rd.length c3] rfl rfl 43 #[.int .i64 0, .int .i64 0, .slice none 0 0] HZf.out (by kernel_rfl) rfl (by simp [Value.oneCell']) ?_))
        refine bodyPost_ret (results_cell_row3 Try.results68 _ _ w.heap.size 43 #[.int .i64 ra, .int .i64 rb, .slice A3 rd.length c3] (0, 0) _ (.bool true) (.int .i64 0) rfl rfl rfl (setRow_heap _ _ _ _ _ _ HZf.out) Try.underlying43 rfl (by kernel_rfl)) rfl ?_
        refine ⟨HBu.out.setRow (Nat.le_refl _) _, ?_, A3, c3, ?_, ?_⟩
        · rw [HS.out]; exact HTf.out.setRow HLT.out _
        · rw [HR.out, HRR.out]
        · rw [HR.out, HRR.out]; exact own_setRow HOf.out HNf.out _
      · rw [if_pos (by rfl)]
        unfold Oper.wp
        go_simp
        refine hK.out _ _ (by exact inferInstance) (fun hHeld => ?_)
        clear hK K
        try simp only [List.getElem_toArray, List.getElem_cons_succ, List.getElem_cons_zero, Act.put, List.setIfInBounds_toArray, List.set_cons_zero, List.set_cons_succ]
        refine wpAnyH_ready (rs := [12]) (by kernel_rfl) (by simp) ?_
        refine AllReadyH.cons rfl (fun K hK => ?_) AllReadyH.nil
        refine step_call_w (by rfl) Try.func58 (by kernel_rfl) (by kernel_rfl) #[.tmp 52, .tmp 56, .tmp 60] #[3, 9, 9] rfl #[.int .i64 i2, .string nm, .string wd] ?hv (request_any i2 nm wd hnm hwd _) ?_
        case hv => go_simp
        rintro e w3 ⟨A3, c3, rfl, ho3, hb3⟩
        refine ⟨_, rfl, ?_⟩
        rw [HRR.out] at ho3 ⊢
        simp only at ho3 ⊢
        have S3 : Step w3 (y.drew.alloc zPk) := ⟨hb3⟩
        have X3 : Ext y w3 := Ext.trans_ (inferInstance : Ext y (y.drew.alloc zPk)) (inferInstance : Ext (y.drew.alloc zPk) w3)
        have HO3 := Lib.hid ho3
        have HZ3 : Hid (w3.heap[y.heap.size]? = some zPk) := at_ext (w := y.drew.alloc zPk) (at_new y.drew zPk)
        clear hb3 ho3 hHeld
        refine hK.out _ _ (by exact inferInstance) (fun hHeld => ?_)
        clear hK K
        simp only [List.getElem_toArray, List.getElem_cons_succ, List.getElem_cons_zero, Act.put, List.setIfInBounds_toArray, List.set_cons_zero, List.set_cons_succ]
        refine wpAnyH_take (i := 13) (v := ?_) rfl (by kernel_rfl) (by kernel_rfl) (by kernel_rfl) (fun _ _ _ h => h) (Yields.yieldsIf (Or.inl ⟨by rfl, ?_⟩)) hHeld ?_
        rotate_left
        · intro W
          go_simp
          try with_reducible rfl
        simp only [List.getElem_toArray, List.getElem_cons_succ, List.getElem_cons_zero, Act.put, List.setIfInBounds_toArray, List.set_cons_zero, List.set_cons_succ]
        refine wpAnyH_take (i := 14) (v := ?_) rfl (by kernel_rfl) (by kernel_rfl) (by kernel_rfl) (fun _ _ _ h => h) (Yields.yieldsIf (Or.inl ⟨by rfl, ?_⟩)) hHeld ?_
        rotate_left
        · intro W
          go_simp
          try with_reducible rfl
        simp only [List.getElem_toArray, List.getElem_cons_succ, List.getElem_cons_zero, Act.put, List.setIfInBounds_toArray, List.set_cons_zero, List.set_cons_succ]
        refine wpAnyH_take (i := 15) (v := ?_) rfl (by kernel_rfl) (by kernel_rfl) (by kernel_rfl) (fun _ _ _ h => h) (Yields.yieldsIf (Or.inl ⟨by rfl, ?_⟩)) hHeld ?_
        rotate_left
        · intro W
          go_simp
          try with_reducible rfl
        simp only [List.getElem_toArray, List.getElem_cons_succ, List.getElem_cons_zero, Act.put, List.setIfInBounds_toArray, List.set_cons_zero, List.set_cons_succ]
        refine wpAnyH_ready (rs := [17]) (by kernel_rfl) (by simp) ?_
        refine AllReadyH.cons rfl (fun K hK => ?_) AllReadyH.nil
        refine step_store_row (by rfl) 43 (.tmp 5) (.tmp 62) rfl y.heap.size #[.int .i64 ra, .int .i64 rb, .slice A3 rd.length c3] rfl rfl 43 #[.int .i64 0, .int .i64 0, .slice none 0 0] HZ3.out (by kernel_rfl) rfl (by simp [Value.oneCell']) ?_
        clear hHeld
        refine hK.out _ _ (Ext.setRow_ X3 (Nat.le_refl _) _) (fun hHeld => ?_)
        clear hK K
        simp only [List.getElem_toArray, List.getElem_cons_succ, List.getElem_cons_zero, Act.put, List.setIfInBounds_toArray, List.set_cons_zero, List.set_cons_succ]
        refine wpAnyH_take (i := 18) (v := ?_) rfl (by kernel_rfl) (by kernel_rfl) (by kernel_rfl) (fun _ _ _ h => h) (Yields.yieldsIf (Or.inl ⟨by rfl, ?_⟩)) hHeld ?_
        rotate_left
        · intro W
          go_simp
          try with_reducible rfl
        simp only [List.getElem_toArray, List.getElem_cons_succ, List.getElem_cons_zero, Act.put, List.setIfInBounds_toArray, List.set_cons_zero, List.set_cons_succ]
        refine wpAnyH_done (by kernel_rfl) ?_ _
        clear hHeld
        have hne3 : (Value.slice A3 rd.length c3).ownBlock ≠ some y.heap.size := fun e => by
          have h1 := own_base HO3.out _ e
          simp at h1
          omega
        have hof : (w3.setRow y.heap.size #[.int .i64 ra, .int .i64 rb, .slice A3 rd.length c3]).ownsRow w.heap.size 5 1 (.slice A3 rd.length c3) rd.length (nums .u8 rd) := own_weaken (own_setRow HO3.out hne3 _) (Nat.le_trans Hy.out (by simp))
        obtain ⟨wf, hwf⟩ : ∃ wf, w3.setRow y.heap.size #[.int .i64 ra, .int .i64 rb, .slice A3 rd.length c3] = wf := ⟨_, rfl⟩
        obtain ⟨bf, hbf⟩ : ∃ bf, y.heap.size = bf := ⟨_, rfl⟩
        have Xf : Ext y wf := by rw [← hwf]; exact Ext.setRow_ X3 (Nat.le_refl _) _
        have hbb : wf.heap[bf]? = some (.cells #[.int .i64 ra, .int .i64 rb, .slice A3 rd.length c3] 43 (0, 0)) := by rw [← hwf, ← hbf]; exact setRow_heap _ _ _ _ _ _ HZ3.out
        have hn2 : (Value.slice A3 rd.length c3).ownBlock ≠ some w.heap.size := fun e => by
          have h1 := own_base HO3.out _ e
          have h2 := HLy.out
          simp at h1
          omega
        rw [hwf] at hof ⊢
        rw [hbf]
        clear hwf hbf
        have HBf : Hid (wf.heap[bf]? = some (.cells #[.int .i64 ra, .int .i64 rb, .slice A3 rd.length c3] 43 (0, 0))) := hbb
        have HOf : Hid (wf.ownsRow w.heap.size 5 1 (.slice A3 rd.length c3) rd.length (nums .u8 rd)) := hof
        have HEf : Hid (Ext y wf) := Xf
        have HNf : Hid ((Value.slice A3 rd.length c3).ownBlock ≠ some w.heap.size) := hn2
        have HTf : Hid (PeerAt 154 wf B nm wd tr (sn + 1) i2 0 ms) := HPy.out.ext (h := HEf.out)
        have HZf : Hid (wf.heap[w.heap.size]? = some zPk) := at_ext (h := HEf.out) HZy.out
        have HBu : Hid (But w wf B) := HBy.out.trans_ext HEf.out
        go_wp2_with
          (first
           | (refine wpList_load_row rfl 43 (.tmp 5) rfl bf rfl 43 #[.int .i64 ra, .int .i64 rb, .slice A3 rd.length c3] (0, 0) _ HBf.out Try.underlying43 rfl (by kernel_rfl) ?_)
           | (refine wpList_store_row rfl 43 (.tmp 2) (.tmp 64) rfl w.heap.size #[.int .i64 ra, .int .i64 rb, .slice A3 rd.length c3] rfl rfl 43 #[.int .i64 0, .int .i64 0, .slice none 0 0] HZf.out (by kernel_rfl) rfl (by simp [Value.oneCell']) ?_))
        refine bodyPost_ret (results_cell_row3 Try.results68 _ _ w.heap.size 43 #[.int .i64 ra, .int .i64 rb, .slice A3 rd.length c3] (0, 0) _ (.bool true) (.int .i64 0) rfl rfl rfl (setRow_heap _ _ _ _ _ _ HZf.out) Try.underlying43 rfl (by kernel_rfl)) rfl ?_
        refine ⟨HBu.out.setRow (Nat.le_refl _) _, ?_, A3, c3, ?_, ?_⟩
        · rw [HS.out]; exact HTf.out.setRow HLT.out _
        · rw [HR.out, HRR.out]
        · rw [HR.out, HRR.out]; exact own_setRow HOf.out HNf.out _
  · have h1' : (st != 0) = true := by simpa using h1
    have HS : Hid (sendS tr sn id st = (sn, id, st)) := if_pos h1
    have HR : Hid (sendR (strB nm) (strB wd) tr sn id st = (((0, 0), []), false, 9)) := if_pos h1
    have HZ := Lib.hid HZ0.out
    have HPb : Hid (PeerAt 154 (w.alloc zPk) B nm wd tr sn id st ms) := HP.out.ext
    have p5 : ∀ o, (w.alloc o).cell? ⟨B, 5, none⟩ = some (.int .i64 st) := fun o => (HP.out.ext (w1 := w.alloc o)).p5
    go_enter Try.func68, Try.ntmps68
    go_wp2_with
      (refine wpList_store_row rfl 43 (.tmp 2) (.tmp 17) rfl w.heap.size #[.int .i64 0, .int .i64 0, .slice none 0 0] rfl rfl 43 #[.int .i64 0, .int .i64 0, .slice none 0 0] HZ.out (by kernel_rfl) rfl (by simp [Value.oneCell']) ?_)
    refine bodyPost_ret (results_cell_row3 Try.results68 _ _ w.heap.size 43 #[.int .i64 0, .int .i64 0, .slice none 0 0] (0, 0) _ (.bool false) (.int .i64 9) rfl rfl rfl (setRow_heap _ _ _ _ _ _ HZ.out) Try.underlying43 rfl (by kernel_rfl)) rfl ?_
    refine ⟨(But.of (w1 := w.alloc zPk)).setRow (Nat.le_refl _) _, ?_, none, 0, ?_, ?_⟩
    · rw [HS.out]; exact HPb.out.setRow HLT.out _
    · rw [HR.out]; rfl
    · rw [HR.out]; exact own_nil _ _ _ _
set_option maxRecDepth 100000 in
set_option maxHeartbeats 8000000 in
theorem rpsend_any (B : Nat) (nm wd ms : ByteArray) (tr sn id st : Int) (hnm : nm.size ≤ 140737488355328) (hwd : wd.size ≤ 140737488355328) (hs0 : 0 ≤ sn) (hs1 : sn ≤ 1000) (hi0 : 0 ≤ id) (hi1 : id ≤ 255) (w : World) (h : PeerAt 114 w B nm wd tr sn id st ms) :
    Calls Try.prog 72 #[.pointer (some ⟨B, 0, none⟩)] w (SendTells 114 B nm wd ms tr (sendS tr sn id st) (sendR (strB nm) (strB wd) tr sn id st) w) := by
  have HP := Lib.hid h
  have HLT : Hid (B < w.heap.size) := at_lt h
  clear h
  have HZ0 : Hid ((w.alloc zPk).heap[w.heap.size]? = some zPk) := at_new w _
  by_cases h1 : st = 0
  · subst h1
    by_cases h2 : tr ≤ sn
    · have HS : Hid (sendS tr sn id 0 = (sn, id, 3)) := by unfold Hid sendS; rw [if_neg (by simp), if_pos h2]
      have HR : Hid (sendR (strB nm) (strB wd) tr sn id 0 = (((0, 0), []), false, 0)) := by unfold Hid sendR; rw [if_neg (by simp), if_pos h2]
      go_enter Try.func72, Try.ntmps72
      go_upto_region 1 with fail
      obtain ⟨wb, hwb⟩ : ∃ wb, w.alloc zPk = wb := ⟨_, rfl⟩
      rw [hwb] at HZ0 ⊢
      have HPb : Hid (PeerAt 114 wb B nm wd tr sn id 0 ms) := by unfold Hid; rw [← hwb]; exact HP.out.ext
      have Sb : Step wb w := ⟨by rw [← hwb]; exact Ext.out⟩
      clear hwb
      have p5 := HPb.out.p5
      have p3 := HPb.out.p3
      have p2 := HPb.out.p2
      go_upto_region 3 with fail
      refine wp_region_held_drew (S := fun W => Ext wb W) (by kernel_rfl) (by exact inferInstance) (fun hHeld => ?_)
      refine wpAnyH_take (i := 0) (v := ?_) rfl (by kernel_rfl) (by kernel_rfl) (by kernel_rfl) (fun _ _ _ h => h) (Yields.yieldsIf (Or.inl ⟨by rfl, ?_⟩)) hHeld ?_
      rotate_left
      · intro W
        go_simp
        try with_reducible rfl
      simp only [List.getElem_toArray, List.getElem_cons_succ, List.getElem_cons_zero, Act.put, List.setIfInBounds_toArray, List.set_cons_zero, List.set_cons_succ]
      refine wpAnyH_take (i := 1) (v := ?_) rfl (by kernel_rfl) (by kernel_rfl) (by kernel_rfl) (fun _ _ _ h => h) (Yields.yieldsIf (Or.inl ⟨by rfl, ?_⟩)) hHeld ?_
      rotate_left
      · intro W
        go_simp
        try with_reducible rfl
      simp only [List.getElem_toArray, List.getElem_cons_succ, List.getElem_cons_zero, Act.put, List.setIfInBounds_toArray, List.set_cons_zero, List.set_cons_succ]
      refine wpAnyH_take (i := 2) (v := ?_) rfl (by kernel_rfl) (by kernel_rfl) (by kernel_rfl) (fun _ _ _ h => h) (Yields.yieldsIf (Or.inl ⟨by rfl, ?_⟩)) hHeld ?_
      rotate_left
      · intro W
        go_simp
        try with_reducible rfl
      simp only [List.getElem_toArray, List.getElem_cons_succ, List.getElem_cons_zero, Act.put, List.setIfInBounds_toArray, List.set_cons_zero, List.set_cons_succ]
      refine wpAnyH_take (i := 3) (v := ?_) rfl (by kernel_rfl) (by kernel_rfl) (by kernel_rfl) (fun _ _ _ h => h) (Or.inl ⟨by rfl, ?_⟩) hHeld ?_
      rotate_left
      · intro W hW
        have hcl := (cell_ext (h := hW) p3)
        go_simp
        try with_reducible rfl
      simp only [List.getElem_toArray, List.getElem_cons_succ, List.getElem_cons_zero, Act.put, List.setIfInBounds_toArray, List.set_cons_zero, List.set_cons_succ]
      refine wpAnyH_take (i := 4) (v := ?_) rfl (by kernel_rfl) (by kernel_rfl) (by kernel_rfl) (fun _ _ _ h => h) (Yields.yieldsIf (Or.inl ⟨by rfl, ?_⟩)) hHeld ?_
      rotate_left
      · intro W
        go_simp
        try with_reducible rfl
      simp only [List.getElem_toArray, List.getElem_cons_succ, List.getElem_cons_zero, Act.put, List.setIfInBounds_toArray, List.set_cons_zero, List.set_cons_succ]
      refine wpAnyH_take (i := 5) (v := ?_) rfl (by kernel_rfl) (by kernel_rfl) (by kernel_rfl) (fun _ _ _ h => h) (Yields.yieldsIf (Or.inl ⟨by rfl, ?_⟩)) hHeld ?_
      rotate_left
      · intro W
        go_simp
        try with_reducible rfl
      simp only [List.getElem_toArray, List.getElem_cons_succ, List.getElem_cons_zero, Act.put, List.setIfInBounds_toArray, List.set_cons_zero, List.set_cons_succ]
      refine wpAnyH_take (i := 6) (v := ?_) rfl (by kernel_rfl) (by kernel_rfl) (by kernel_rfl) (fun _ _ _ h => h) (Yields.yieldsIf (Or.inl ⟨by rfl, ?_⟩)) hHeld ?_
      rotate_left
      · intro W
        go_simp
        try with_reducible rfl
      simp only [List.getElem_toArray, List.getElem_cons_succ, List.getElem_cons_zero, Act.put, List.setIfInBounds_toArray, List.set_cons_zero, List.set_cons_succ]
      refine wpAnyH_take (i := 7) (v := ?_) rfl (by kernel_rfl) (by kernel_rfl) (by kernel_rfl) (fun _ _ _ h => h) (Or.inl ⟨by rfl, ?_⟩) hHeld ?_
      rotate_left
      · intro W hW
        have hcl := (cell_ext (h := hW) p2)
        go_simp
        try with_reducible rfl
      simp only [List.getElem_toArray, List.getElem_cons_succ, List.getElem_cons_zero, Act.put, List.setIfInBounds_toArray, List.set_cons_zero, List.set_cons_succ]
      refine wpAnyH_take (i := 8) (v := ?_) rfl (by kernel_rfl) (by kernel_rfl) (by kernel_rfl) (fun _ _ _ h => h) (Yields.yieldsIf (Or.inl ⟨by rfl, ?_⟩)) hHeld ?_
      rotate_left
      · intro W
        go_simp
        try with_reducible rfl
      simp only [List.getElem_toArray, List.getElem_cons_succ, List.getElem_cons_zero, Act.put, List.setIfInBounds_toArray, List.set_cons_zero, List.set_cons_succ]
      refine wpAnyH_done (by kernel_rfl) ?_ _
      clear hHeld p5
      have h5 := HPb.out.ext (w1 := wb.drew)
      have p5 := h5.p5
      have f5 := h5.f 5
      have HP6 := Lib.hid (h5.s5 3)
      have HZ : Hid ((wb.drew.setCell ⟨B, 5, none⟩ (.int .i64 3)).heap[w.heap.size]? = some zPk) := (Below.heap_setCell _ _ _ _ (by have := HLT.out; show w.heap.size ≠ B; omega)).trans (at_ext (w' := wb.drew) HZ0.out)
      have HB6 : Hid (But w (wb.drew.setCell ⟨B, 5, none⟩ (.int .i64 3)) B) := (But.of (w1 := wb.drew)).set 5 _
      clear h5
      go_wp2_with
        (refine wpList_store_row rfl 43 (.tmp 2) (.tmp 25) rfl w.heap.size #[.int .i64 0, .int .i64 0, .slice none 0 0] rfl rfl 43 #[.int .i64 0, .int .i64 0, .slice none 0 0] HZ.out (by kernel_rfl) rfl (by simp [Value.oneCell']) ?_)
      refine bodyPost_ret (results_cell_row3 Try.results72 _ _ w.heap.size 43 #[.int .i64 0, .int .i64 0, .slice none 0 0] (0, 0) _ (.bool false) (.int .i64 0) rfl rfl rfl (setRow_heap _ _ _ _ _ _ HZ.out) Try.underlying43 rfl (by kernel_rfl)) rfl ?_
      refine ⟨HB6.out.setRow (Nat.le_refl _) _, ?_, none, 0, ?_, ?_⟩
      · rw [HS.out]; exact HP6.out.setRow HLT.out _
      · rw [HR.out]; rfl
      · rw [HR.out]; exact own_nil _ _ _ _
    · obtain ⟨i2, hi2⟩ : ∃ i2, (id + 1) % 256 = i2 := ⟨_, rfl⟩
      have HS : Hid (sendS tr sn id 0 = (sn + 1, i2, 0)) := by unfold Hid sendS; rw [if_neg (by simp), if_neg h2, hi2]
      have HR : Hid (sendR (strB nm) (strB wd) tr sn id 0 = (((reqF i2 (strB nm) (strB wd)).1, (reqF i2 (strB nm) (strB wd)).2.1), true, 0)) := by unfold Hid sendR; rw [if_neg (by simp), if_neg h2, hi2]
      have HI2 := Lib.hid hi2
      have h2' : sn < tr := by omega
      clear hi2
      go_enter Try.func72, Try.ntmps72
      go_upto_region 1 with fail
      obtain ⟨wb, hwb⟩ : ∃ wb, w.alloc zPk = wb := ⟨_, rfl⟩
      rw [hwb] at HZ0 ⊢
      have HPb : Hid (PeerAt 114 wb B nm wd tr sn id 0 ms) := by unfold Hid; rw [← hwb]; exact HP.out.ext
      have Sb : Step wb w := ⟨by rw [← hwb]; exact Ext.out⟩
      clear hwb
      have p5 := HPb.out.p5
      have p3 := HPb.out.p3
      have p2 := HPb.out.p2
      go_upto_region 3 with fail
      refine wp_region_held_drew (S := fun W => Ext wb W) (by kernel_rfl) (by exact inferInstance) (fun hHeld => ?_)
      refine wpAnyH_take (i := 0) (v := ?_) rfl (by kernel_rfl) (by kernel_rfl) (by kernel_rfl) (fun _ _ _ h => h) (Yields.yieldsIf (Or.inl ⟨by rfl, ?_⟩)) hHeld ?_
      rotate_left
      · intro W
        go_simp
        try with_reducible rfl
      simp only [List.getElem_toArray, List.getElem_cons_succ, List.getElem_cons_zero, Act.put, List.setIfInBounds_toArray, List.set_cons_zero, List.set_cons_succ]
      refine wpAnyH_take (i := 1) (v := ?_) rfl (by kernel_rfl) (by kernel_rfl) (by kernel_rfl) (fun _ _ _ h => h) (Yields.yieldsIf (Or.inl ⟨by rfl, ?_⟩)) hHeld ?_
      rotate_left
      · intro W
        go_simp
        try with_reducible rfl
      simp only [List.getElem_toArray, List.getElem_cons_succ, List.getElem_cons_zero, Act.put, List.setIfInBounds_toArray, List.set_cons_zero, List.set_cons_succ]
      refine wpAnyH_take (i := 2) (v := ?_) rfl (by kernel_rfl) (by kernel_rfl) (by kernel_rfl) (fun _ _ _ h => h) (Yields.yieldsIf (Or.inl ⟨by rfl, ?_⟩)) hHeld ?_
      rotate_left
      · intro W
        go_simp
        try with_reducible rfl
      simp only [List.getElem_toArray, List.getElem_cons_succ, List.getElem_cons_zero, Act.put, List.setIfInBounds_toArray, List.set_cons_zero, List.set_cons_succ]
      refine wpAnyH_take (i := 3) (v := ?_) rfl (by kernel_rfl) (by kernel_rfl) (by kernel_rfl) (fun _ _ _ h => h) (Or.inl ⟨by rfl, ?_⟩) hHeld ?_
      rotate_left
      · intro W hW
        have hcl := (cell_ext (h := hW) p3)
        go_simp
        try with_reducible rfl
      simp only [List.getElem_toArray, List.getElem_cons_succ, List.getElem_cons_zero, Act.put, List.setIfInBounds_toArray, List.set_cons_zero, List.set_cons_succ]
      refine wpAnyH_take (i := 4) (v := ?_) rfl (by kernel_rfl) (by kernel_rfl) (by kernel_rfl) (fun _ _ _ h => h) (Yields.yieldsIf (Or.inl ⟨by rfl, ?_⟩)) hHeld ?_
      rotate_left
      · intro W
        go_simp
        try with_reducible rfl
      simp only [List.getElem_toArray, List.getElem_cons_succ, List.getElem_cons_zero, Act.put, List.setIfInBounds_toArray, List.set_cons_zero, List.set_cons_succ]
      refine wpAnyH_take (i := 5) (v := ?_) rfl (by kernel_rfl) (by kernel_rfl) (by kernel_rfl) (fun _ _ _ h => h) (Yields.yieldsIf (Or.inl ⟨by rfl, ?_⟩)) hHeld ?_
      rotate_left
      · intro W
        go_simp
        try with_reducible rfl
      simp only [List.getElem_toArray, List.getElem_cons_succ, List.getElem_cons_zero, Act.put, List.setIfInBounds_toArray, List.set_cons_zero, List.set_cons_succ]
      refine wpAnyH_take (i := 6) (v := ?_) rfl (by kernel_rfl) (by kernel_rfl) (by kernel_rfl) (fun _ _ _ h => h) (Yields.yieldsIf (Or.inl ⟨by rfl, ?_⟩)) hHeld ?_
      rotate_left
      · intro W
        go_simp
        try with_reducible rfl
      simp only [List.getElem_toArray, List.getElem_cons_succ, List.getElem_cons_zero, Act.put, List.setIfInBounds_toArray, List.set_cons_zero, List.set_cons_succ]
      refine wpAnyH_take (i := 7) (v := ?_) rfl (by kernel_rfl) (by kernel_rfl) (by kernel_rfl) (fun _ _ _ h => h) (Or.inl ⟨by rfl, ?_⟩) hHeld ?_
      rotate_left
      · intro W hW
        have hcl := (cell_ext (h := hW) p2)
        go_simp
        try with_reducible rfl
      simp only [List.getElem_toArray, List.getElem_cons_succ, List.getElem_cons_zero, Act.put, List.setIfInBounds_toArray, List.set_cons_zero, List.set_cons_succ]
      refine wpAnyH_take (i := 8) (v := ?_) rfl (by kernel_rfl) (by kernel_rfl) (by kernel_rfl) (fun _ _ _ h => h) (Yields.yieldsIf (Or.inl ⟨by rfl, ?_⟩)) hHeld ?_
      rotate_left
      · intro W
        go_simp
        try with_reducible rfl
      simp only [List.getElem_toArray, List.getElem_cons_succ, List.getElem_cons_zero, Act.put, List.setIfInBounds_toArray, List.set_cons_zero, List.set_cons_succ]
      refine wpAnyH_done (by kernel_rfl) ?_ _
      clear hHeld p5
      obtain ⟨wv, hwv⟩ : ∃ wv, wb.drew = wv := ⟨_, rfl⟩
      rw [hwv]
      have Sv : Step wv wb := ⟨by rw [← hwv]; exact Ext.out⟩
      clear hwv p3 p2
      have h5 := HPb.out.ext (w1 := wv)
      have p3 := h5.p3
      have f3 := h5.f 3
      have h6 := h5.s3 (sn + 1)
      have p4 := h6.p4
      have f4 := h6.f 4
      have HP7 := Lib.hid (h6.s4 ((id + 1) % 256))
      have HB7 : Hid (But w ((wv.setCell ⟨B, 3, none⟩ (.int .i64 (sn + 1))).setCell ⟨B, 4, none⟩ (.int .i64 ((id + 1) % 256))) B) := ((But.of (w1 := wv)).set 3 _).set 4 _
      have HZ7 : Hid (((wv.setCell ⟨B, 3, none⟩ (.int .i64 (sn + 1))).setCell ⟨B, 4, none⟩ (.int .i64 ((id + 1) % 256))).heap[w.heap.size]? = some zPk) := (Below.heap_setCell _ _ _ _ (by have := HLT.out; show w.heap.size ≠ B; omega)).trans ((Below.heap_setCell _ _ _ _ (by have := HLT.out; show w.heap.size ≠ B; omega)).trans (at_ext (w' := wv) HZ0.out))
      clear h5 h6
      go_upto_region 8 with fail
      obtain ⟨y, hy⟩ : ∃ y, (wv.setCell ⟨B, 3, none⟩ (.int .i64 (sn + 1))).setCell ⟨B, 4, none⟩ (.int .i64 ((id + 1) % 256)) = y := ⟨_, rfl⟩
      have HPy : Hid (PeerAt 114 y B nm wd tr (sn + 1) i2 0 ms) := by unfold Hid; rw [← hy, ← HI2.out]; exact HP7.out
      have HBy : Hid (But w y B) := by unfold Hid; rw [← hy]; exact HB7.out
      have HZy : Hid (y.heap[w.heap.size]? = some zPk) := by unfold Hid; rw [← hy]; exact HZ7.out
      have Hy : Hid (w.heap.size ≤ y.heap.size) := HBy.out.size
      have HLy : Hid (w.heap.size < y.heap.size) := at_lt HZy.out
      rw [hy]
      clear hy p3 f3 p4 f4 HP7 HB7 HZ7
      have q0 := HPy.out.p0
      have q1 := HPy.out.p1
      have q4 := HPy.out.p4
      obtain ⟨⟨⟨ra, rb⟩, rd, re⟩, hrr⟩ : ∃ a, reqF i2 (strB nm) (strB wd) = a := ⟨_, rfl⟩
      have HRR := Lib.hid hrr
      clear hrr
      refine wp_region_held_drew (S := fun W => Ext y W) (by kernel_rfl) (by exact inferInstance) (fun hHeld => ?_)
      refine wpAnyH_take (i := 0) (v := ?_) rfl (by kernel_rfl) (by kernel_rfl) (by kernel_rfl) (fun _ _ _ h => h) (Yields.yieldsIf (Or.inl ⟨by rfl, ?_⟩)) hHeld ?_
      rotate_left
      · intro W
        go_simp
        try with_reducible rfl
      simp only [List.getElem_toArray, List.getElem_cons_succ, List.getElem_cons_zero, Act.put, List.setIfInBounds_toArray, List.set_cons_zero, List.set_cons_succ]
      refine wpAnyH_take (i := 1) (v := ?_) rfl (by kernel_rfl) (by kernel_rfl) (by kernel_rfl) (fun _ _ _ h => h) (Yields.yieldsIf (Or.inl ⟨by rfl, ?_⟩)) hHeld ?_
      rotate_left
      · intro W
        go_simp
        try with_reducible rfl
      simp only [List.getElem_toArray, List.getElem_cons_succ, List.getElem_cons_zero, Act.put, List.setIfInBounds_toArray, List.set_cons_zero, List.set_cons_succ]
      refine wpAnyH_take (i := 2) (v := ?_) rfl (by kernel_rfl) (by kernel_rfl) (by kernel_rfl) (fun _ _ _ h => h) (Yields.yieldsIf (Or.inl ⟨by rfl, ?_⟩)) hHeld ?_
      rotate_left
      · intro W
        go_simp
        try with_reducible rfl
      simp only [List.getElem_toArray, List.getElem_cons_succ, List.getElem_cons_zero, Act.put, List.setIfInBounds_toArray, List.set_cons_zero, List.set_cons_succ]
      refine wpAnyH_take (i := 3) (v := ?_) rfl (by kernel_rfl) (by kernel_rfl) (by kernel_rfl) (fun _ _ _ h => h) (Or.inl ⟨by rfl, ?_⟩) hHeld ?_
      rotate_left
      · intro W hW
        have hcl := (cell_ext (h := hW) q4)
        go_simp
        try with_reducible rfl
      simp only [List.getElem_toArray, List.getElem_cons_succ, List.getElem_cons_zero, Act.put, List.setIfInBounds_toArray, List.set_cons_zero, List.set_cons_succ]
      refine wpAnyH_take (i := 4) (v := ?_) rfl (by kernel_rfl) (by kernel_rfl) (by kernel_rfl) (fun _ _ _ h => h) (Yields.yieldsIf (Or.inl ⟨by rfl, ?_⟩)) hHeld ?_
      rotate_left
      · intro W
        go_simp
        try with_reducible rfl
      simp only [List.getElem_toArray, List.getElem_cons_succ, List.getElem_cons_zero, Act.put, List.setIfInBounds_toArray, List.set_cons_zero, List.set_cons_succ]
      refine wpAnyH_take (i := 5) (v := ?_) rfl (by kernel_rfl) (by kernel_rfl) (by kernel_rfl) (fun _ _ _ h => h) (Yields.yieldsIf (Or.inl ⟨by rfl, ?_⟩)) hHeld ?_
      rotate_left
      · intro W
        go_simp
        try with_reducible rfl
      simp only [List.getElem_toArray, List.getElem_cons_succ, List.getElem_cons_zero, Act.put, List.setIfInBounds_toArray, List.set_cons_zero, List.set_cons_succ]
      refine wpAnyH_take (i := 6) (v := ?_) rfl (by kernel_rfl) (by kernel_rfl) (by kernel_rfl) (fun _ _ _ h => h) (Yields.yieldsIf (Or.inl ⟨by rfl, ?_⟩)) hHeld ?_
      rotate_left
      · intro W
        go_simp
        try with_reducible rfl
      simp only [List.getElem_toArray, List.getElem_cons_succ, List.getElem_cons_zero, Act.put, List.setIfInBounds_toArray, List.set_cons_zero, List.set_cons_succ]
      refine wpAnyH_take (i := 7) (v := ?_) rfl (by kernel_rfl) (by kernel_rfl) (by kernel_rfl) (fun _ _ _ h => h) (Or.inl ⟨by rfl, ?_⟩) hHeld ?_
      rotate_left
      · intro W hW
        have hcl := (cell_ext (h := hW) q0)
        go_simp
        try with_reducible rfl
      simp only [List.getElem_toArray, List.getElem_cons_succ, List.getElem_cons_zero, Act.put, List.setIfInBounds_toArray, List.set_cons_zero, List.set_cons_succ]
      refine wpAnyH_take (i := 8) (v := ?_) rfl (by kernel_rfl) (by kernel_rfl) (by kernel_rfl) (fun _ _ _ h => h) (Yields.yieldsIf (Or.inl ⟨by rfl, ?_⟩)) hHeld ?_
      rotate_left
      · intro W
        go_simp
        try with_reducible rfl
      simp only [List.getElem_toArray, List.getElem_cons_succ, List.getElem_cons_zero, Act.put, List.setIfInBounds_toArray, List.set_cons_zero, List.set_cons_succ]
      refine wpAnyH_take (i := 9) (v := ?_) rfl (by kernel_rfl) (by kernel_rfl) (by kernel_rfl) (fun _ _ _ h => h) (Yields.yieldsIf (Or.inl ⟨by rfl, ?_⟩)) hHeld ?_
      rotate_left
      · intro W
        go_simp
        try with_reducible rfl
      simp only [List.getElem_toArray, List.getElem_cons_succ, List.getElem_cons_zero, Act.put, List.setIfInBounds_toArray, List.set_cons_zero, List.set_cons_succ]
      refine wpAnyH_take (i := 10) (v := ?_) rfl (by kernel_rfl) (by kernel_rfl) (by kernel_rfl) (fun _ _ _ h => h) (Yields.yieldsIf (Or.inl ⟨by rfl, ?_⟩)) hHeld ?_
      rotate_left
      · intro W
        go_simp
        try with_reducible rfl
      simp only [List.getElem_toArray, List.getElem_cons_succ, List.getElem_cons_zero, Act.put, List.setIfInBounds_toArray, List.set_cons_zero, List.set_cons_succ]
      refine wpAnyH_take (i := 11) (v := ?_) rfl (by kernel_rfl) (by kernel_rfl) (by kernel_rfl) (fun _ _ _ h => h) (Or.inl ⟨by rfl, ?_⟩) hHeld ?_
      rotate_left
      · intro W hW
        have hcl := (cell_ext (h := hW) q1)
        go_simp
        try with_reducible rfl
      simp only [List.getElem_toArray, List.getElem_cons_succ, List.getElem_cons_zero, Act.put, List.setIfInBounds_toArray, List.set_cons_zero, List.set_cons_succ]
      refine wpAnyH_ready (rs := [12, 16]) (by kernel_rfl) (by simp) ?_
      refine AllReadyH.cons rfl (fun K hK => ?_) (AllReadyH.cons rfl (fun K hK => ?_) AllReadyH.nil)
      · refine step_call_w (by rfl) Try.func59 (by kernel_rfl) (by kernel_rfl) #[.tmp 46, .tmp 50, .tmp 54] #[3, 9, 9] rfl #[.int .i64 i2, .string nm, .string wd] ?hv (rrequest_any i2 nm wd _) ?_
        case hv => go_simp
        rintro e w3 ⟨A3, c3, rfl, ho3, hb3⟩
        refine ⟨_, rfl, ?_⟩
        rw [HRR.out] at ho3 ⊢
        simp only at ho3 ⊢
        have S3 : Step w3 y.drew := ⟨hb3⟩
        have X3 : Ext y w3 := inferInstance
        have HO3 := Lib.hid ho3
        clear hb3 ho3 hHeld
        refine hK.out _ _ (by exact inferInstance) (fun hHeld => ?_)
        clear hK K
        simp only [List.getElem_toArray, List.getElem_cons_succ, List.getElem_cons_zero, Act.put, List.setIfInBounds_toArray, List.set_cons_zero, List.set_cons_succ]
        refine wpAnyH_take (i := 13) (v := ?_) rfl (by kernel_rfl) (by kernel_rfl) (by kernel_rfl) (fun _ _ _ h => h) (Yields.yieldsIf (Or.inl ⟨by rfl, ?_⟩)) hHeld ?_
        rotate_left
        · intro W
          go_simp
          try with_reducible rfl
        simp only [List.getElem_toArray, List.getElem_cons_succ, List.getElem_cons_zero, Act.put, List.setIfInBounds_toArray, List.set_cons_zero, List.set_cons_succ]
        refine wpAnyH_take (i := 14) (v := ?_) rfl (by kernel_rfl) (by kernel_rfl) (by kernel_rfl) (fun _ _ _ h => h) (Yields.yieldsIf (Or.inl ⟨by rfl, ?_⟩)) hHeld ?_
        rotate_left
        · intro W
          go_simp
          try with_reducible rfl
        simp only [List.getElem_toArray, List.getElem_cons_succ, List.getElem_cons_zero, Act.put, List.setIfInBounds_toArray, List.set_cons_zero, List.set_cons_succ]
        refine wpAnyH_take (i := 15) (v := ?_) rfl (by kernel_rfl) (by kernel_rfl) (by kernel_rfl) (fun _ _ _ h => h) (Yields.yieldsIf (Or.inl ⟨by rfl, ?_⟩)) hHeld ?_
        rotate_left
        · intro W
          go_simp
          try with_reducible rfl
        simp only [List.getElem_toArray, List.getElem_cons_succ, List.getElem_cons_zero, Act.put, List.setIfInBounds_toArray, List.set_cons_zero, List.set_cons_succ]
        refine wpAnyH_ready (rs := [16]) (by kernel_rfl) (by simp) ?_
        refine AllReadyH.cons rfl (fun K hK => ?_) AllReadyH.nil
        rw [if_pos (by rfl)]
        unfold Oper.wp
        go_simp
        clear hHeld
        refine hK.out _ _ (by exact inferInstance) (fun hHeld => ?_)
        clear hK K
        try simp only [List.getElem_toArray, List.getElem_cons_succ, List.getElem_cons_zero, Act.put, List.setIfInBounds_toArray, List.set_cons_zero, List.set_cons_succ]
        refine wpAnyH_ready (rs := [17]) (by kernel_rfl) (by simp) ?_
        refine AllReadyH.cons rfl (fun K hK => ?_) AllReadyH.nil
        refine step_store_row (by rfl) 43 (.tmp 5) (.tmp 56) rfl w3.heap.size #[.int .i64 ra, .int .i64 rb, .slice A3 rd.length c3] rfl rfl 43 #[.int .i64 0, .int .i64 0, .slice none 0 0] (at_new w3 zPk) (by kernel_rfl) rfl (by simp [Value.oneCell']) ?_
        clear hHeld
        refine hK.out _ _ (Ext.setRow_ (inferInstance : Ext y (w3.alloc zPk)) X3.out.size _) (fun hHeld => ?_)
        clear hK K
        simp only [List.getElem_toArray, List.getElem_cons_succ, List.getElem_cons_zero, Act.put, List.setIfInBounds_toArray, List.set_cons_zero, List.set_cons_succ]
        refine wpAnyH_take (i := 18) (v := ?_) rfl (by kernel_rfl) (by kernel_rfl) (by kernel_rfl) (fun _ _ _ h => h) (Yields.yieldsIf (Or.inl ⟨by rfl, ?_⟩)) hHeld ?_
        rotate_left
        · intro W
          go_simp
          try with_reducible rfl
        simp only [List.getElem_toArray, List.getElem_cons_succ, List.getElem_cons_zero, Act.put, List.setIfInBounds_toArray, List.set_cons_zero, List.set_cons_succ]
        refine wpAnyH_done (by kernel_rfl) ?_ _
        clear hHeld
        obtain ⟨wf, hwf⟩ : ∃ wf, (w3.alloc zPk).setRow w3.heap.size #[.int .i64 ra, .int .i64 rb, .slice A3 rd.length c3] = wf := ⟨_, rfl⟩
        obtain ⟨bf, hbf⟩ : ∃ bf, w3.heap.size = bf := ⟨_, rfl⟩
        have hal : wf = w3.alloc (.cells #[.int .i64 ra, .int .i64 rb, .slice A3 rd.length c3] 43) := hwf.symm.trans (World.setRow_alloc_new w3 _ _ _)
        have Xf : Ext y wf := by rw [hal]; exact inferInstance
        have X3f : Ext w3 wf := by rw [hal]; exact inferInstance
        have hbb : wf.heap[bf]? = some (.cells #[.int .i64 ra, .int .i64 rb, .slice A3 rd.length c3] 43 (0, 0)) := by rw [hal, ← hbf]; exact at_new w3 _
        rw [hwf, hbf]
        clear hal hwf hbf
        have HBf : Hid (wf.heap[bf]? = some (.cells #[.int .i64 ra, .int .i64 rb, .slice A3 rd.length c3] 43 (0, 0))) := hbb
        have HOf : Hid (wf.ownsRow w.heap.size 5 1 (.slice A3 rd.length c3) rd.length (nums .u8 rd)) := (own_weaken (own_ext HO3.out) (Nat.le_trans Hy.out (by simp)))
        have HEf : Hid (Ext y wf) := Xf
        have HNf : Hid ((Value.slice A3 rd.length c3).ownBlock ≠ some w.heap.size) := (fun e => by have h1 := own_base HO3.out _ e; have h2 := HLy.out; simp at h1; omega)
        have HTf : Hid (PeerAt 114 wf B nm wd tr (sn + 1) i2 0 ms) := HPy.out.ext (h := HEf.out)
        have HZf : Hid (wf.heap[w.heap.size]? = some zPk) := at_ext (h := HEf.out) HZy.out
        have HBu : Hid (But w wf B) := HBy.out.trans_ext HEf.out
        go_wp2_with
          (first
           | (refine wpList_load_row rfl 43 (.tmp 5) rfl bf rfl 43 #[.int .i64 ra, .int .i64 rb, .slice A3 rd.length c3] (0, 0) _ HBf.out Try.underlying43 rfl (by kernel_rfl) ?_)
           | (refine wpList_store_row rfl 43 (.tmp 2) (.tmp 58) rfl w.heap.size #[.int .i64 ra, .int .i64 rb, .slice A3 rd.length c3] rfl rfl 43 #[.int .i64 0, .int .i64 0, .slice none 0 0] HZf.out (by kernel_rfl) rfl (by simp [Value.oneCell']) ?_))
        refine bodyPost_ret (results_cell_row3 Try.results72 _ _ w.heap.size 43 #[.int .i64 ra, .int .i64 rb, .slice A3 rd.length c3] (0, 0) _ (.bool true) (.int .i64 0) rfl rfl rfl (setRow_heap _ _ _ _ _ _ HZf.out) Try.underlying43 rfl (by kernel_rfl)) rfl ?_
        refine ⟨HBu.out.setRow (Nat.le_refl _) _, ?_, A3, c3, ?_, ?_⟩
        · rw [HS.out]; exact HTf.out.setRow HLT.out _
        · rw [HR.out, HRR.out]
        · rw [HR.out, HRR.out]; exact own_setRow HOf.out HNf.out _
      · rw [if_pos (by rfl)]
        unfold Oper.wp
        go_simp
        refine hK.out _ _ (by exact inferInstance) (fun hHeld => ?_)
        clear hK K
        try simp only [List.getElem_toArray, List.getElem_cons_succ, List.getElem_cons_zero, Act.put, List.setIfInBounds_toArray, List.set_cons_zero, List.set_cons_succ]
        refine wpAnyH_ready (rs := [12]) (by kernel_rfl) (by simp) ?_
        refine AllReadyH.cons rfl (fun K hK => ?_) AllReadyH.nil
        refine step_call_w (by rfl) Try.func59 (by kernel_rfl) (by kernel_rfl) #[.tmp 46, .tmp 50, .tmp 54] #[3, 9, 9] rfl #[.int .i64 i2, .string nm, .string wd] ?hv (rrequest_any i2 nm wd _) ?_
        case hv => go_simp
        rintro e w3 ⟨A3, c3, rfl, ho3, hb3⟩
        refine ⟨_, rfl, ?_⟩
        rw [HRR.out] at ho3 ⊢
        simp only at ho3 ⊢
        have S3 : Step w3 (y.drew.alloc zPk) := ⟨hb3⟩
        have X3 : Ext y w3 := Ext.trans_ (inferInstance : Ext y (y.drew.alloc zPk)) (inferInstance : Ext (y.drew.alloc zPk) w3)
        have HO3 := Lib.hid ho3
        have HZ3 : Hid (w3.heap[y.heap.size]? = some zPk) := at_ext (w := y.drew.alloc zPk) (at_new y.drew zPk)
        clear hb3 ho3 hHeld
        refine hK.out _ _ (by exact inferInstance) (fun hHeld => ?_)
        clear hK K
        simp only [List.getElem_toArray, List.getElem_cons_succ, List.getElem_cons_zero, Act.put, List.setIfInBounds_toArray, List.set_cons_zero, List.set_cons_succ]
        refine wpAnyH_take (i := 13) (v := ?_) rfl (by kernel_rfl) (by kernel_rfl) (by kernel_rfl) (fun _ _ _ h => h) (Yields.yieldsIf (Or.inl ⟨by rfl, ?_⟩)) hHeld ?_
        rotate_left
        · intro W
          go_simp
          try with_reducible rfl
        simp only [List.getElem_toArray, List.getElem_cons_succ, List.getElem_cons_zero, Act.put, List.setIfInBounds_toArray, List.set_cons_zero, List.set_cons_succ]
        refine wpAnyH_take (i := 14) (v := ?_) rfl (by kernel_rfl) (by kernel_rfl) (by kernel_rfl) (fun _ _ _ h => h) (Yields.yieldsIf (Or.inl ⟨by rfl, ?_⟩)) hHeld ?_
        rotate_left
        · intro W
          go_simp
          try with_reducible rfl
        simp only [List.getElem_toArray, List.getElem_cons_succ, List.getElem_cons_zero, Act.put, List.setIfInBounds_toArray, List.set_cons_zero, List.set_cons_succ]
        refine wpAnyH_take (i := 15) (v := ?_) rfl (by kernel_rfl) (by kernel_rfl) (by kernel_rfl) (fun _ _ _ h => h) (Yields.yieldsIf (Or.inl ⟨by rfl, ?_⟩)) hHeld ?_
        rotate_left
        · intro W
          go_simp
          try with_reducible rfl
        simp only [List.getElem_toArray, List.getElem_cons_succ, List.getElem_cons_zero, Act.put, List.setIfInBounds_toArray, List.set_cons_zero, List.set_cons_succ]
        refine wpAnyH_ready (rs := [17]) (by kernel_rfl) (by simp) ?_
        refine AllReadyH.cons rfl (fun K hK => ?_) AllReadyH.nil
        refine step_store_row (by rfl) 43 (.tmp 5) (.tmp 56) rfl y.heap.size #[.int .i64 ra, .int .i64 rb, .slice A3 rd.length c3] rfl rfl 43 #[.int .i64 0, .int .i64 0, .slice none 0 0] HZ3.out (by kernel_rfl) rfl (by simp [Value.oneCell']) ?_
        clear hHeld
        refine hK.out _ _ (Ext.setRow_ X3 (Nat.le_refl _) _) (fun hHeld => ?_)
        clear hK K
        simp only [List.getElem_toArray, List.getElem_cons_succ, List.getElem_cons_zero, Act.put, List.setIfInBounds_toArray, List.set_cons_zero, List.set_cons_succ]
        refine wpAnyH_take (i := 18) (v := ?_) rfl (by kernel_rfl) (by kernel_rfl) (by kernel_rfl) (fun _ _ _ h => h) (Yields.yieldsIf (Or.inl ⟨by rfl, ?_⟩)) hHeld ?_
        rotate_left
        · intro W
          go_simp
          try with_reducible rfl
        simp only [List.getElem_toArray, List.getElem_cons_succ, List.getElem_cons_zero, Act.put, List.setIfInBounds_toArray, List.set_cons_zero, List.set_cons_succ]
        refine wpAnyH_done (by kernel_rfl) ?_ _
        clear hHeld
        have hne3 : (Value.slice A3 rd.length c3).ownBlock ≠ some y.heap.size := fun e => by
          have h1 := own_base HO3.out _ e
          simp at h1
          omega
        have hof : (w3.setRow y.heap.size #[.int .i64 ra, .int .i64 rb, .slice A3 rd.length c3]).ownsRow w.heap.size 5 1 (.slice A3 rd.length c3) rd.length (nums .u8 rd) := own_weaken (own_setRow HO3.out hne3 _) (Nat.le_trans Hy.out (by simp))
        obtain ⟨wf, hwf⟩ : ∃ wf, w3.setRow y.heap.size #[.int .i64 ra, .int .i64 rb, .slice A3 rd.length c3] = wf := ⟨_, rfl⟩
        obtain ⟨bf, hbf⟩ : ∃ bf, y.heap.size = bf := ⟨_, rfl⟩
        have Xf : Ext y wf := by rw [← hwf]; exact Ext.setRow_ X3 (Nat.le_refl _) _
        have hbb : wf.heap[bf]? = some (.cells #[.int .i64 ra, .int .i64 rb, .slice A3 rd.length c3] 43 (0, 0)) := by rw [← hwf, ← hbf]; exact setRow_heap _ _ _ _ _ _ HZ3.out
        have hn2 : (Value.slice A3 rd.length c3).ownBlock ≠ some w.heap.size := fun e => by
          have h1 := own_base HO3.out _ e
          have h2 := HLy.out
          simp at h1
          omega
        rw [hwf] at hof ⊢
        rw [hbf]
        clear hwf hbf
        have HBf : Hid (wf.heap[bf]? = some (.cells #[.int .i64 ra, .int .i64 rb, .slice A3 rd.length c3] 43 (0, 0))) := hbb
        have HOf : Hid (wf.ownsRow w.heap.size 5 1 (.slice A3 rd.length c3) rd.length (nums .u8 rd)) := hof
        have HEf : Hid (Ext y wf) := Xf
        have HNf : Hid ((Value.slice A3 rd.length c3).ownBlock ≠ some w.heap.size) := hn2
        have HTf : Hid (PeerAt 114 wf B nm wd tr (sn + 1) i2 0 ms) := HPy.out.ext (h := HEf.out)
        have HZf : Hid (wf.heap[w.heap.size]? = some zPk) := at_ext (h := HEf.out) HZy.out
        have HBu : Hid (But w wf B) := HBy.out.trans_ext HEf.out
        go_wp2_with
          (first
           | (refine wpList_load_row rfl 43 (.tmp 5) rfl bf rfl 43 #[.int .i64 ra, .int .i64 rb, .slice A3 rd.length c3] (0, 0) _ HBf.out Try.underlying43 rfl (by kernel_rfl) ?_)
           | (refine wpList_store_row rfl 43 (.tmp 2) (.tmp 58) rfl w.heap.size #[.int .i64 ra, .int .i64 rb, .slice A3 rd.length c3] rfl rfl 43 #[.int .i64 0, .int .i64 0, .slice none 0 0] HZf.out (by kernel_rfl) rfl (by simp [Value.oneCell']) ?_))
        refine bodyPost_ret (results_cell_row3 Try.results72 _ _ w.heap.size 43 #[.int .i64 ra, .int .i64 rb, .slice A3 rd.length c3] (0, 0) _ (.bool true) (.int .i64 0) rfl rfl rfl (setRow_heap _ _ _ _ _ _ HZf.out) Try.underlying43 rfl (by kernel_rfl)) rfl ?_
        refine ⟨HBu.out.setRow (Nat.le_refl _) _, ?_, A3, c3, ?_, ?_⟩
        · rw [HS.out]; exact HTf.out.setRow HLT.out _
        · rw [HR.out, HRR.out]
        · rw [HR.out, HRR.out]; exact own_setRow HOf.out HNf.out _
  · have h1' : (st != 0) = true := by simpa using h1
    have HS : Hid (sendS tr sn id st = (sn, id, st)) := if_pos h1
    have HR : Hid (sendR (strB nm) (strB wd) tr sn id st = (((0, 0), []), false, 9)) := if_pos h1
    have HZ := Lib.hid HZ0.out
    have HPb : Hid (PeerAt 114 (w.alloc zPk) B nm wd tr sn id st ms) := HP.out.ext
    have p5 : ∀ o, (w.alloc o).cell? ⟨B, 5, none⟩ = some (.int .i64 st) := fun o => (HP.out.ext (w1 := w.alloc o)).p5
    go_enter Try.func72, Try.ntmps72
    go_wp2_with
      (refine wpList_store_row rfl 43 (.tmp 2) (.tmp 12) rfl w.heap.size #[.int .i64 0, .int .i64 0, .slice none 0 0] rfl rfl 43 #[.int .i64 0, .int .i64 0, .slice none 0 0] HZ.out (by kernel_rfl) rfl (by simp [Value.oneCell']) ?_)
    refine bodyPost_ret (results_cell_row3 Try.results72 _ _ w.heap.size 43 #[.int .i64 0, .int .i64 0, .slice none 0 0] (0, 0) _ (.bool false) (.int .i64 9) rfl rfl rfl (setRow_heap _ _ _ _ _ _ HZ.out) Try.underlying43 rfl (by kernel_rfl)) rfl ?_
    refine ⟨(But.of (w1 := w.alloc zPk)).setRow (Nat.le_refl _) _, ?_, none, 0, ?_, ?_⟩
    · rw [HS.out]; exact HPb.out.setRow HLT.out _
    · rw [HR.out]; rfl
    · rw [HR.out]; exact own_nil _ _ _ _
end Go.Proofs.Ytodibldfolognaa
