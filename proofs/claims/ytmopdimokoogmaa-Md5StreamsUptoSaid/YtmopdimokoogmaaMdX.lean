/-
  md5: Copy, Reset, Len of a stream that is there. Conditions: none beyond the stream's own.
-/
import Derived.Test.YtmopdimokoogmaaMdO
import Derived.Test.YtmopdimokoogmaaMdP
import Derived.Test.YtmopdimokoogmaaReg
namespace Go.Proofs.Ytmopdimokoogmaa
open Go.RowKit
set_option linter.unusedVariables false
set_option linter.unusedSimpArgs false

theorem flatW_len (ps : List W4) : (flatW ps).length = ps.length * 4 := by
  induction ps with
  | nil => rfl
  | cons x L ih =>
    rw [show flatW (x :: L) = w4cells x ++ flatW L from rfl, List.length_append, ih, List.length_cons]
    simp [w4cells]
    omega
theorem flatW_one (ps : List W4) : ∀ u ∈ flatW ps, u.oneCell' = true := by
  intro u hu
  simp only [flatW, List.mem_flatMap] at hu
  obtain ⟨x, _, hu⟩ := hu
  simp [w4cells] at hu
  rcases hu with rfl | rfl | rfl | rfl <;> rfl
set_option maxRecDepth 100000 in
set_option maxHeartbeats 4000000 in
theorem copy4_any (g base : Nat) (s : W4) (ps : List W4) (xs : List Int) (n : Int) (pv lv : Value) (w : World) (hx : xs.length ≤ 140737488355328) (hps : ps.length ≤ 8796093022207) (hs : StreamAt w base g s ps xs n pv lv) :
    Calls Try.prog 45 #[.pointer (some ⟨g, 0, none⟩)] w fun e w' => ∃ g' pv' lv', e = .returned (.pointer (some ⟨g', 0, none⟩)) ∧ StreamAt w' w.heap.size g' s ps xs n pv' lv' ∧ Below w.heap.size w w' := by
  obtain ⟨a, b, cc, d⟩ := s
  have hat := hs.at_
  obtain ⟨LA, lc, rfl, hlc⟩ := hs.left.slice
  obtain ⟨PA, pc, rfl, hpc⟩ := own_slice hs.past
  have HAT := Lib.hid hat
  have HCP := Lib.hid (own_cells hs.past)
  have HCL := Lib.hid (Tail.cells hs.left)
  clear hs hat
  go_enter Try.func45, Try.ntmps45
  go_wp2
  refine wp_region_held_drew (S := fun W => Ext w W) (by kernel_rfl) (by exact inferInstance) (fun hHeld => ?_)
  refine wpAnyH_take (i := 0) (v := ?_) rfl (by kernel_rfl) (by kernel_rfl) (by kernel_rfl) (fun _ _ _ h => h) (Yields.yieldsIf (Or.inl ⟨by rfl, ?_⟩)) hHeld ?_
  rotate_left
  · intro W
    go_simp
    try with_reducible rfl
  simp only [List.getElem_toArray, List.getElem_cons_succ, List.getElem_cons_zero, Act.put, List.setIfInBounds_toArray, List.set_cons_zero, List.set_cons_succ]
  refine wpAnyH_take (i := 1) (v := ?_) rfl (by kernel_rfl) (by kernel_rfl) (by kernel_rfl) (fun _ _ _ h => h) (Yields.yieldsIf (Or.inl ⟨by rfl, ?_⟩)) hHeld ?_
  rotate_left
  · intro W
    go_simp
    try with_reducible rfl
  simp only [List.getElem_toArray, List.getElem_cons_succ, List.getElem_cons_zero, Act.put, List.setIfInBounds_toArray, List.set_cons_zero, List.set_cons_succ]
  refine wpAnyH_take (i := 2) (v := ?_) rfl (by kernel_rfl) (by kernel_rfl) (by kernel_rfl) (fun _ _ _ h => h) (Yields.yieldsIf (Or.inl ⟨by rfl, ?_⟩)) hHeld ?_
  rotate_left
  · intro W
    go_simp
    try with_reducible rfl
  simp only [List.getElem_toArray, List.getElem_cons_succ, List.getElem_cons_zero, Act.put, List.setIfInBounds_toArray, List.set_cons_zero, List.set_cons_succ]
  refine wpAnyH_take (i := 3) (v := ?_) rfl (by kernel_rfl) (by kernel_rfl) (by kernel_rfl) (fun _ _ _ h => h) (Or.inl ⟨by rfl, ?_⟩) hHeld ?_
  rotate_left
  · intro W hW
    have hat := at_ext (h := hW) HAT.out
    have e0 : W.cell? ⟨g, 0, none⟩ = some (.int .u32 a) := at_cell hat 0
    have e1 : W.cell? ⟨g, 1, none⟩ = some (.int .u32 b) := at_cell hat 1
    have e2 : W.cell? ⟨g, 2, none⟩ = some (.int .u32 cc) := at_cell hat 2
    have e3 : W.cell? ⟨g, 3, none⟩ = some (.int .u32 d) := at_cell hat 3
    have e4 : W.cell? ⟨g, 4, none⟩ = some (.slice PA ps.length pc) := at_cell hat 4
    have e5 : W.cell? ⟨g, 5, none⟩ = some (.slice LA xs.length lc) := at_cell hat 5
    have e6 : W.cell? ⟨g, 6, none⟩ = some (.int .i64 n) := at_cell hat 6
    go_simp
    try with_reducible rfl
  simp only [List.getElem_toArray, List.getElem_cons_succ, List.getElem_cons_zero, Act.put, List.setIfInBounds_toArray, List.set_cons_zero, List.set_cons_succ]
  refine wpAnyH_take (i := 4) (v := ?_) rfl (by kernel_rfl) (by kernel_rfl) (by kernel_rfl) (fun _ _ _ h => h) (Yields.yieldsIf (Or.inl ⟨by rfl, ?_⟩)) hHeld ?_
  rotate_left
  · intro W
    go_simp
    try with_reducible rfl
  simp only [List.getElem_toArray, List.getElem_cons_succ, List.getElem_cons_zero, Act.put, List.setIfInBounds_toArray, List.set_cons_zero, List.set_cons_succ]
  refine wpAnyH_take (i := 5) (v := ?_) rfl (by kernel_rfl) (by kernel_rfl) (by kernel_rfl) (fun _ _ _ h => h) (Yields.yieldsIf (Or.inl ⟨by rfl, ?_⟩)) hHeld ?_
  rotate_left
  · intro W
    go_simp
    try with_reducible rfl
  simp only [List.getElem_toArray, List.getElem_cons_succ, List.getElem_cons_zero, Act.put, List.setIfInBounds_toArray, List.set_cons_zero, List.set_cons_succ]
  refine wpAnyH_take (i := 6) (v := ?_) rfl (by kernel_rfl) (by kernel_rfl) (by kernel_rfl) (fun _ _ _ h => h) (Yields.yieldsIf (Or.inl ⟨by rfl, ?_⟩)) hHeld ?_
  rotate_left
  · intro W
    go_simp
    try with_reducible rfl
  simp only [List.getElem_toArray, List.getElem_cons_succ, List.getElem_cons_zero, Act.put, List.setIfInBounds_toArray, List.set_cons_zero, List.set_cons_succ]
  refine wpAnyH_take (i := 7) (v := ?_) rfl (by kernel_rfl) (by kernel_rfl) (by kernel_rfl) (fun _ _ _ h => h) (Or.inl ⟨by rfl, ?_⟩) hHeld ?_
  rotate_left
  · intro W hW
    have hat := at_ext (h := hW) HAT.out
    have e0 : W.cell? ⟨g, 0, none⟩ = some (.int .u32 a) := at_cell hat 0
    have e1 : W.cell? ⟨g, 1, none⟩ = some (.int .u32 b) := at_cell hat 1
    have e2 : W.cell? ⟨g, 2, none⟩ = some (.int .u32 cc) := at_cell hat 2
    have e3 : W.cell? ⟨g, 3, none⟩ = some (.int .u32 d) := at_cell hat 3
    have e4 : W.cell? ⟨g, 4, none⟩ = some (.slice PA ps.length pc) := at_cell hat 4
    have e5 : W.cell? ⟨g, 5, none⟩ = some (.slice LA xs.length lc) := at_cell hat 5
    have e6 : W.cell? ⟨g, 6, none⟩ = some (.int .i64 n) := at_cell hat 6
    go_simp
    try with_reducible rfl
  simp only [List.getElem_toArray, List.getElem_cons_succ, List.getElem_cons_zero, Act.put, List.setIfInBounds_toArray, List.set_cons_zero, List.set_cons_succ]
  refine wpAnyH_take (i := 9) (v := ?_) rfl (by kernel_rfl) (by kernel_rfl) (by kernel_rfl) (fun _ _ _ h => h) (Yields.yieldsIf (Or.inl ⟨by rfl, ?_⟩)) hHeld ?_
  rotate_left
  · intro W
    go_simp
    try with_reducible rfl
  simp only [List.getElem_toArray, List.getElem_cons_succ, List.getElem_cons_zero, Act.put, List.setIfInBounds_toArray, List.set_cons_zero, List.set_cons_succ]
  refine wpAnyH_take (i := 10) (v := ?_) rfl (by kernel_rfl) (by kernel_rfl) (by kernel_rfl) (fun _ _ _ h => h) (Yields.yieldsIf (Or.inl ⟨by rfl, ?_⟩)) hHeld ?_
  rotate_left
  · intro W
    go_simp
    try with_reducible rfl
  simp only [List.getElem_toArray, List.getElem_cons_succ, List.getElem_cons_zero, Act.put, List.setIfInBounds_toArray, List.set_cons_zero, List.set_cons_succ]
  refine wpAnyH_take (i := 11) (v := ?_) rfl (by kernel_rfl) (by kernel_rfl) (by kernel_rfl) (fun _ _ _ h => h) (Yields.yieldsIf (Or.inl ⟨by rfl, ?_⟩)) hHeld ?_
  rotate_left
  · intro W
    go_simp
    try with_reducible rfl
  simp only [List.getElem_toArray, List.getElem_cons_succ, List.getElem_cons_zero, Act.put, List.setIfInBounds_toArray, List.set_cons_zero, List.set_cons_succ]
  refine wpAnyH_take (i := 12) (v := ?_) rfl (by kernel_rfl) (by kernel_rfl) (by kernel_rfl) (fun _ _ _ h => h) (Or.inl ⟨by rfl, ?_⟩) hHeld ?_
  rotate_left
  · intro W hW
    have hat := at_ext (h := hW) HAT.out
    have e0 : W.cell? ⟨g, 0, none⟩ = some (.int .u32 a) := at_cell hat 0
    have e1 : W.cell? ⟨g, 1, none⟩ = some (.int .u32 b) := at_cell hat 1
    have e2 : W.cell? ⟨g, 2, none⟩ = some (.int .u32 cc) := at_cell hat 2
    have e3 : W.cell? ⟨g, 3, none⟩ = some (.int .u32 d) := at_cell hat 3
    have e4 : W.cell? ⟨g, 4, none⟩ = some (.slice PA ps.length pc) := at_cell hat 4
    have e5 : W.cell? ⟨g, 5, none⟩ = some (.slice LA xs.length lc) := at_cell hat 5
    have e6 : W.cell? ⟨g, 6, none⟩ = some (.int .i64 n) := at_cell hat 6
    go_simp
    try with_reducible rfl
  simp only [List.getElem_toArray, List.getElem_cons_succ, List.getElem_cons_zero, Act.put, List.setIfInBounds_toArray, List.set_cons_zero, List.set_cons_succ]
  refine wpAnyH_take (i := 14) (v := ?_) rfl (by kernel_rfl) (by kernel_rfl) (by kernel_rfl) (fun _ _ _ h => h) (Yields.yieldsIf (Or.inl ⟨by rfl, ?_⟩)) hHeld ?_
  rotate_left
  · intro W
    go_simp
    try with_reducible rfl
  simp only [List.getElem_toArray, List.getElem_cons_succ, List.getElem_cons_zero, Act.put, List.setIfInBounds_toArray, List.set_cons_zero, List.set_cons_succ]
  refine wpAnyH_take (i := 15) (v := ?_) rfl (by kernel_rfl) (by kernel_rfl) (by kernel_rfl) (fun _ _ _ h => h) (Yields.yieldsIf (Or.inl ⟨by rfl, ?_⟩)) hHeld ?_
  rotate_left
  · intro W
    go_simp
    try with_reducible rfl
  simp only [List.getElem_toArray, List.getElem_cons_succ, List.getElem_cons_zero, Act.put, List.setIfInBounds_toArray, List.set_cons_zero, List.set_cons_succ]
  refine wpAnyH_take (i := 16) (v := ?_) rfl (by kernel_rfl) (by kernel_rfl) (by kernel_rfl) (fun _ _ _ h => h) (Yields.yieldsIf (Or.inl ⟨by rfl, ?_⟩)) hHeld ?_
  rotate_left
  · intro W
    go_simp
    try with_reducible rfl
  simp only [List.getElem_toArray, List.getElem_cons_succ, List.getElem_cons_zero, Act.put, List.setIfInBounds_toArray, List.set_cons_zero, List.set_cons_succ]
  refine wpAnyH_take (i := 17) (v := ?_) rfl (by kernel_rfl) (by kernel_rfl) (by kernel_rfl) (fun _ _ _ h => h) (Or.inl ⟨by rfl, ?_⟩) hHeld ?_
  rotate_left
  · intro W hW
    have hat := at_ext (h := hW) HAT.out
    have e0 : W.cell? ⟨g, 0, none⟩ = some (.int .u32 a) := at_cell hat 0
    have e1 : W.cell? ⟨g, 1, none⟩ = some (.int .u32 b) := at_cell hat 1
    have e2 : W.cell? ⟨g, 2, none⟩ = some (.int .u32 cc) := at_cell hat 2
    have e3 : W.cell? ⟨g, 3, none⟩ = some (.int .u32 d) := at_cell hat 3
    have e4 : W.cell? ⟨g, 4, none⟩ = some (.slice PA ps.length pc) := at_cell hat 4
    have e5 : W.cell? ⟨g, 5, none⟩ = some (.slice LA xs.length lc) := at_cell hat 5
    have e6 : W.cell? ⟨g, 6, none⟩ = some (.int .i64 n) := at_cell hat 6
    go_simp
    try with_reducible rfl
  simp only [List.getElem_toArray, List.getElem_cons_succ, List.getElem_cons_zero, Act.put, List.setIfInBounds_toArray, List.set_cons_zero, List.set_cons_succ]
  refine wpAnyH_ready (rs := [8]) (by kernel_rfl) (by simp) ?_
  refine AllReadyH.cons rfl (fun K hK => ?_) AllReadyH.nil
  refine step_append w.heap.size rfl (.const (.slice none 0 0)) (.tmp 12) 97 95 (.agg #[.int .u32 0, .int .u32 0, .int .u32 0, .int .u32 0]) 4 16 rfl Try.underlying97 info_w4 rfl (by decide) (by decide) (.slice none 0 0) 0 [] PA ps.length pc (flatW ps) rfl rfl (flatW_len ps) (flatW_one ps) (own_nil _ _ _ _) (by exact HCP.out.ext) (Nat.le_refl _) (by omega) ?_
  intro v1 w1 ho1 hg1 hat1
  rw [List.nil_append, Nat.zero_add] at ho1
  have X1 : Ext w w1 := ⟨below_grown (Ext.out (w := w) (w' := w.drew)) (Nat.le_refl _) hg1 (fun b h => by cases h)⟩
  obtain ⟨A1, c1, rfl, hc1⟩ := own_slice ho1
  have HO1 := Lib.hid ho1
  have HZ1 : Hid (w.heap.size ≤ w1.heap.size) := X1.out.size
  clear hHeld ho1 hg1 hat1
  refine hK.out _ _ X1 (fun hHeld => ?_)
  clear hK K
  simp only [List.getElem_toArray, List.getElem_cons_succ, List.getElem_cons_zero, Act.put, List.setIfInBounds_toArray, List.set_cons_zero, List.set_cons_succ]
  refine wpAnyH_ready (rs := [13]) (by kernel_rfl) (by simp) ?_
  refine AllReadyH.cons rfl (fun K hK => ?_) AllReadyH.nil
  refine step_append w.heap.size rfl (.const (.slice none 0 0)) (.tmp 17) 42 5 (.int .u8 0) 1 1 rfl Try.underlying42 info_u8 rfl (by decide) (by decide) (.slice none 0 0) 0 [] LA xs.length lc (nums .u8 xs) rfl rfl (by rw [nums_length, Nat.mul_one]) (nums_one _ _) (own_nil _ _ _ _) (by exact HCL.out.ext) HZ1.out (by omega) ?_
  intro v2 w2 ho2 hg2 hat2
  rw [List.nil_append, Nat.zero_add] at ho2
  have X12 : Ext w1 w2 := ⟨below_of_grown hg2 (Nat.le_refl _) (fun k hk => by cases hk)⟩
  have X2 : Ext w w2 := Ext.trans_ X1 X12
  have HO12 := Lib.hid (own_ext (w' := w2) HO1.out)
  have HNE : Hid (∀ k, v2.ownBlock = some k → (Value.slice A1 ps.length c1).ownBlock ≠ some k) := by
    intro k hk h1
    have := own_lt HO1.out k h1
    rcases hat2 with h | h
    · rw [hk] at h; cases h
    · rw [hk] at h; injection h with h; omega
  obtain ⟨A2, c2, rfl, hc2⟩ := own_slice ho2
  have HO2 := Lib.hid ho2
  clear hHeld ho2 hg2 hat2
  refine hK.out _ _ X2 (fun hHeld => ?_)
  clear hK K
  simp only [List.getElem_toArray, List.getElem_cons_succ, List.getElem_cons_zero, Act.put, List.setIfInBounds_toArray, List.set_cons_zero, List.set_cons_succ]
  refine wpAnyH_take (i := 18) (v := ?_) rfl (by kernel_rfl) (by kernel_rfl) (by kernel_rfl) (fun _ _ _ h => h) (Yields.yieldsIf (Or.inl ⟨by rfl, ?_⟩)) hHeld ?_
  rotate_left
  · intro W
    go_simp
    try with_reducible rfl
  simp only [List.getElem_toArray, List.getElem_cons_succ, List.getElem_cons_zero, Act.put, List.setIfInBounds_toArray, List.set_cons_zero, List.set_cons_succ]
  refine wpAnyH_ready (rs := [19]) (by kernel_rfl) (by simp) ?_
  refine AllReadyH.cons rfl (fun K hK => ?_) AllReadyH.nil
  rw [if_pos (by rfl)]
  unfold Oper.wp
  go_simp
  clear hHeld
  refine hK.out _ _ (by exact inferInstance) (fun hHeld => ?_)
  clear hK K
  try simp only [List.getElem_toArray, List.getElem_cons_succ, List.getElem_cons_zero, Act.put, List.setIfInBounds_toArray, List.set_cons_zero, List.set_cons_succ]
  refine wpAnyH_take (i := 20) (v := ?_) rfl (by kernel_rfl) (by kernel_rfl) (by kernel_rfl) (fun _ _ _ h => h) (Yields.yieldsIf (Or.inl ⟨by rfl, ?_⟩)) hHeld ?_
  rotate_left
  · intro W
    go_simp
    try with_reducible rfl
  simp only [List.getElem_toArray, List.getElem_cons_succ, List.getElem_cons_zero, Act.put, List.setIfInBounds_toArray, List.set_cons_zero, List.set_cons_succ]
  refine wpAnyH_done (by kernel_rfl) ?_ _
  clear hHeld
  go_wp2
  go_ret
  refine ⟨_, _, _, rfl, ⟨at_new w2 (cS4 (a, b, cc, d) (.slice A1 ps.length c1) (.slice A2 xs.length c2) n), X2.out.size, (Tail.of_own HO2.out).ext, own_ext HO12.out, ?_, ?_, HNE.out⟩, Ext.out⟩
  · intro h
    have := own_lt HO2.out _ h
    omega
  · intro h
    have := own_lt HO12.out _ h
    omega
end Go.Proofs.Ytmopdimokoogmaa
