/-
  lcp.Options: what one direction has, as options. No condition.
-/
import Derived.Test.YtodibldfolognaaLcR
namespace Go.Proofs.Ytodibldfolognaa
open Go.RowKit
set_option linter.unusedVariables false
set_option linter.unusedSimpArgs false

def w64 (n : Int) : Int := IntKind.u64.wrap n
theorem w64_bd (n : Int) : 0 ≤ w64 n ∧ w64 n < 18446744073709551616 := by unfold w64; rw [IntKind.wrap_u64]; omega
theorem w64_id {n : Int} (h : 0 ≤ n) (h2 : n < 18446744073709551616) : w64 n = n := by unfold w64; rw [IntKind.wrap_u64]; omega
def addF (b : Bool) (t : Int) (d : List Int) : List (Int × List Int) := if b then [(t, d)] else []
def optionsF (o : OS) : List (Int × List Int) :=
  (((((addF (o.mru != 1500) 1 (be (w64 o.mru) 2)) ++ addF (o.accm != 4294967295) 2 (be (w64 o.accm) 4)) ++ addF (decide (authL o.auth ≠ [])) 3 (authL o.auth)) ++ addF (o.magic != 0) 5 (be o.magic 4)) ++ addF o.pfc 7 []) ++ addF o.acfc 8 []
theorem ladd_any (has : Bool) (t : Int) (VA : Option Addr) (vn vc : Nat) (d : List Int) (B : Nat) (wI W : World) (v : Value) (bs : List OV) (hbl : bs.length ≤ 1000) (L : LAt wI B W v bs) (w : World) (e1 : Ext W w)
    (hd : w.ownsRow W.heap.size 5 1 (.slice VA vn vc) vn (nums .u8 d)) (hok : d.length = vn ∧ vn ≤ 140737488355300 ∧ Byt d) :
    Calls Try.prog 92 #[.bool has, .int .i64 t, .slice VA vn vc, .pointer (some ⟨B, 0, none⟩)] w fun e w' => e = .returned (.tuple #[]) ∧ ∃ v2 bs2, LAt wI B w' v2 bs2 ∧ bs2.map OV.opt = bs.map OV.opt ++ addF has t d ∧ bs2.length ≤ bs.length + 1 := by
  rcases has with _ | _
  · refine (ladd_no t VA vn vc B w).mono ?_
    rintro e w' ⟨rfl, rfl⟩
    exact ⟨rfl, v, bs, L.ext, by simp [addF], by omega⟩
  · refine (ladd_yes t VA vn vc d B wI W v bs hbl L w e1 hd hok).mono ?_
    rintro e w' ⟨rfl, v2, h⟩
    exact ⟨rfl, v2, _, h, by simp [addF, OV.opt], by simp⟩
def LW (wI : World) (B : Nat) (W : World) : Prop := ∃ v bs, LAt wI B W v bs
theorem LW.cell {wI W : World} {B : Nat} {p : Addr} {u : Value} (h : LW wI B W) (hp : p.block ≠ B) (k : wI.cell? p = some u) : W.cell? p = some u := by
  obtain ⟨v, bs, L⟩ := h
  exact (World.cell?_of_block (w := wI) (L.block p.block (World.block_lt_of_cell? _ _ k) hp)).trans k
abbrev zOL : Obj := .cells #[.int .i64 0, .int .i64 0, .int .i64 0, .int .u32 0, .bool false, .bool false] 33
set_option maxRecDepth 100000 in
set_option maxHeartbeats 8000000 in
theorem loptions_any (o : OS) (hm0 : 0 ≤ o.magic) (hm1 : o.magic < 4294967296) (w : World) :
    Calls Try.prog 28 #[.agg #[.int .i64 o.mru, .int .i64 o.accm, .int .i64 o.auth, .int .u32 o.magic, .bool o.pfc, .bool o.acfc]] w fun e w' => ∃ v us, e = .returned v ∧ OptsOwn w' w.heap.size v us ∧ us.map OV.opt = optionsF o ∧ Below w.heap.size w w' := by
  obtain ⟨mru, accm, auth, magic, pfc, acfc⟩ := o
  simp only at hm0 hm1
  simp only
  have hmf : ∀ (fn : Fn) (first cap : Array Value) (w : World), (Instr.makeFunc fn first cap).run Try.prog w = .ok (.func fn first cap) w := fun _ _ _ _ => rfl
  have HMG := Lib.hid (show 0 ≤ magic ∧ magic < 18446744073709551616 from by omega)
  go_enter Try.func28, Try.ntmps28
  go_wp2_with fail
  refine (ldefault_any _).mono ?_
  rintro e w1 ⟨rfl, hb1⟩
  have S1 : Step w1 _ := ⟨hb1⟩
  clear hb1
  go_wp2_with fail
  obtain ⟨wI, hwI⟩ : ∃ wI, w1.alloc (.cells #[.int .i64 1500, .int .i64 4294967295, .int .i64 0, .int .u32 0, .bool false, .bool false] 33) = wI := ⟨_, rfl⟩
  have SI : Step wI w1 := ⟨by rw [← hwI]; exact Ext.out⟩
  have HB5 : Hid (wI.heap[w1.heap.size]? = some (.cells #[.int .i64 1500, .int .i64 4294967295, .int .i64 0, .int .u32 0, .bool false, .bool false] 33 (0, 0))) := by unfold Hid; rw [← hwI]; exact at_new w1 _
  have HB1 : Hid (wI.heap[w.heap.size]? = some (.cells #[.int .i64 mru, .int .i64 accm, .int .i64 auth, .int .u32 magic, .bool pfc, .bool acfc] 33 (0, 0))) := at_ext (at_new w _)
  have HB3 : Hid (wI.heap[w.heap.size + 1]? = some (.cells #[.slice none 0 0] 29 (0, 0))) := at_ext (w := (w.alloc (.cells #[.int .i64 mru, .int .i64 accm, .int .i64 auth, .int .u32 magic, .bool pfc, .bool acfc] 33)).alloc (.cells #[.slice none 0 0] 29)) (at_new1 (by simp))
  have HBI : Hid (Below w.heap.size w wI) := Ext.out
  have hne : w1.heap.size ≠ w.heap.size + 1 := by
    have h1 := size_ext (w := (w.alloc (.cells #[.int .i64 mru, .int .i64 accm, .int .i64 auth, .int .u32 magic, .bool pfc, .bool acfc] 33)).alloc (.cells #[.slice none 0 0] 29)) (w' := w1)
    simp at h1
    omega
  have HN5 := Lib.hid hne
  have HL0 : Hid (LAt wI (w.heap.size + 1) wI (.slice none 0 0) []) := LAt.nil_ (at_lt HB3.out) HB3.out
  have HM0 : Hid (([] : List OV).map OV.opt = []) := rfl
  have HC0 : Hid (([] : List OV).length ≤ 0) := Nat.le_refl _
  have HK0 : Hid (wI.cell? ⟨w.heap.size, 0, none⟩ = some (.int .i64 mru)) := at_cell HB1.out 0
  have HK1 : Hid (wI.cell? ⟨w.heap.size, 1, none⟩ = some (.int .i64 accm)) := at_cell HB1.out 1
  have HK2 : Hid (wI.cell? ⟨w.heap.size, 2, none⟩ = some (.int .i64 auth)) := at_cell HB1.out 2
  have HK3 : Hid (wI.cell? ⟨w.heap.size, 3, none⟩ = some (.int .u32 magic)) := at_cell HB1.out 3
  have HK4 : Hid (wI.cell? ⟨w.heap.size, 4, none⟩ = some (.bool pfc)) := at_cell HB1.out 4
  have HK5 : Hid (wI.cell? ⟨w.heap.size, 5, none⟩ = some (.bool acfc)) := at_cell HB1.out 5
  have HD0 : Hid (wI.cell? ⟨w1.heap.size, 0, none⟩ = some (.int .i64 1500)) := at_cell HB5.out 0
  have HD1 : Hid (wI.cell? ⟨w1.heap.size, 1, none⟩ = some (.int .i64 4294967295)) := at_cell HB5.out 1
  rw [hwI]
  clear hwI hne SI S1
  refine wp_region_held_drew (S := LW wI (w.heap.size + 1)) (by kernel_rfl) (by exact ⟨_, _, HL0.out.ext⟩) (fun hHeld => ?_)
  refine wpAnyH_take (i := 0) (v := ?_) rfl (by kernel_rfl) (by kernel_rfl) (by kernel_rfl) (fun _ _ _ h => h) (Yields.yieldsIf (Or.inl ⟨by rfl, ?_⟩)) hHeld ?_
  rotate_left
  · intro W
    go_simp
    try with_reducible rfl
  simp only [List.getElem_toArray, List.getElem_cons_succ, List.getElem_cons_zero, Act.put, List.setIfInBounds_toArray, List.set_cons_zero, List.set_cons_succ]
  refine wpAnyH_take (i := 1) (v := ?_) rfl (by kernel_rfl) (by kernel_rfl) (by kernel_rfl) (fun _ _ _ h => h) (Yields.yieldsIf (Or.inl ⟨by rfl, ?_⟩)) hHeld ?_
  rotate_left
  · intro W
    go_simp
    try with_reducible rfl
  simp only [List.getElem_toArray, List.getElem_cons_succ, List.getElem_cons_zero, Act.put, List.setIfInBounds_toArray, List.set_cons_zero, List.set_cons_succ]
  refine wpAnyH_take (i := 2) (v := ?_) rfl (by kernel_rfl) (by kernel_rfl) (by kernel_rfl) (fun _ _ _ h => h) (Or.inl ⟨by rfl, ?_⟩) hHeld ?_
  rotate_left
  · intro W hW
    have hcl := (hW.cell (by simp) HK0.out)
    go_simp
    try with_reducible rfl
  simp only [List.getElem_toArray, List.getElem_cons_succ, List.getElem_cons_zero, Act.put, List.setIfInBounds_toArray, List.set_cons_zero, List.set_cons_succ]
  refine wpAnyH_take (i := 3) (v := ?_) rfl (by kernel_rfl) (by kernel_rfl) (by kernel_rfl) (fun _ _ _ h => h) (Yields.yieldsIf (Or.inl ⟨by rfl, ?_⟩)) hHeld ?_
  rotate_left
  · intro W
    go_simp
    try with_reducible rfl
  simp only [List.getElem_toArray, List.getElem_cons_succ, List.getElem_cons_zero, Act.put, List.setIfInBounds_toArray, List.set_cons_zero, List.set_cons_succ]
  refine wpAnyH_take (i := 4) (v := ?_) rfl (by kernel_rfl) (by kernel_rfl) (by kernel_rfl) (fun _ _ _ h => h) (Or.inl ⟨by rfl, ?_⟩) hHeld ?_
  rotate_left
  · intro W hW
    have hcl := (hW.cell HN5.out HD0.out)
    go_simp
    try with_reducible rfl
  simp only [List.getElem_toArray, List.getElem_cons_succ, List.getElem_cons_zero, Act.put, List.setIfInBounds_toArray, List.set_cons_zero, List.set_cons_succ]
  refine wpAnyH_take (i := 5) (v := (.bool (mru != 1500))) rfl (by kernel_rfl) (by kernel_rfl) (by kernel_rfl) (fun _ _ _ h => h) (Yields.yieldsIf (Or.inl ⟨by rfl, ?_⟩)) hHeld ?_
  · intro W
    go_simp
  simp only [List.getElem_toArray, List.getElem_cons_succ, List.getElem_cons_zero, Act.put, List.setIfInBounds_toArray, List.set_cons_zero, List.set_cons_succ]
  refine wpAnyH_take (i := 6) (v := ?_) rfl (by kernel_rfl) (by kernel_rfl) (by kernel_rfl) (fun _ _ _ h => h) (Yields.yieldsIf (Or.inl ⟨by rfl, ?_⟩)) hHeld ?_
  rotate_left
  · intro W
    go_simp
    try with_reducible rfl
  simp only [List.getElem_toArray, List.getElem_cons_succ, List.getElem_cons_zero, Act.put, List.setIfInBounds_toArray, List.set_cons_zero, List.set_cons_succ]
  refine wpAnyH_take (i := 7) (v := ?_) rfl (by kernel_rfl) (by kernel_rfl) (by kernel_rfl) (fun _ _ _ h => h) (Or.inl ⟨by rfl, ?_⟩) hHeld ?_
  rotate_left
  · intro W hW
    have hcl := (hW.cell (by simp) HK0.out)
    go_simp
    try with_reducible rfl
  simp only [List.getElem_toArray, List.getElem_cons_succ, List.getElem_cons_zero, Act.put, List.setIfInBounds_toArray, List.set_cons_zero, List.set_cons_succ]
  refine wpAnyH_ready (rs := [8]) (by kernel_rfl) (by simp) ?_
  refine AllReadyH.cons rfl (fun K hK => ?_) AllReadyH.nil
  rw [if_pos (by rfl)]
  unfold Oper.wp
  go_simp
  clear hHeld
  refine hK.out _ _ (by exact ⟨_, _, HL0.out.ext⟩) (fun hHeld => ?_)
  clear hK K
  try simp only [List.getElem_toArray, List.getElem_cons_succ, List.getElem_cons_zero, Act.put, List.setIfInBounds_toArray, List.set_cons_zero, List.set_cons_succ]
  refine wpAnyH_ready (rs := [9]) (by kernel_rfl) (by simp) ?_
  refine AllReadyH.cons rfl (fun K hK => ?_) AllReadyH.nil
  refine step_call_w (by rfl) Try.func83 (by kernel_rfl) (by kernel_rfl) #[.tmp 16, .const (.int .i64 2)] #[23, 3] rfl #[.int .u64 (w64 mru), .int .i64 2] ?hv (lput_any (w64 mru) 2 (by omega) (w64_bd mru).1 (w64_bd mru).2 _) ?_
  case hv => go_simp; try rfl
  rintro e wp ⟨Ap, cp, rfl, hop, hbp⟩
  refine ⟨_, rfl, ?_⟩
  have Sp : Step wp _ := ⟨hbp⟩
  have HOP := Lib.hid hop
  clear hop hbp hHeld
  refine hK.out _ _ (by exact ⟨_, _, HL0.out.ext⟩) (fun hHeld => ?_)
  clear hK K
  simp only [List.getElem_toArray, List.getElem_cons_succ, List.getElem_cons_zero, Act.put, List.setIfInBounds_toArray, List.set_cons_zero, List.set_cons_succ]
  refine wpAnyH_ready (rs := [10]) (by kernel_rfl) (by simp) ?_
  refine AllReadyH.cons rfl (fun K hK => ?_) AllReadyH.nil
  refine step_call_v (by rfl) Try.func92 (by kernel_rfl) (by kernel_rfl) (.tmp 8) #[.tmp 13, .const (.int .i64 1), .tmp 17] #[4, 3, 41] rfl #[.pointer (some ⟨w.heap.size + 1, 0, none⟩)] rfl #[.bool (mru != 1500), .int .i64 1, .slice Ap 2 cp, .pointer (some ⟨w.heap.size + 1, 0, none⟩)] ?hv (ladd_any (mru != 1500) 1 Ap 2 cp (be (w64 mru) 2) (w.heap.size + 1) wI _ _ _ (by have := HC0.out; omega) (HL0.out.ext (w' := wI.drew)) _ (by exact inferInstance) HOP.out ⟨be_length _ _, by omega, be_byt _ _⟩) ?_
  case hv => go_simp; try rfl
  rintro e x1 ⟨rfl, vn, b1, hln, hmn, hbn⟩
  refine ⟨_, rfl, ?_⟩
  have HL1 := Lib.hid hln
  have HM1 : Hid (b1.map OV.opt = _) := hmn.trans (congrArg (· ++ _) HM0.out)
  have HC1 : Hid (b1.length ≤ 1) := by have := HC0.out; unfold Hid; omega
  clear hHeld hln hmn hbn
  refine hK.out _ _ (by exact ⟨_, _, HL1.out⟩) (fun hHeld => ?_)
  clear hK K
  simp only [List.getElem_toArray, List.getElem_cons_succ, List.getElem_cons_zero, Act.put, List.setIfInBounds_toArray, List.set_cons_zero, List.set_cons_succ]
  refine wpAnyH_done (by kernel_rfl) ?_ _
  clear hHeld
  clear HOP Sp HL0 HM0 HC0
  go_wp2_with fail
  refine wp_region_held_drew (S := LW wI (w.heap.size + 1)) (by kernel_rfl) (by exact ⟨_, _, HL1.out.ext⟩) (fun hHeld => ?_)
  refine wpAnyH_take (i := 0) (v := ?_) rfl (by kernel_rfl) (by kernel_rfl) (by kernel_rfl) (fun _ _ _ h => h) (Yields.yieldsIf (Or.inl ⟨by rfl, ?_⟩)) hHeld ?_
  rotate_left
  · intro W
    go_simp
    try with_reducible rfl
  simp only [List.getElem_toArray, List.getElem_cons_succ, List.getElem_cons_zero, Act.put, List.setIfInBounds_toArray, List.set_cons_zero, List.set_cons_succ]
  refine wpAnyH_take (i := 1) (v := ?_) rfl (by kernel_rfl) (by kernel_rfl) (by kernel_rfl) (fun _ _ _ h => h) (Yields.yieldsIf (Or.inl ⟨by rfl, ?_⟩)) hHeld ?_
  rotate_left
  · intro W
    go_simp
    try with_reducible rfl
  simp only [List.getElem_toArray, List.getElem_cons_succ, List.getElem_cons_zero, Act.put, List.setIfInBounds_toArray, List.set_cons_zero, List.set_cons_succ]
  refine wpAnyH_take (i := 2) (v := ?_) rfl (by kernel_rfl) (by kernel_rfl) (by kernel_rfl) (fun _ _ _ h => h) (Or.inl ⟨by rfl, ?_⟩) hHeld ?_
  rotate_left
  · intro W hW
    have hcl := (hW.cell (by simp) HK1.out)
    go_simp
    try with_reducible rfl
  simp only [List.getElem_toArray, List.getElem_cons_succ, List.getElem_cons_zero, Act.put, List.setIfInBounds_toArray, List.set_cons_zero, List.set_cons_succ]
  refine wpAnyH_take (i := 3) (v := ?_) rfl (by kernel_rfl) (by kernel_rfl) (by kernel_rfl) (fun _ _ _ h => h) (Yields.yieldsIf (Or.inl ⟨by rfl, ?_⟩)) hHeld ?_
  rotate_left
  · intro W
    go_simp
    try with_reducible rfl
  simp only [List.getElem_toArray, List.getElem_cons_succ, List.getElem_cons_zero, Act.put, List.setIfInBounds_toArray, List.set_cons_zero, List.set_cons_succ]
  refine wpAnyH_take (i := 4) (v := ?_) rfl (by kernel_rfl) (by kernel_rfl) (by kernel_rfl) (fun _ _ _ h => h) (Or.inl ⟨by rfl, ?_⟩) hHeld ?_
  rotate_left
  · intro W hW
    have hcl := (hW.cell HN5.out HD1.out)
    go_simp
    try with_reducible rfl
  simp only [List.getElem_toArray, List.getElem_cons_succ, List.getElem_cons_zero, Act.put, List.setIfInBounds_toArray, List.set_cons_zero, List.set_cons_succ]
  refine wpAnyH_take (i := 5) (v := (.bool (accm != 4294967295))) rfl (by kernel_rfl) (by kernel_rfl) (by kernel_rfl) (fun _ _ _ h => h) (Yields.yieldsIf (Or.inl ⟨by rfl, ?_⟩)) hHeld ?_
  · intro W
    go_simp
  simp only [List.getElem_toArray, List.getElem_cons_succ, List.getElem_cons_zero, Act.put, List.setIfInBounds_toArray, List.set_cons_zero, List.set_cons_succ]
  refine wpAnyH_take (i := 6) (v := ?_) rfl (by kernel_rfl) (by kernel_rfl) (by kernel_rfl) (fun _ _ _ h => h) (Yields.yieldsIf (Or.inl ⟨by rfl, ?_⟩)) hHeld ?_
  rotate_left
  · intro W
    go_simp
    try with_reducible rfl
  simp only [List.getElem_toArray, List.getElem_cons_succ, List.getElem_cons_zero, Act.put, List.setIfInBounds_toArray, List.set_cons_zero, List.set_cons_succ]
  refine wpAnyH_take (i := 7) (v := ?_) rfl (by kernel_rfl) (by kernel_rfl) (by kernel_rfl) (fun _ _ _ h => h) (Or.inl ⟨by rfl, ?_⟩) hHeld ?_
  rotate_left
  · intro W hW
    have hcl := (hW.cell (by simp) HK1.out)
    go_simp
    try with_reducible rfl
  simp only [List.getElem_toArray, List.getElem_cons_succ, List.getElem_cons_zero, Act.put, List.setIfInBounds_toArray, List.set_cons_zero, List.set_cons_succ]
  refine wpAnyH_ready (rs := [8]) (by kernel_rfl) (by simp) ?_
  refine AllReadyH.cons rfl (fun K hK => ?_) AllReadyH.nil
  rw [if_pos (by rfl)]
  unfold Oper.wp
  go_simp
  clear hHeld
  refine hK.out _ _ (by exact ⟨_, _, HL1.out.ext⟩) (fun hHeld => ?_)
  clear hK K
  try simp only [List.getElem_toArray, List.getElem_cons_succ, List.getElem_cons_zero, Act.put, List.setIfInBounds_toArray, List.set_cons_zero, List.set_cons_succ]
  refine wpAnyH_ready (rs := [9]) (by kernel_rfl) (by simp) ?_
  refine AllReadyH.cons rfl (fun K hK => ?_) AllReadyH.nil
  refine step_call_w (by rfl) Try.func83 (by kernel_rfl) (by kernel_rfl) #[.tmp 27, .const (.int .i64 4)] #[23, 3] rfl #[.int .u64 (w64 accm), .int .i64 4] ?hv (lput_any (w64 accm) 4 (by omega) (w64_bd accm).1 (w64_bd accm).2 _) ?_
  case hv => go_simp; try rfl
  rintro e wp ⟨Ap, cp, rfl, hop, hbp⟩
  refine ⟨_, rfl, ?_⟩
  have Sp : Step wp _ := ⟨hbp⟩
  have HOP := Lib.hid hop
  clear hop hbp hHeld
  refine hK.out _ _ (by exact ⟨_, _, HL1.out.ext⟩) (fun hHeld => ?_)
  clear hK K
  simp only [List.getElem_toArray, List.getElem_cons_succ, List.getElem_cons_zero, Act.put, List.setIfInBounds_toArray, List.set_cons_zero, List.set_cons_succ]
  refine wpAnyH_ready (rs := [10]) (by kernel_rfl) (by simp) ?_
  refine AllReadyH.cons rfl (fun K hK => ?_) AllReadyH.nil
  refine step_call_v (by rfl) Try.func92 (by kernel_rfl) (by kernel_rfl) (.tmp 19) #[.tmp 24, .const (.int .i64 2), .tmp 28] #[4, 3, 41] rfl #[.pointer (some ⟨w.heap.size + 1, 0, none⟩)] rfl #[.bool (accm != 4294967295), .int .i64 2, .slice Ap 4 cp, .pointer (some ⟨w.heap.size + 1, 0, none⟩)] ?hv (ladd_any (accm != 4294967295) 2 Ap 4 cp (be (w64 accm) 4) (w.heap.size + 1) wI _ _ _ (by have := HC1.out; omega) (HL1.out.ext (w' := x1.drew)) _ (by exact inferInstance) HOP.out ⟨be_length _ _, by omega, be_byt _ _⟩) ?_
  case hv => go_simp; try rfl
  rintro e x2 ⟨rfl, vn, b2, hln, hmn, hbn⟩
  refine ⟨_, rfl, ?_⟩
  have HL2 := Lib.hid hln
  have HM2 : Hid (b2.map OV.opt = _) := hmn.trans (congrArg (· ++ _) HM1.out)
  have HC2 : Hid (b2.length ≤ 2) := by have := HC1.out; unfold Hid; omega
  clear hHeld hln hmn hbn
  refine hK.out _ _ (by exact ⟨_, _, HL2.out⟩) (fun hHeld => ?_)
  clear hK K
  simp only [List.getElem_toArray, List.getElem_cons_succ, List.getElem_cons_zero, Act.put, List.setIfInBounds_toArray, List.set_cons_zero, List.set_cons_succ]
  refine wpAnyH_done (by kernel_rfl) ?_ _
  clear hHeld
  clear HOP Sp HL1 HM1 HC1
  by_cases hN : authL auth = []
  · have HAL := Lib.hid hN
    clear hN
    go_wp2_with fail
    refine wp_region_held_drew (S := LW wI (w.heap.size + 1)) (by kernel_rfl) (by exact ⟨_, _, HL2.out.ext⟩) (fun hHeld => ?_)
    refine wpAnyH_take (i := 0) (v := ?_) rfl (by kernel_rfl) (by kernel_rfl) (by kernel_rfl) (fun _ _ _ h => h) (Yields.yieldsIf (Or.inl ⟨by rfl, ?_⟩)) hHeld ?_
    rotate_left
    · intro W
      go_simp
      try with_reducible rfl
    simp only [List.getElem_toArray, List.getElem_cons_succ, List.getElem_cons_zero, Act.put, List.setIfInBounds_toArray, List.set_cons_zero, List.set_cons_succ]
    refine wpAnyH_take (i := 1) (v := ?_) rfl (by kernel_rfl) (by kernel_rfl) (by kernel_rfl) (fun _ _ _ h => h) (Yields.yieldsIf (Or.inl ⟨by rfl, ?_⟩)) hHeld ?_
    rotate_left
    · intro W
      go_simp
      try with_reducible rfl
    simp only [List.getElem_toArray, List.getElem_cons_succ, List.getElem_cons_zero, Act.put, List.setIfInBounds_toArray, List.set_cons_zero, List.set_cons_succ]
    refine wpAnyH_take (i := 2) (v := ?_) rfl (by kernel_rfl) (by kernel_rfl) (by kernel_rfl) (fun _ _ _ h => h) (Or.inl ⟨by rfl, ?_⟩) hHeld ?_
    rotate_left
    · intro W hW
      have hcl := (hW.cell (by simp) HK2.out)
      go_simp
      try with_reducible rfl
    simp only [List.getElem_toArray, List.getElem_cons_succ, List.getElem_cons_zero, Act.put, List.setIfInBounds_toArray, List.set_cons_zero, List.set_cons_succ]
    refine wpAnyH_take (i := 5) (v := ?_) rfl (by kernel_rfl) (by kernel_rfl) (by kernel_rfl) (fun _ _ _ h => h) (Yields.yieldsIf (Or.inl ⟨by rfl, ?_⟩)) hHeld ?_
    rotate_left
    · intro W
      go_simp
      try with_reducible rfl
    simp only [List.getElem_toArray, List.getElem_cons_succ, List.getElem_cons_zero, Act.put, List.setIfInBounds_toArray, List.set_cons_zero, List.set_cons_succ]
    refine wpAnyH_take (i := 6) (v := ?_) rfl (by kernel_rfl) (by kernel_rfl) (by kernel_rfl) (fun _ _ _ h => h) (Or.inl ⟨by rfl, ?_⟩) hHeld ?_
    rotate_left
    · intro W hW
      have hcl := (hW.cell (by simp) HK2.out)
      go_simp
      try with_reducible rfl
    simp only [List.getElem_toArray, List.getElem_cons_succ, List.getElem_cons_zero, Act.put, List.setIfInBounds_toArray, List.set_cons_zero, List.set_cons_succ]
    refine wpAnyH_ready (rs := [3]) (by kernel_rfl) (by simp) ?_
    refine AllReadyH.cons rfl (fun K hK => ?_) AllReadyH.nil
    refine step_call_w (by rfl) Try.func34 (by kernel_rfl) (by kernel_rfl) #[.tmp 32] #[3] rfl #[.int .i64 auth] ?hv (lauth_nil auth HAL.out _) ?_
    case hv => go_simp; try rfl
    rintro e wp ⟨rfl, rfl⟩
    refine ⟨_, rfl, ?_⟩
    clear hHeld
    refine hK.out _ _ (by exact ⟨_, _, HL2.out.ext⟩) (fun hHeld => ?_)
    clear hK K
    simp only [List.getElem_toArray, List.getElem_cons_succ, List.getElem_cons_zero, Act.put, List.setIfInBounds_toArray, List.set_cons_zero, List.set_cons_succ]
    refine wpAnyH_take (i := 4) (v := (.bool false)) rfl (by kernel_rfl) (by kernel_rfl) (by kernel_rfl) (fun _ _ _ h => h) (Yields.yieldsIf (Or.inl ⟨by rfl, ?_⟩)) hHeld ?_
    · intro W
      go_simp
    simp only [List.getElem_toArray, List.getElem_cons_succ, List.getElem_cons_zero, Act.put, List.setIfInBounds_toArray, List.set_cons_zero, List.set_cons_succ]
    refine wpAnyH_ready (rs := [7]) (by kernel_rfl) (by simp) ?_
    refine AllReadyH.cons rfl (fun K hK => ?_) AllReadyH.nil
    refine step_call_w (by rfl) Try.func34 (by kernel_rfl) (by kernel_rfl) #[.tmp 36] #[3] rfl #[.int .i64 auth] ?hv (lauth_nil auth HAL.out _) ?_
    case hv => go_simp; try rfl
    rintro e wp ⟨rfl, rfl⟩
    refine ⟨_, rfl, ?_⟩
    clear hHeld
    refine hK.out _ _ (by exact ⟨_, _, HL2.out.ext⟩) (fun hHeld => ?_)
    clear hK K
    simp only [List.getElem_toArray, List.getElem_cons_succ, List.getElem_cons_zero, Act.put, List.setIfInBounds_toArray, List.set_cons_zero, List.set_cons_succ]
    refine wpAnyH_ready (rs := [8]) (by kernel_rfl) (by simp) ?_
    refine AllReadyH.cons rfl (fun K hK => ?_) AllReadyH.nil
    refine step_call_v (by rfl) Try.func92 (by kernel_rfl) (by kernel_rfl) (.tmp 30) #[.tmp 34, .const (.int .i64 3), .tmp 37] #[4, 3, 41] rfl #[.pointer (some ⟨w.heap.size + 1, 0, none⟩)] rfl #[.bool false, .int .i64 3, .slice none 0 0, .pointer (some ⟨w.heap.size + 1, 0, none⟩)] ?hv (ladd_any false 3 none 0 0 [] (w.heap.size + 1) wI _ _ _ (by have := HC2.out; omega) (HL2.out.ext (w' := x2.drew)) _ (by exact inferInstance) (own_nil _ _ _ _) ⟨rfl, by omega, (by intro x hx; cases hx)⟩) ?_
    case hv => go_simp; try rfl
    rintro e x3 ⟨rfl, vn, b3, hln, hmn, hbn⟩
    refine ⟨_, rfl, ?_⟩
    have HL3 := Lib.hid hln
    have HM3 : Hid (b3.map OV.opt = _) := hmn.trans (congrArg (· ++ _) HM2.out)
    have HC3 : Hid (b3.length ≤ 3) := by have := HC2.out; unfold Hid; omega
    clear hHeld hln hmn hbn
    refine hK.out _ _ (by exact ⟨_, _, HL3.out⟩) (fun hHeld => ?_)
    clear hK K
    simp only [List.getElem_toArray, List.getElem_cons_succ, List.getElem_cons_zero, Act.put, List.setIfInBounds_toArray, List.set_cons_zero, List.set_cons_succ]
    refine wpAnyH_done (by kernel_rfl) ?_ _
    clear hHeld
    have HY3 := Lib.hid (HM3.out.trans (congrArg (_ ++ ·) (show addF false 3 [] = addF (decide (authL auth ≠ [])) 3 (authL auth) from by rw [HAL.out]; rfl)))
    clear HM3 HL2 HM2 HC2 HAL
    go_wp2_with fail
    refine wp_region_held_drew (S := LW wI (w.heap.size + 1)) (by kernel_rfl) (by exact ⟨_, _, HL3.out.ext⟩) (fun hHeld => ?_)
    refine wpAnyH_take (i := 0) (v := ?_) rfl (by kernel_rfl) (by kernel_rfl) (by kernel_rfl) (fun _ _ _ h => h) (Yields.yieldsIf (Or.inl ⟨by rfl, ?_⟩)) hHeld ?_
    rotate_left
    · intro W
      go_simp
      try with_reducible rfl
    simp only [List.getElem_toArray, List.getElem_cons_succ, List.getElem_cons_zero, Act.put, List.setIfInBounds_toArray, List.set_cons_zero, List.set_cons_succ]
    refine wpAnyH_take (i := 1) (v := ?_) rfl (by kernel_rfl) (by kernel_rfl) (by kernel_rfl) (fun _ _ _ h => h) (Yields.yieldsIf (Or.inl ⟨by rfl, ?_⟩)) hHeld ?_
    rotate_left
    · intro W
      go_simp
      try with_reducible rfl
    simp only [List.getElem_toArray, List.getElem_cons_succ, List.getElem_cons_zero, Act.put, List.setIfInBounds_toArray, List.set_cons_zero, List.set_cons_succ]
    refine wpAnyH_take (i := 2) (v := ?_) rfl (by kernel_rfl) (by kernel_rfl) (by kernel_rfl) (fun _ _ _ h => h) (Or.inl ⟨by rfl, ?_⟩) hHeld ?_
    rotate_left
    · intro W hW
      have hcl := (hW.cell (by simp) HK3.out)
      go_simp
      try with_reducible rfl
    simp only [List.getElem_toArray, List.getElem_cons_succ, List.getElem_cons_zero, Act.put, List.setIfInBounds_toArray, List.set_cons_zero, List.set_cons_succ]
    refine wpAnyH_take (i := 3) (v := (.bool (magic != 0))) rfl (by kernel_rfl) (by kernel_rfl) (by kernel_rfl) (fun _ _ _ h => h) (Yields.yieldsIf (Or.inl ⟨by rfl, ?_⟩)) hHeld ?_
    · intro W
      go_simp
    simp only [List.getElem_toArray, List.getElem_cons_succ, List.getElem_cons_zero, Act.put, List.setIfInBounds_toArray, List.set_cons_zero, List.set_cons_succ]
    refine wpAnyH_take (i := 4) (v := ?_) rfl (by kernel_rfl) (by kernel_rfl) (by kernel_rfl) (fun _ _ _ h => h) (Yields.yieldsIf (Or.inl ⟨by rfl, ?_⟩)) hHeld ?_
    rotate_left
    · intro W
      go_simp
      try with_reducible rfl
    simp only [List.getElem_toArray, List.getElem_cons_succ, List.getElem_cons_zero, Act.put, List.setIfInBounds_toArray, List.set_cons_zero, List.set_cons_succ]
    refine wpAnyH_take (i := 5) (v := ?_) rfl (by kernel_rfl) (by kernel_rfl) (by kernel_rfl) (fun _ _ _ h => h) (Or.inl ⟨by rfl, ?_⟩) hHeld ?_
    rotate_left
    · intro W hW
      have hcl := (hW.cell (by simp) HK3.out)
      go_simp
      try with_reducible rfl
    simp only [List.getElem_toArray, List.getElem_cons_succ, List.getElem_cons_zero, Act.put, List.setIfInBounds_toArray, List.set_cons_zero, List.set_cons_succ]
    refine wpAnyH_ready (rs := [6]) (by kernel_rfl) (by simp) ?_
    refine AllReadyH.cons rfl (fun K hK => ?_) AllReadyH.nil
    rw [if_pos (by rfl)]
    unfold Oper.wp
    go_simp
    clear hHeld
    refine hK.out _ _ (by exact ⟨_, _, HL3.out.ext⟩) (fun hHeld => ?_)
    clear hK K
    try simp only [List.getElem_toArray, List.getElem_cons_succ, List.getElem_cons_zero, Act.put, List.setIfInBounds_toArray, List.set_cons_zero, List.set_cons_succ]
    refine wpAnyH_ready (rs := [7]) (by kernel_rfl) (by simp) ?_
    refine AllReadyH.cons rfl (fun K hK => ?_) AllReadyH.nil
    refine step_call_w (by rfl) Try.func83 (by kernel_rfl) (by kernel_rfl) #[.tmp 45, .const (.int .i64 4)] #[23, 3] rfl #[.int .u64 (w64 magic), .int .i64 4] ?hv (lput_any (w64 magic) 4 (by omega) (w64_bd magic).1 (w64_bd magic).2 _) ?_
    case hv => go_simp; try rfl
    rintro e wp ⟨Ap, cp, rfl, hop, hbp⟩
    refine ⟨_, rfl, ?_⟩
    have Sp : Step wp _ := ⟨hbp⟩
    have HOP := Lib.hid hop
    clear hop hbp hHeld
    refine hK.out _ _ (by exact ⟨_, _, HL3.out.ext⟩) (fun hHeld => ?_)
    clear hK K
    simp only [List.getElem_toArray, List.getElem_cons_succ, List.getElem_cons_zero, Act.put, List.setIfInBounds_toArray, List.set_cons_zero, List.set_cons_succ]
    refine wpAnyH_ready (rs := [8]) (by kernel_rfl) (by simp) ?_
    refine AllReadyH.cons rfl (fun K hK => ?_) AllReadyH.nil
    refine step_call_v (by rfl) Try.func92 (by kernel_rfl) (by kernel_rfl) (.tmp 39) #[.tmp 42, .const (.int .i64 5), .tmp 46] #[4, 3, 41] rfl #[.pointer (some ⟨w.heap.size + 1, 0, none⟩)] rfl #[.bool (magic != 0), .int .i64 5, .slice Ap 4 cp, .pointer (some ⟨w.heap.size + 1, 0, none⟩)] ?hv (ladd_any (magic != 0) 5 Ap 4 cp (be (w64 magic) 4) (w.heap.size + 1) wI _ _ _ (by have := HC3.out; omega) (HL3.out.ext (w' := x3.drew)) _ (by exact inferInstance) HOP.out ⟨be_length _ _, by omega, be_byt _ _⟩) ?_
    case hv => go_simp; try rfl
    rintro e x4 ⟨rfl, vn, b4, hln, hmn, hbn⟩
    refine ⟨_, rfl, ?_⟩
    have HL4 := Lib.hid hln
    rw [w64_id HMG.out.1 HMG.out.2] at hmn
    have HM4 : Hid (b4.map OV.opt = _) := hmn.trans (congrArg (· ++ _) HY3.out)
    have HC4 : Hid (b4.length ≤ 4) := by have := HC3.out; unfold Hid; omega
    clear hHeld hln hmn hbn HY3
    refine hK.out _ _ (by exact ⟨_, _, HL4.out⟩) (fun hHeld => ?_)
    clear hK K
    simp only [List.getElem_toArray, List.getElem_cons_succ, List.getElem_cons_zero, Act.put, List.setIfInBounds_toArray, List.set_cons_zero, List.set_cons_succ]
    refine wpAnyH_done (by kernel_rfl) ?_ _
    clear hHeld
    clear HOP Sp HL3 HC3
    have p4 : x4.cell? ⟨w.heap.size, 4, none⟩ = some (.bool pfc) := LW.cell ⟨_, _, HL4.out⟩ (by simp) HK4.out
    go_wp2_with fail
    clear p4
    refine (ladd_any pfc 7 none 0 0 [] (w.heap.size + 1) wI _ _ _ (by have := HC4.out; omega) HL4.out _ (by exact inferInstance) (own_nil _ _ _ _) ⟨rfl, by omega, (by intro x hx; cases hx)⟩).mono ?_
    rintro e x5 ⟨rfl, vn, b5, hln, hmn, hbn⟩
    have HL5 := Lib.hid hln
    have HM5 : Hid (b5.map OV.opt = _) := hmn.trans (congrArg (· ++ _) HM4.out)
    have HC5 : Hid (b5.length ≤ 5) := by have := HC4.out; unfold Hid; omega
    clear hln hmn hbn HM4
    have p5 : x5.cell? ⟨w.heap.size, 5, none⟩ = some (.bool acfc) := LW.cell ⟨_, _, HL5.out⟩ (by simp) HK5.out
    go_wp2_with fail
    clear p5
    refine (ladd_any acfc 8 none 0 0 [] (w.heap.size + 1) wI _ _ _ (by have := HC5.out; omega) HL5.out _ (by exact inferInstance) (own_nil _ _ _ _) ⟨rfl, by omega, (by intro x hx; cases hx)⟩).mono ?_
    rintro e x6 ⟨rfl, vn, b6, hln, hmn, hbn⟩
    have HL6 := Lib.hid hln
    have HM6 : Hid (b6.map OV.opt = _) := hmn.trans (congrArg (· ++ _) HM5.out)
    clear hln hmn hbn HM5
    obtain ⟨A6, c6, rfl, _⟩ := own_slice HL6.out.own.1
    have p6 : x6.cell? ⟨w.heap.size + 1, 0, none⟩ = some (.slice A6 b6.length c6) := at_cell HL6.out.cell 0
    go_wp2
    go_ret
    exact ⟨_, b6, rfl, HL6.out.own.weaken HBI.out.size, HM6.out, HL6.out.below HBI.out (Nat.le_succ _)⟩
  · have hpos : 0 < (authL auth).length := List.length_pos_iff.2 hN
    have HAL := Lib.hid hN
    have HPOS := Lib.hid hpos
    clear hN hpos
    go_wp2_with fail
    refine wp_region_held_drew (S := LW wI (w.heap.size + 1)) (by kernel_rfl) (by exact ⟨_, _, HL2.out.ext⟩) (fun hHeld => ?_)
    refine wpAnyH_take (i := 0) (v := ?_) rfl (by kernel_rfl) (by kernel_rfl) (by kernel_rfl) (fun _ _ _ h => h) (Yields.yieldsIf (Or.inl ⟨by rfl, ?_⟩)) hHeld ?_
    rotate_left
    · intro W
      go_simp
      try with_reducible rfl
    simp only [List.getElem_toArray, List.getElem_cons_succ, List.getElem_cons_zero, Act.put, List.setIfInBounds_toArray, List.set_cons_zero, List.set_cons_succ]
    refine wpAnyH_take (i := 1) (v := ?_) rfl (by kernel_rfl) (by kernel_rfl) (by kernel_rfl) (fun _ _ _ h => h) (Yields.yieldsIf (Or.inl ⟨by rfl, ?_⟩)) hHeld ?_
    rotate_left
    · intro W
      go_simp
      try with_reducible rfl
    simp only [List.getElem_toArray, List.getElem_cons_succ, List.getElem_cons_zero, Act.put, List.setIfInBounds_toArray, List.set_cons_zero, List.set_cons_succ]
    refine wpAnyH_take (i := 2) (v := ?_) rfl (by kernel_rfl) (by kernel_rfl) (by kernel_rfl) (fun _ _ _ h => h) (Or.inl ⟨by rfl, ?_⟩) hHeld ?_
    rotate_left
    · intro W hW
      have hcl := (hW.cell (by simp) HK2.out)
      go_simp
      try with_reducible rfl
    simp only [List.getElem_toArray, List.getElem_cons_succ, List.getElem_cons_zero, Act.put, List.setIfInBounds_toArray, List.set_cons_zero, List.set_cons_succ]
    refine wpAnyH_take (i := 5) (v := ?_) rfl (by kernel_rfl) (by kernel_rfl) (by kernel_rfl) (fun _ _ _ h => h) (Yields.yieldsIf (Or.inl ⟨by rfl, ?_⟩)) hHeld ?_
    rotate_left
    · intro W
      go_simp
      try with_reducible rfl
    simp only [List.getElem_toArray, List.getElem_cons_succ, List.getElem_cons_zero, Act.put, List.setIfInBounds_toArray, List.set_cons_zero, List.set_cons_succ]
    refine wpAnyH_take (i := 6) (v := ?_) rfl (by kernel_rfl) (by kernel_rfl) (by kernel_rfl) (fun _ _ _ h => h) (Or.inl ⟨by rfl, ?_⟩) hHeld ?_
    rotate_left
    · intro W hW
      have hcl := (hW.cell (by simp) HK2.out)
      go_simp
      try with_reducible rfl
    simp only [List.getElem_toArray, List.getElem_cons_succ, List.getElem_cons_zero, Act.put, List.setIfInBounds_toArray, List.set_cons_zero, List.set_cons_succ]
    refine wpAnyH_ready (rs := [3]) (by kernel_rfl) (by simp) ?_
    refine AllReadyH.cons rfl (fun K hK => ?_) AllReadyH.nil
    refine step_call_w (by rfl) Try.func34 (by kernel_rfl) (by kernel_rfl) #[.tmp 32] #[3] rfl #[.int .i64 auth] ?hv (lauth_any auth _) ?_
    case hv => go_simp; try rfl
    rintro e xa ⟨va, rfl, hoa, hba⟩
    refine ⟨_, rfl, ?_⟩
    obtain ⟨ga, ca, rfl, _⟩ := own_form hoa HPOS.out
    have HOA := Lib.hid hoa
    have Saxa : Step xa _ := ⟨hba⟩
    clear hHeld hba hoa
    refine hK.out _ _ (by exact ⟨_, _, HL2.out.ext⟩) (fun hHeld => ?_)
    clear hK K
    simp only [List.getElem_toArray, List.getElem_cons_succ, List.getElem_cons_zero, Act.put, List.setIfInBounds_toArray, List.set_cons_zero, List.set_cons_succ]
    refine wpAnyH_take (i := 4) (v := (.bool true)) rfl (by kernel_rfl) (by kernel_rfl) (by kernel_rfl) (fun _ _ _ h => h) (Yields.yieldsIf (Or.inl ⟨by rfl, ?_⟩)) hHeld ?_
    · intro W
      go_simp
    simp only [List.getElem_toArray, List.getElem_cons_succ, List.getElem_cons_zero, Act.put, List.setIfInBounds_toArray, List.set_cons_zero, List.set_cons_succ]
    refine wpAnyH_ready (rs := [7]) (by kernel_rfl) (by simp) ?_
    refine AllReadyH.cons rfl (fun K hK => ?_) AllReadyH.nil
    refine step_call_w (by rfl) Try.func34 (by kernel_rfl) (by kernel_rfl) #[.tmp 36] #[3] rfl #[.int .i64 auth] ?hv (lauth_any auth _) ?_
    case hv => go_simp; try rfl
    rintro e xb ⟨va, rfl, hoa, hba⟩
    refine ⟨_, rfl, ?_⟩
    obtain ⟨gb, cb, rfl, _⟩ := own_form hoa HPOS.out
    have HOB := Lib.hid hoa
    have Saxb : Step xb _ := ⟨hba⟩
    clear hHeld hba hoa
    refine hK.out _ _ (by exact ⟨_, _, HL2.out.ext⟩) (fun hHeld => ?_)
    clear hK K
    simp only [List.getElem_toArray, List.getElem_cons_succ, List.getElem_cons_zero, Act.put, List.setIfInBounds_toArray, List.set_cons_zero, List.set_cons_succ]
    refine wpAnyH_ready (rs := [8]) (by kernel_rfl) (by simp) ?_
    refine AllReadyH.cons rfl (fun K hK => ?_) AllReadyH.nil
    refine step_call_v (by rfl) Try.func92 (by kernel_rfl) (by kernel_rfl) (.tmp 30) #[.tmp 34, .const (.int .i64 3), .tmp 37] #[4, 3, 41] rfl #[.pointer (some ⟨w.heap.size + 1, 0, none⟩)] rfl #[.bool true, .int .i64 3, .slice (some ⟨gb, 0, none⟩) (authL auth).length cb, .pointer (some ⟨w.heap.size + 1, 0, none⟩)] ?hv (ladd_any true 3 (some ⟨gb, 0, none⟩) (authL auth).length cb (authL auth) (w.heap.size + 1) wI _ _ _ (by have := HC2.out; omega) (HL2.out.ext (w' := xa)) _ (by exact inferInstance) HOB.out ⟨rfl, by have := authL_len auth; omega, authL_byt auth⟩) ?_
    case hv => go_simp; try rfl
    rintro e x3 ⟨rfl, vn, b3, hln, hmn, hbn⟩
    refine ⟨_, rfl, ?_⟩
    have HL3 := Lib.hid hln
    have HM3 : Hid (b3.map OV.opt = _) := hmn.trans (congrArg (· ++ _) HM2.out)
    have HC3 : Hid (b3.length ≤ 3) := by have := HC2.out; unfold Hid; omega
    clear hHeld hln hmn hbn
    refine hK.out _ _ (by exact ⟨_, _, HL3.out⟩) (fun hHeld => ?_)
    clear hK K
    simp only [List.getElem_toArray, List.getElem_cons_succ, List.getElem_cons_zero, Act.put, List.setIfInBounds_toArray, List.set_cons_zero, List.set_cons_succ]
    refine wpAnyH_done (by kernel_rfl) ?_ _
    clear hHeld
    have HY3 := Lib.hid (HM3.out.trans (congrArg (_ ++ ·) (show addF true 3 (authL auth) = addF (decide (authL auth ≠ [])) 3 (authL auth) from by rw [decide_eq_true HAL.out])))
    clear HM3 HL2 HM2 HC2 HAL HOA HOB HPOS
    go_wp2_with fail
    refine wp_region_held_drew (S := LW wI (w.heap.size + 1)) (by kernel_rfl) (by exact ⟨_, _, HL3.out.ext⟩) (fun hHeld => ?_)
    refine wpAnyH_take (i := 0) (v := ?_) rfl (by kernel_rfl) (by kernel_rfl) (by kernel_rfl) (fun _ _ _ h => h) (Yields.yieldsIf (Or.inl ⟨by rfl, ?_⟩)) hHeld ?_
    rotate_left
    · intro W
      go_simp
      try with_reducible rfl
    simp only [List.getElem_toArray, List.getElem_cons_succ, List.getElem_cons_zero, Act.put, List.setIfInBounds_toArray, List.set_cons_zero, List.set_cons_succ]
    refine wpAnyH_take (i := 1) (v := ?_) rfl (by kernel_rfl) (by kernel_rfl) (by kernel_rfl) (fun _ _ _ h => h) (Yields.yieldsIf (Or.inl ⟨by rfl, ?_⟩)) hHeld ?_
    rotate_left
    · intro W
      go_simp
      try with_reducible rfl
    simp only [List.getElem_toArray, List.getElem_cons_succ, List.getElem_cons_zero, Act.put, List.setIfInBounds_toArray, List.set_cons_zero, List.set_cons_succ]
    refine wpAnyH_take (i := 2) (v := ?_) rfl (by kernel_rfl) (by kernel_rfl) (by kernel_rfl) (fun _ _ _ h => h) (Or.inl ⟨by rfl, ?_⟩) hHeld ?_
    rotate_left
    · intro W hW
      have hcl := (hW.cell (by simp) HK3.out)
      go_simp
      try with_reducible rfl
    simp only [List.getElem_toArray, List.getElem_cons_succ, List.getElem_cons_zero, Act.put, List.setIfInBounds_toArray, List.set_cons_zero, List.set_cons_succ]
    refine wpAnyH_take (i := 3) (v := (.bool (magic != 0))) rfl (by kernel_rfl) (by kernel_rfl) (by kernel_rfl) (fun _ _ _ h => h) (Yields.yieldsIf (Or.inl ⟨by rfl, ?_⟩)) hHeld ?_
    · intro W
      go_simp
    simp only [List.getElem_toArray, List.getElem_cons_succ, List.getElem_cons_zero, Act.put, List.setIfInBounds_toArray, List.set_cons_zero, List.set_cons_succ]
    refine wpAnyH_take (i := 4) (v := ?_) rfl (by kernel_rfl) (by kernel_rfl) (by kernel_rfl) (fun _ _ _ h => h) (Yields.yieldsIf (Or.inl ⟨by rfl, ?_⟩)) hHeld ?_
    rotate_left
    · intro W
      go_simp
      try with_reducible rfl
    simp only [List.getElem_toArray, List.getElem_cons_succ, List.getElem_cons_zero, Act.put, List.setIfInBounds_toArray, List.set_cons_zero, List.set_cons_succ]
    refine wpAnyH_take (i := 5) (v := ?_) rfl (by kernel_rfl) (by kernel_rfl) (by kernel_rfl) (fun _ _ _ h => h) (Or.inl ⟨by rfl, ?_⟩) hHeld ?_
    rotate_left
    · intro W hW
      have hcl := (hW.cell (by simp) HK3.out)
      go_simp
      try with_reducible rfl
    simp only [List.getElem_toArray, List.getElem_cons_succ, List.getElem_cons_zero, Act.put, List.setIfInBounds_toArray, List.set_cons_zero, List.set_cons_succ]
    refine wpAnyH_ready (rs := [6]) (by kernel_rfl) (by simp) ?_
    refine AllReadyH.cons rfl (fun K hK => ?_) AllReadyH.nil
    rw [if_pos (by rfl)]
    unfold Oper.wp
    go_simp
    clear hHeld
    refine hK.out _ _ (by exact ⟨_, _, HL3.out.ext⟩) (fun hHeld => ?_)
    clear hK K
    try simp only [List.getElem_toArray, List.getElem_cons_succ, List.getElem_cons_zero, Act.put, List.setIfInBounds_toArray, List.set_cons_zero, List.set_cons_succ]
    refine wpAnyH_ready (rs := [7]) (by kernel_rfl) (by simp) ?_
    refine AllReadyH.cons rfl (fun K hK => ?_) AllReadyH.nil
    refine step_call_w (by rfl) Try.func83 (by kernel_rfl) (by kernel_rfl) #[.tmp 45, .const (.int .i64 4)] #[23, 3] rfl #[.int .u64 (w64 magic), .int .i64 4] ?hv (lput_any (w64 magic) 4 (by omega) (w64_bd magic).1 (w64_bd magic).2 _) ?_
    case hv => go_simp; try rfl
    rintro e wp ⟨Ap, cp, rfl, hop, hbp⟩
    refine ⟨_, rfl, ?_⟩
    have Sp : Step wp _ := ⟨hbp⟩
    have HOP := Lib.hid hop
    clear hop hbp hHeld
    refine hK.out _ _ (by exact ⟨_, _, HL3.out.ext⟩) (fun hHeld => ?_)
    clear hK K
    simp only [List.getElem_toArray, List.getElem_cons_succ, List.getElem_cons_zero, Act.put, List.setIfInBounds_toArray, List.set_cons_zero, List.set_cons_succ]
    refine wpAnyH_ready (rs := [8]) (by kernel_rfl) (by simp) ?_
    refine AllReadyH.cons rfl (fun K hK => ?_) AllReadyH.nil
    refine step_call_v (by rfl) Try.func92 (by kernel_rfl) (by kernel_rfl) (.tmp 39) #[.tmp 42, .const (.int .i64 5), .tmp 46] #[4, 3, 41] rfl #[.pointer (some ⟨w.heap.size + 1, 0, none⟩)] rfl #[.bool (magic != 0), .int .i64 5, .slice Ap 4 cp, .pointer (some ⟨w.heap.size + 1, 0, none⟩)] ?hv (ladd_any (magic != 0) 5 Ap 4 cp (be (w64 magic) 4) (w.heap.size + 1) wI _ _ _ (by have := HC3.out; omega) (HL3.out.ext (w' := x3.drew)) _ (by exact inferInstance) HOP.out ⟨be_length _ _, by omega, be_byt _ _⟩) ?_
    case hv => go_simp; try rfl
    rintro e x4 ⟨rfl, vn, b4, hln, hmn, hbn⟩
    refine ⟨_, rfl, ?_⟩
    have HL4 := Lib.hid hln
    rw [w64_id HMG.out.1 HMG.out.2] at hmn
    have HM4 : Hid (b4.map OV.opt = _) := hmn.trans (congrArg (· ++ _) HY3.out)
    have HC4 : Hid (b4.length ≤ 4) := by have := HC3.out; unfold Hid; omega
    clear hHeld hln hmn hbn HY3
    refine hK.out _ _ (by exact ⟨_, _, HL4.out⟩) (fun hHeld => ?_)
    clear hK K
    simp only [List.getElem_toArray, List.getElem_cons_succ, List.getElem_cons_zero, Act.put, List.setIfInBounds_toArray, List.set_cons_zero, List.set_cons_succ]
    refine wpAnyH_done (by kernel_rfl) ?_ _
    clear hHeld
    clear HOP Sp HL3 HC3
    have p4 : x4.cell? ⟨w.heap.size, 4, none⟩ = some (.bool pfc) := LW.cell ⟨_, _, HL4.out⟩ (by simp) HK4.out
    go_wp2_with fail
    clear p4
    refine (ladd_any pfc 7 none 0 0 [] (w.heap.size + 1) wI _ _ _ (by have := HC4.out; omega) HL4.out _ (by exact inferInstance) (own_nil _ _ _ _) ⟨rfl, by omega, (by intro x hx; cases hx)⟩).mono ?_
    rintro e x5 ⟨rfl, vn, b5, hln, hmn, hbn⟩
    have HL5 := Lib.hid hln
    have HM5 : Hid (b5.map OV.opt = _) := hmn.trans (congrArg (· ++ _) HM4.out)
    have HC5 : Hid (b5.length ≤ 5) := by have := HC4.out; unfold Hid; omega
    clear hln hmn hbn HM4
    have p5 : x5.cell? ⟨w.heap.size, 5, none⟩ = some (.bool acfc) := LW.cell ⟨_, _, HL5.out⟩ (by simp) HK5.out
    go_wp2_with fail
    clear p5
    refine (ladd_any acfc 8 none 0 0 [] (w.heap.size + 1) wI _ _ _ (by have := HC5.out; omega) HL5.out _ (by exact inferInstance) (own_nil _ _ _ _) ⟨rfl, by omega, (by intro x hx; cases hx)⟩).mono ?_
    rintro e x6 ⟨rfl, vn, b6, hln, hmn, hbn⟩
    have HL6 := Lib.hid hln
    have HM6 : Hid (b6.map OV.opt = _) := hmn.trans (congrArg (· ++ _) HM5.out)
    clear hln hmn hbn HM5
    obtain ⟨A6, c6, rfl, _⟩ := own_slice HL6.out.own.1
    have p6 : x6.cell? ⟨w.heap.size + 1, 0, none⟩ = some (.slice A6 b6.length c6) := at_cell HL6.out.cell 0
    go_wp2
    go_ret
    exact ⟨_, b6, rfl, HL6.out.own.weaken HBI.out.size, HM6.out, HL6.out.below HBI.out (Nat.le_succ _)⟩
end Go.Proofs.Ytodibldfolognaa
