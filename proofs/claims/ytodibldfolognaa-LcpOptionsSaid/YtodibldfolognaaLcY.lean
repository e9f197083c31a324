/-
  tetherlaw11.LcpBack: what a direction has, and can have, is read again as it was: for every input the call answers true. No condition.
-/
import Derived.Test.YtodibldfolognaaLcX
import Derived.Test.YtodibldfolognaaLcK
namespace Go.Proofs.Ytodibldfolognaa
open Go.RowKit
set_option linter.unusedVariables false
set_option linter.unusedSimpArgs false

abbrev oTT (o : OS) : Obj := .cells #[.int .i64 o.mru, .int .i64 o.accm, .int .i64 o.auth, .int .u32 o.magic, .bool o.pfc, .bool o.acfc] 28
set_option maxRecDepth 100000 in
set_option maxHeartbeats 8000000 in
theorem back11_law (o : OS) (hm0 : 0 ≤ o.magic) (hm1 : o.magic < 4294967296) (w : World) :
    Calls Try.prog 6 #[.agg #[.int .i64 o.mru, .int .i64 o.accm, .int .i64 o.auth, .int .u32 o.magic, .bool o.pfc, .bool o.acfc]] w fun e w' => e = .returned (.bool true) ∧ Below w.heap.size w w' := by
  have HRB := Lib.hid (read_back o)
  have HLEN := Lib.hid (optionsF_len o)
  have HOPT : Hid (∀ w : World, Calls Try.prog 28 #[.agg #[.int .i64 o.mru, .int .i64 o.accm, .int .i64 o.auth, .int .u32 o.magic, .bool o.pfc, .bool o.acfc]] w fun e w' => ∃ v us, e = .returned v ∧ OptsOwn w' w.heap.size v us ∧ us.map OV.opt = optionsF o ∧ Below w.heap.size w w') := fun w => loptions_any o hm0 hm1 w
  obtain ⟨os, hos⟩ : ∃ os, optionsF o = os := ⟨_, rfl⟩
  rw [hos] at HRB HLEN HOPT
  clear hos
  have HOW : Hid (∃ o', o' = o) := ⟨o, rfl⟩
  obtain ⟨mru, accm, auth, magic, pfc, acfc⟩ := o
  simp only at hm0 hm1 HOPT
  simp only
  go_enter Try.func6, Try.ntmps6
  have HG0 : Hid ((w.alloc (.cells #[.int .i64 mru, .int .i64 accm, .int .i64 auth, .int .u32 magic, .bool pfc, .bool acfc] 28)).heap[w.heap.size]? = some (.cells #[.int .i64 mru, .int .i64 accm, .int .i64 auth, .int .u32 magic, .bool pfc, .bool acfc] 28 (0, 0))) := at_new w _
  go_wp2_with fail
  refine (given_any mru accm auth magic pfc acfc _).mono ?_
  rintro e w1 ⟨rfl, hb1⟩
  have S1 : Step w1 _ := ⟨hb1⟩
  clear hb1
  go_wp2_with fail
  refine (HOPT.out _).mono ?_
  rintro e w2 ⟨v2, us, rfl, ho2, hu2, hb2⟩
  have S2 : Step w2 _ := ⟨hb2⟩
  obtain ⟨A2, c2, rfl, hnc2⟩ := own_slice ho2.1
  have hul : us.length ≤ 6 := by have h1 := congrArg List.length hu2; rw [List.length_map] at h1; rw [h1]; exact HLEN.out
  have HO2 := Lib.hid ho2
  have HU2 := Lib.hid hu2
  obtain ⟨m, hm⟩ : ∃ m, us.length = m := ⟨_, rfl⟩
  rw [hm] at hnc2 hul ⊢
  have HM := Lib.hid hm
  clear ho2 hu2 hb2 hm
  go_wp2_with fail
  refine (lread_any A2 m c2 us HM.out (by omega) hnc2 _ (by exact own_cells HO2.out.1) (by exact HO2.out.good)).mono ?_
  rintro e w3 ⟨hr3, hb3⟩
  have S3 : Step w3 _ := ⟨hb3⟩
  unfold LReadTells at hr3
  subst hr3
  rw [HU2.out]
  clear hb3
  have q0 : ∀ b, (w3.alloc b).cell? ⟨w.heap.size, 0, none⟩ = some (.int .i64 mru) := fun b => at_cell (at_ext (w' := w3.alloc b) HG0.out) 0
  have q1 : ∀ b, (w3.alloc b).cell? ⟨w.heap.size, 1, none⟩ = some (.int .i64 accm) := fun b => at_cell (at_ext (w' := w3.alloc b) HG0.out) 1
  have q2 : ∀ b, (w3.alloc b).cell? ⟨w.heap.size, 2, none⟩ = some (.int .i64 auth) := fun b => at_cell (at_ext (w' := w3.alloc b) HG0.out) 2
  by_cases h1 : mru < 64
  · skip
    go_wp2_with fail
    refine (known11_any _).mono ?_
    rintro e wz ⟨rfl, hbz⟩
    have Sz : Step wz _ := ⟨hbz⟩
    clear hbz
    go_wp2_with fail
    go_ret
    exact ⟨rfl, Ext.out⟩
  by_cases h2 : 16384 < mru
  · skip
    go_wp2_with fail
    refine (known11_any _).mono ?_
    rintro e wz ⟨rfl, hbz⟩
    have Sz : Step wz _ := ⟨hbz⟩
    clear hbz
    go_wp2_with fail
    go_ret
    exact ⟨rfl, Ext.out⟩
  by_cases h3 : accm < 0
  · skip
    go_wp2_with fail
    refine (known11_any _).mono ?_
    rintro e wz ⟨rfl, hbz⟩
    have Sz : Step wz _ := ⟨hbz⟩
    clear hbz
    go_wp2_with fail
    go_ret
    exact ⟨rfl, Ext.out⟩
  by_cases h4 : 4294967295 < accm
  · skip
    go_wp2_with fail
    refine (known11_any _).mono ?_
    rintro e wz ⟨rfl, hbz⟩
    have Sz : Step wz _ := ⟨hbz⟩
    clear hbz
    go_wp2_with fail
    go_ret
    exact ⟨rfl, Ext.out⟩
  by_cases h5 : auth < 0
  · skip
    go_wp2_with fail
    refine (known11_any _).mono ?_
    rintro e wz ⟨rfl, hbz⟩
    have Sz : Step wz _ := ⟨hbz⟩
    clear hbz
    go_wp2_with fail
    go_ret
    exact ⟨rfl, Ext.out⟩
  by_cases h6 : 3 < auth
  · skip
    go_wp2_with fail
    refine (known11_any _).mono ?_
    rintro e wz ⟨rfl, hbz⟩
    have Sz : Step wz _ := ⟨hbz⟩
    clear hbz
    go_wp2_with fail
    go_ret
    exact ⟨rfl, Ext.out⟩
  rw [HRB.out ⟨by omega, by omega⟩ ⟨by omega, by omega⟩ ⟨by omega, by omega⟩ ⟨hm0, hm1⟩]
  simp only
  have HA3 := Lib.hid (at_new w3 (.cells #[.int .i64 mru, .int .i64 accm, .int .i64 auth, .int .u32 magic, .bool pfc, .bool acfc] 33))
  go_wp2_with fail
  clear q0 q1 q2
  obtain ⟨wq, hwq⟩ : ∃ wq, w3.alloc (.cells #[.int .i64 mru, .int .i64 accm, .int .i64 auth, .int .u32 magic, .bool pfc, .bool acfc] 33) = wq := ⟨_, rfl⟩
  have Sq : Step wq w3 := ⟨by rw [← hwq]; exact Ext.out⟩
  rw [hwq] at HA3 ⊢
  clear hwq
  refine wp_region_held_drew (S := fun W => Ext wq W) (by kernel_rfl) (by exact inferInstance) (fun hHeld => ?_)
  refine wpAnyH_take (i := 0) (v := ?_) rfl (by kernel_rfl) (by kernel_rfl) (by kernel_rfl) (fun _ _ _ h => h) (Yields.yieldsIf (Or.inl ⟨by rfl, ?_⟩)) hHeld ?_
  rotate_left
  · intro W
    go_simp
    try with_reducible rfl
  simp only [List.getElem_toArray, List.getElem_cons_succ, List.getElem_cons_zero, Act.put, List.setIfInBounds_toArray, List.set_cons_zero, List.set_cons_succ]
  refine wpAnyH_take (i := 1) (v := ?_) rfl (by kernel_rfl) (by kernel_rfl) (by kernel_rfl) (fun _ _ _ h => h) (Yields.yieldsIf (Or.inl ⟨by rfl, ?_⟩)) hHeld ?_
  rotate_left
  · intro W
    go_simp
    try with_reducible rfl
  simp only [List.getElem_toArray, List.getElem_cons_succ, List.getElem_cons_zero, Act.put, List.setIfInBounds_toArray, List.set_cons_zero, List.set_cons_succ]
  refine wpAnyH_take (i := 2) (v := ?_) rfl (by kernel_rfl) (by kernel_rfl) (by kernel_rfl) (fun _ _ _ h => h) (Yields.yieldsIf (Or.inl ⟨by rfl, ?_⟩)) hHeld ?_
  rotate_left
  · intro W
    go_simp
    try with_reducible rfl
  simp only [List.getElem_toArray, List.getElem_cons_succ, List.getElem_cons_zero, Act.put, List.setIfInBounds_toArray, List.set_cons_zero, List.set_cons_succ]
  refine wpAnyH_take (i := 3) (v := .agg #[.int .i64 mru, .int .i64 accm, .int .i64 auth, .int .u32 magic, .bool pfc, .bool acfc]) rfl (by kernel_rfl) (by kernel_rfl) (by kernel_rfl) (fun _ _ _ h => h) (yields_row_S (by rfl) 33 (.tmp 3) rfl w3.heap.size rfl 33 #[.int .i64 mru, .int .i64 accm, .int .i64 auth, .int .u32 magic, .bool pfc, .bool acfc] (0, 0) _ Try.underlying33 rfl (by kernel_rfl) (fun W hW => at_ext (h := hW) HA3.out)) hHeld ?_
  simp only [List.getElem_toArray, List.getElem_cons_succ, List.getElem_cons_zero, Act.put, List.setIfInBounds_toArray, List.set_cons_zero, List.set_cons_succ]
  refine wpAnyH_take (i := 5) (v := .agg #[.int .i64 mru, .int .i64 accm, .int .i64 auth, .int .u32 magic, .bool pfc, .bool acfc]) rfl (by kernel_rfl) (by kernel_rfl) (by kernel_rfl) (fun _ _ _ h => h) (yields_row_S (by rfl) 28 (.tmp 1) rfl w.heap.size rfl 28 #[.int .i64 mru, .int .i64 accm, .int .i64 auth, .int .u32 magic, .bool pfc, .bool acfc] (0, 0) _ Try.underlying28 rfl (by kernel_rfl) (fun W hW => at_ext (h := hW) (at_ext (w' := wq) HG0.out))) hHeld ?_
  simp only [List.getElem_toArray, List.getElem_cons_succ, List.getElem_cons_zero, Act.put, List.setIfInBounds_toArray, List.set_cons_zero, List.set_cons_succ]
  refine wpAnyH_ready (rs := [4]) (by kernel_rfl) (by simp) ?_
  refine AllReadyH.cons rfl (fun K hK => ?_) AllReadyH.nil
  refine step_call_w (by rfl) Try.func35 (by kernel_rfl) (by kernel_rfl) #[.tmp 44] #[33] rfl #[.agg #[.int .i64 mru, .int .i64 accm, .int .i64 auth, .int .u32 magic, .bool pfc, .bool acfc]] ?hv (taken_any mru accm auth magic pfc acfc _) ?_
  case hv => go_simp
  rintro e wt ⟨rfl, hbb⟩
  refine ⟨_, rfl, ?_⟩
  have Swt : Step wt _ := ⟨hbb⟩
  clear hbb hHeld
  refine hK.out _ _ (by exact inferInstance) (fun hHeld => ?_)
  clear hK K
  simp only [List.getElem_toArray, List.getElem_cons_succ, List.getElem_cons_zero, Act.put, List.setIfInBounds_toArray, List.set_cons_zero, List.set_cons_succ]
  refine wpAnyH_take (i := 6) (v := ?_) rfl (by kernel_rfl) (by kernel_rfl) (by kernel_rfl) (fun _ _ _ h => h) (Yields.yieldsIf (Or.inl ⟨by rfl, ?_⟩)) hHeld ?_
  rotate_left
  · intro W
    go_simp
    try with_reducible rfl
  simp only [List.getElem_toArray, List.getElem_cons_succ, List.getElem_cons_zero, Act.put, List.setIfInBounds_toArray, List.set_cons_zero, List.set_cons_succ]
  refine wpAnyH_take (i := 7) (v := ?_) rfl (by kernel_rfl) (by kernel_rfl) (by kernel_rfl) (fun _ _ _ h => h) (Yields.yieldsIf (Or.inl ⟨by rfl, ?_⟩)) hHeld ?_
  rotate_left
  · intro W
    go_simp
    try with_reducible rfl
  simp only [List.getElem_toArray, List.getElem_cons_succ, List.getElem_cons_zero, Act.put, List.setIfInBounds_toArray, List.set_cons_zero, List.set_cons_succ]
  refine wpAnyH_take (i := 8) (v := ?_) rfl (by kernel_rfl) (by kernel_rfl) (by kernel_rfl) (fun _ _ _ h => h) (Yields.yieldsIf (Or.inl ⟨by rfl, ?_⟩)) hHeld ?_
  rotate_left
  · intro W
    go_simp
    try with_reducible rfl
  simp only [List.getElem_toArray, List.getElem_cons_succ, List.getElem_cons_zero, Act.put, List.setIfInBounds_toArray, List.set_cons_zero, List.set_cons_succ]
  refine wpAnyH_ready (rs := [9]) (by kernel_rfl) (by simp) ?_
  refine AllReadyH.cons rfl (fun K hK => ?_) AllReadyH.nil
  refine step_call_w (by rfl) Try.func13 (by kernel_rfl) (by kernel_rfl) #[] #[] rfl #[] ?hv (known11_any _) ?_
  case hv => go_simp
  rintro e wk ⟨rfl, hbb⟩
  refine ⟨_, rfl, ?_⟩
  have Swk : Step wk _ := ⟨hbb⟩
  clear hbb hHeld
  refine hK.out _ _ (by exact inferInstance) (fun hHeld => ?_)
  clear hK K
  simp only [List.getElem_toArray, List.getElem_cons_succ, List.getElem_cons_zero, Act.put, List.setIfInBounds_toArray, List.set_cons_zero, List.set_cons_succ]
  refine wpAnyH_take (i := 10) (v := ?_) rfl (by kernel_rfl) (by kernel_rfl) (by kernel_rfl) (fun _ _ _ h => h) (Yields.yieldsIf (Or.inl ⟨by rfl, ?_⟩)) hHeld ?_
  rotate_left
  · intro W
    go_simp
    try with_reducible rfl
  simp only [List.getElem_toArray, List.getElem_cons_succ, List.getElem_cons_zero, Act.put, List.setIfInBounds_toArray, List.set_cons_zero, List.set_cons_succ]
  refine wpAnyH_take (i := 11) (v := ?_) rfl (by kernel_rfl) (by kernel_rfl) (by kernel_rfl) (fun _ _ _ h => h) (Yields.yieldsIf (Or.inl ⟨by rfl, ?_⟩)) hHeld ?_
  rotate_left
  · intro W
    go_simp
    try with_reducible rfl
  simp only [List.getElem_toArray, List.getElem_cons_succ, List.getElem_cons_zero, Act.put, List.setIfInBounds_toArray, List.set_cons_zero, List.set_cons_succ]
  refine wpAnyH_done (by kernel_rfl) ?_ _
  clear hHeld
  go_wp2
  go_ret
  exact ⟨rfl, Ext.out⟩
namespace LcpBack
set_option maxRecDepth 100000 in
theorem walk (U : Nat) (W : World) (vs : List Value) (h : Args U Try.prog W Try.f6.params.toList vs) : Calls Try.prog 6 vs.toArray W fun e W' => e = .returned (.bool true) ∧ Below W.heap.size W W' := by
  rw [Try.params6] at h
  match vs, h with
  | [v0], ⟨h0, _⟩ =>
    obtain ⟨mru, accm, auth, mm, b1, b2, rfl, hm0, hm1, _⟩ := arg_opts11 h0
    exact back11_law ⟨mru, accm, auth, mm, b1, b2⟩ hm0 hm1 W

set_option maxRecDepth 100000 in
theorem lifted (os : Os) (started : os.Started) (H : Type) (enc : TypeId × Value → H) :
    ReturnsInHanded {} Try.checked os 6 .any (Rows.lcpBackSpec.pre6 enc Try.prog Try.f6 Rows.lcpBackRow.domain false) (Rows.lcpBackSpec.post enc Try.prog Try.f6 false true false false) :=
  law_lifted (C := Try.checked) laid_out own_knob started (by kernel_rfl) Try.func6 H enc rfl
    (fun ds hd => by
      have : ds.length = 1 := hd
      match ds, this with
      | [_], _ => exact ⟨rfl, rfl, rfl⟩) rfl Try.underlying4 (by
      have : (Try.f6.params.toList.all fun t => Try.prog.readableRec t && decide (t < Try.prog.types.size)) = true := by kernel_rfl
      intro t ht
      have h := List.all_eq_true.1 this t ht
      rw [Bool.and_eq_true, decide_eq_true_eq] at h
      exact h)
    (ChangeSpec.witness6 (enc := enc) (C := Try.checked) false ⟨#[], #[.agg #[.int .i64 0, .int .i64 0, .int .i64 0, .int .u32 0, .bool false, .bool false]], []⟩ 8 (by kernel_rfl) (by kernel_rfl) (by kernel_rfl) (by kernel_rfl)) walk

theorem over : Rows.lcpBackRow.holds Try.pinned (OpenSpec.ofChange Rows.lcpBackSpec) :=
  OpenClaim.holds_of_wide 6 Try.f6 rfl rfl rfl rfl rfl rfl rfl ⟨rfl, rfl, rfl, rfl, rfl⟩ rfl rfl rfl rfl rfl (by kernel_rfl) Try.func6 (by kernel_rfl)
    (of_decide_eq_true (by kernel_rfl)) (by unfold Func.isWrapper; first | (rw [if_pos (by decide +kernel)]; kernel_rfl) | (rw [if_neg (by decide +kernel)]; exact ⟨rfl, rfl⟩))
    (fun os started H enc _ => lifted os started H enc)

/-- The statement. -/
theorem proved : Rows.LcpBackSaid := over
#print axioms proved
end LcpBack
end Go.Proofs.Ytodibldfolognaa
