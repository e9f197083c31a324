/-
  tetherlaw11.LcpOptions: what a direction has is written as options, and read, as the document says: for every input the call answers true. No condition.
-/
import Derived.Test.YtodibldfolognaaLcY
namespace Go.Proofs.Ytodibldfolognaa
open Go.RowKit
set_option linter.unusedVariables false
set_option linter.unusedSimpArgs false

theorem sameB_self (os : List (Int × List Int)) : sameB os os = true := by simp [sameB]
set_option maxRecDepth 100000 in
set_option maxHeartbeats 8000000 in
theorem options11_law (o : OS) (hm0 : 0 ≤ o.magic) (hm1 : o.magic < 4294967296) (A B : Option Addr) (n c bn bc : Nat) (vs : List OV) (method : Int) (ys : List Int) (hn : vs.length = n) (hn' : n ≤ 4398046511104) (hnc : n ≤ c) (hb : ys.length = bn) (hb' : bn ≤ 140737488351232) (hbb : Byt ys)
    (w : World) (hx : Cells w A (flat vs)) (gx : Good w vs) (hy : Cells w B (nums .u8 ys)) :
    Calls Try.prog 5 #[.agg #[.int .i64 o.mru, .int .i64 o.accm, .int .i64 o.auth, .int .u32 o.magic, .bool o.pfc, .bool o.acfc], .slice A n c, .int .i64 method, .slice B bn bc] w fun e w' => e = .returned (.bool true) ∧ Below w.heap.size w w' := by
  have Hn := Lib.hid hn
  have HX := Lib.hid hx
  have GX := Lib.hid gx
  have HBN := Lib.hid hb
  have HY := Lib.hid hy
  have HBY := Lib.hid hbb
  have HLEN := Lib.hid (optionsF_len o)
  have HOPT : Hid (∀ w : World, Calls Try.prog 28 #[.agg #[.int .i64 o.mru, .int .i64 o.accm, .int .i64 o.auth, .int .u32 o.magic, .bool o.pfc, .bool o.acfc]] w fun e w' => ∃ v us, e = .returned v ∧ OptsOwn w' w.heap.size v us ∧ us.map OV.opt = optionsF o ∧ Below w.heap.size w w') := fun w => loptions_any o hm0 hm1 w
  have HRPT : Hid (∀ w : World, Calls Try.prog 30 #[.agg #[.int .i64 o.mru, .int .i64 o.accm, .int .i64 o.auth, .int .u32 o.magic, .bool o.pfc, .bool o.acfc]] w fun e w' => ∃ v us, e = .returned v ∧ OptsOwn w' w.heap.size v us ∧ us.map OV.opt = optionsF o ∧ Below w.heap.size w w') := fun w => roptions_any o hm0 hm1 w
  obtain ⟨os, hos⟩ : ∃ os, optionsF o = os := ⟨_, rfl⟩
  rw [hos] at HLEN HOPT HRPT
  clear hos hn hx gx hb hy hbb
  obtain ⟨mru, accm, auth, magic, pfc, acfc⟩ := o
  simp only at hm0 hm1 HOPT HRPT
  simp only
  by_cases h300 : 300 < n
  · go_enter Try.func5, Try.ntmps5
    go_wp2_with fail
    refine (known11_any _).mono ?_
    rintro e wz ⟨rfl, hbz⟩
    have Sz : Step wz _ := ⟨hbz⟩
    clear hbz
    go_wp2_with fail
    go_ret
    exact ⟨rfl, Ext.out⟩
  go_enter Try.func5, Try.ntmps5
  have HG0 : Hid ((w.alloc (.cells #[.int .i64 mru, .int .i64 accm, .int .i64 auth, .int .u32 magic, .bool pfc, .bool acfc] 28)).heap[w.heap.size]? = some (.cells #[.int .i64 mru, .int .i64 accm, .int .i64 auth, .int .u32 magic, .bool pfc, .bool acfc] 28 (0, 0))) := at_new w _
  go_wp2_with fail
  refine (given_any mru accm auth magic pfc acfc _).mono ?_
  rintro e w1 ⟨rfl, hb1⟩
  have S1 : Step w1 _ := ⟨hb1⟩
  clear hb1
  go_wp2_with fail
  refine (HOPT.out _).mono ?_
  rintro e w2 ⟨v2, us, rfl, ho2, hu2, hb2⟩
  have S2 : Step w2 _ := ⟨hb2⟩
  obtain ⟨A2, c2, rfl, hnc2⟩ := own_slice ho2.1
  have hul : us.length ≤ 6 := by have h1 := congrArg List.length hu2; rw [List.length_map] at h1; rw [h1]; exact HLEN.out
  have HO2 := Lib.hid ho2
  have HU2 := Lib.hid hu2
  clear ho2 hu2 hb2
  go_wp2_with
    (first
     | (refine wpList_load_row rfl 28 (.tmp 4) rfl w.heap.size rfl 28 #[.int .i64 mru, .int .i64 accm, .int .i64 auth, .int .u32 magic, .bool pfc, .bool acfc] (0, 0) _ (at_ext HG0.out) Try.underlying28 rfl (by kernel_rfl) ?_))
  refine (HRPT.out _).mono ?_
  rintro e w3 ⟨v3, ks, rfl, ho3, hu3, hb3⟩
  have S3 : Step w3 _ := ⟨hb3⟩
  obtain ⟨A3, c3, rfl, hnc3⟩ := own_slice ho3.1
  have hkl : ks.length ≤ 6 := by have h1 := congrArg List.length hu3; rw [List.length_map] at h1; rw [h1]; exact HLEN.out
  have HO3 := Lib.hid ho3
  have HU3 := Lib.hid hu3
  clear ho3 hu3 hb3
  go_wp2_with fail
  refine (same9_any A2 A3 us.length ks.length c2 c3 us ks rfl rfl (by omega) (by omega) _ (by exact (own_cells HO2.out.1).ext) (by exact (own_cells HO3.out.1).ext) (by exact HO2.out.good.ext) (by exact HO3.out.good.ext)).mono ?_
  rintro e w4 ⟨rfl, hb4⟩
  rw [HU2.out, HU3.out, sameB_self]
  have S4 : Step w4 _ := ⟨hb4⟩
  clear hb4
  go_wp2_with fail
  refine (spoil9_any A2 us.length c2 w1.heap.size us _ rfl (by omega) (by exact size_ext) (by exact HO2.out.ext)).mono ?_
  rintro e w5 ⟨rfl, hb5⟩
  have hb5' : Below w1.heap.size w1 w5 := (inferInstance : Ext w1 w4).out.trans hb5
  clear S4 S3 S2 HO3 HU3 HO2 HU2 hb5
  have S5 : Step w5 w1 := ⟨hb5'⟩
  clear hb5'
  go_wp2_with fail
  refine (lent9_any A n c vs Hn.out hn' _ (by exact HX.out.ext) (by exact GX.out.ext)).mono ?_
  rintro e w6 ⟨v6, ls, rfl, ho6, hu6, hb6⟩
  have S6 : Step w6 _ := ⟨hb6⟩
  obtain ⟨A6, c6, rfl, hnc6⟩ := own_slice ho6.1
  have hll : ls.length = n := by have h1 := congrArg List.length hu6; rw [List.length_map, List.length_map, Hn.out] at h1; exact h1
  have HO6 := Lib.hid ho6
  have HU6 := Lib.hid hu6
  rw [hll] at hnc6 ⊢
  have HL6 := Lib.hid hll
  have C6 : Hid (Cells w6 A6 (flat ls)) := own_cells HO6.out.1
  have G6 : Hid (Good w6 ls) := HO6.out.good
  clear ho6 hu6 hb6 hll HO6
  go_wp2_with fail
  refine (lread_any A6 n c6 ls HL6.out hn' hnc6 _ (by exact C6.out.ext) (by exact G6.out.ext)).mono ?_
  rintro e w7 ⟨hr7, hb7⟩
  have S7 : Step w7 _ := ⟨hb7⟩
  unfold LReadTells at hr7
  subst hr7
  rw [HU6.out]
  clear hb7
  obtain ⟨R, hR⟩ : ∃ R, readF (vs.map OV.opt) = R := ⟨_, rfl⟩
  have HRD := Lib.hid hR
  rw [hR]
  clear hR
  obtain ⟨⟨r0, r1, r2, r3, r4, r5⟩, re⟩ := R
  simp only
  have HA7 := Lib.hid (at_new w7 (.cells #[.int .i64 r0, .int .i64 r1, .int .i64 r2, .int .u32 r3, .bool r4, .bool r5] 33))
  go_wp2_with fail
  refine (rread_any A n c vs Hn.out hn' _ (by exact HX.out.ext) (by exact GX.out.ext)).mono ?_
  rintro e w8 ⟨hr8, hb8⟩
  have S8 : Step w8 _ := ⟨hb8⟩
  unfold ReadTells at hr8
  subst hr8
  rw [HRD.out]
  clear hb8
  simp only
  have HA8 := Lib.hid (at_new w8 (.cells #[.int .i64 r0, .int .i64 r1, .int .i64 r2, .int .u32 r3, .bool r4, .bool r5] 28))
  go_wp2_with fail
  obtain ⟨wa, hwa⟩ : ∃ wa, w8.alloc (.cells #[.int .i64 r0, .int .i64 r1, .int .i64 r2, .int .u32 r3, .bool r4, .bool r5] 28) = wa := ⟨_, rfl⟩
  have Sa : Step wa w8 := ⟨by rw [← hwa]; exact Ext.out⟩
  rw [hwa] at HA8 ⊢
  clear hwa
  refine (lauth_any method _).mono ?_
  rintro e w9 ⟨v9, rfl, ho9, hb9⟩
  have S9 : Step w9 _ := ⟨hb9⟩
  obtain ⟨A9, c9, rfl, hnc9⟩ := own_slice ho9
  have HO9 := Lib.hid ho9
  have hal := authL_len method
  obtain ⟨am, ham⟩ : ∃ am, authL method = am := ⟨_, rfl⟩
  have HAM := Lib.hid ham
  rw [ham] at HO9 hnc9 hal ⊢
  clear ho9 hb9 ham
  go_wp2_with fail
  refine wp_region_held_drew (S := fun W => Ext w9 W) (by kernel_rfl) (by exact inferInstance) (fun hHeld => ?_)
  refine wpAnyH_take (i := 0) (v := .agg #[.int .i64 r0, .int .i64 r1, .int .i64 r2, .int .u32 r3, .bool r4, .bool r5]) rfl (by kernel_rfl) (by kernel_rfl) (by kernel_rfl) (fun _ _ _ h => h) (yields_row_S (by rfl) 33 (.tmp 11) rfl w7.heap.size rfl 33 #[.int .i64 r0, .int .i64 r1, .int .i64 r2, .int .u32 r3, .bool r4, .bool r5] (0, 0) _ Try.underlying33 rfl (by kernel_rfl) (fun W hW => at_ext (h := hW) (at_ext (w' := w9) HA7.out))) hHeld ?_
  simp only [List.getElem_toArray, List.getElem_cons_succ, List.getElem_cons_zero, Act.put, List.setIfInBounds_toArray, List.set_cons_zero, List.set_cons_succ]
  refine wpAnyH_take (i := 2) (v := .agg #[.int .i64 r0, .int .i64 r1, .int .i64 r2, .int .u32 r3, .bool r4, .bool r5]) rfl (by kernel_rfl) (by kernel_rfl) (by kernel_rfl) (fun _ _ _ h => h) (yields_row_S (by rfl) 28 (.tmp 13) rfl w8.heap.size rfl 28 #[.int .i64 r0, .int .i64 r1, .int .i64 r2, .int .u32 r3, .bool r4, .bool r5] (0, 0) _ Try.underlying28 rfl (by kernel_rfl) (fun W hW => at_ext (h := hW) (at_ext (w' := w9) HA8.out))) hHeld ?_
  simp only [List.getElem_toArray, List.getElem_cons_succ, List.getElem_cons_zero, Act.put, List.setIfInBounds_toArray, List.set_cons_zero, List.set_cons_succ]
  refine wpAnyH_ready (rs := [1]) (by kernel_rfl) (by simp) ?_
  refine AllReadyH.cons rfl (fun K hK => ?_) AllReadyH.nil
  refine step_call_w (by rfl) Try.func35 (by kernel_rfl) (by kernel_rfl) #[.tmp 44] #[33] rfl #[.agg #[.int .i64 r0, .int .i64 r1, .int .i64 r2, .int .u32 r3, .bool r4, .bool r5]] ?hv (taken_any r0 r1 r2 r3 r4 r5 _) ?_
  case hv => go_simp
  rintro e wb ⟨rfl, hbb⟩
  refine ⟨_, rfl, ?_⟩
  have Sb : Step wb _ := ⟨hbb⟩; clear hbb
  clear hHeld
  refine hK.out _ _ (by exact inferInstance) (fun hHeld => ?_)
  clear hK K
  simp only [List.getElem_toArray, List.getElem_cons_succ, List.getElem_cons_zero, Act.put, List.setIfInBounds_toArray, List.set_cons_zero, List.set_cons_succ]
  refine wpAnyH_take (i := 3) (v := ?_) rfl (by kernel_rfl) (by kernel_rfl) (by kernel_rfl) (fun _ _ _ h => h) (Yields.yieldsIf (Or.inl ⟨by rfl, ?_⟩)) hHeld ?_
  rotate_left
  · intro W
    go_simp
    try with_reducible rfl
  simp only [List.getElem_toArray, List.getElem_cons_succ, List.getElem_cons_zero, Act.put, List.setIfInBounds_toArray, List.set_cons_zero, List.set_cons_succ]
  refine wpAnyH_take (i := 4) (v := ?_) rfl (by kernel_rfl) (by kernel_rfl) (by kernel_rfl) (fun _ _ _ h => h) (Yields.yieldsIf (Or.inl ⟨by rfl, ?_⟩)) hHeld ?_
  rotate_left
  · intro W
    go_simp
    try with_reducible rfl
  simp only [List.getElem_toArray, List.getElem_cons_succ, List.getElem_cons_zero, Act.put, List.setIfInBounds_toArray, List.set_cons_zero, List.set_cons_succ]
  refine wpAnyH_take (i := 5) (v := ?_) rfl (by kernel_rfl) (by kernel_rfl) (by kernel_rfl) (fun _ _ _ h => h) (Yields.yieldsIf (Or.inl ⟨by rfl, ?_⟩)) hHeld ?_
  rotate_left
  · intro W
    go_simp
    try with_reducible rfl
  simp only [List.getElem_toArray, List.getElem_cons_succ, List.getElem_cons_zero, Act.put, List.setIfInBounds_toArray, List.set_cons_zero, List.set_cons_succ]
  refine wpAnyH_take (i := 6) (v := ?_) rfl (by kernel_rfl) (by kernel_rfl) (by kernel_rfl) (fun _ _ _ h => h) (Yields.yieldsIf (Or.inl ⟨by rfl, ?_⟩)) hHeld ?_
  rotate_left
  · intro W
    go_simp
    try with_reducible rfl
  simp only [List.getElem_toArray, List.getElem_cons_succ, List.getElem_cons_zero, Act.put, List.setIfInBounds_toArray, List.set_cons_zero, List.set_cons_succ]
  refine wpAnyH_take (i := 7) (v := ?_) rfl (by kernel_rfl) (by kernel_rfl) (by kernel_rfl) (fun _ _ _ h => h) (Yields.yieldsIf (Or.inl ⟨by rfl, ?_⟩)) hHeld ?_
  rotate_left
  · intro W
    go_simp
    try with_reducible rfl
  simp only [List.getElem_toArray, List.getElem_cons_succ, List.getElem_cons_zero, Act.put, List.setIfInBounds_toArray, List.set_cons_zero, List.set_cons_succ]
  refine wpAnyH_take (i := 8) (v := ?_) rfl (by kernel_rfl) (by kernel_rfl) (by kernel_rfl) (fun _ _ _ h => h) (Yields.yieldsIf (Or.inl ⟨by rfl, ?_⟩)) hHeld ?_
  rotate_left
  · intro W
    go_simp
    try with_reducible rfl
  simp only [List.getElem_toArray, List.getElem_cons_succ, List.getElem_cons_zero, Act.put, List.setIfInBounds_toArray, List.set_cons_zero, List.set_cons_succ]
  refine wpAnyH_take (i := 9) (v := ?_) rfl (by kernel_rfl) (by kernel_rfl) (by kernel_rfl) (fun _ _ _ h => h) (Yields.yieldsIf (Or.inl ⟨by rfl, ?_⟩)) hHeld ?_
  rotate_left
  · intro W
    go_simp
    try with_reducible rfl
  simp only [List.getElem_toArray, List.getElem_cons_succ, List.getElem_cons_zero, Act.put, List.setIfInBounds_toArray, List.set_cons_zero, List.set_cons_succ]
  refine wpAnyH_take (i := 10) (v := ?_) rfl (by kernel_rfl) (by kernel_rfl) (by kernel_rfl) (fun _ _ _ h => h) (Yields.yieldsIf (Or.inl ⟨by rfl, ?_⟩)) hHeld ?_
  rotate_left
  · intro W
    go_simp
    try with_reducible rfl
  simp only [List.getElem_toArray, List.getElem_cons_succ, List.getElem_cons_zero, Act.put, List.setIfInBounds_toArray, List.set_cons_zero, List.set_cons_succ]
  refine wpAnyH_take (i := 11) (v := ?_) rfl (by kernel_rfl) (by kernel_rfl) (by kernel_rfl) (fun _ _ _ h => h) (Yields.yieldsIf (Or.inl ⟨by rfl, ?_⟩)) hHeld ?_
  rotate_left
  · intro W
    go_simp
    try with_reducible rfl
  simp only [List.getElem_toArray, List.getElem_cons_succ, List.getElem_cons_zero, Act.put, List.setIfInBounds_toArray, List.set_cons_zero, List.set_cons_succ]
  refine wpAnyH_ready (rs := [12]) (by kernel_rfl) (by simp) ?_
  refine AllReadyH.cons rfl (fun K hK => ?_) AllReadyH.nil
  refine step_call_w (by rfl) Try.func29 (by kernel_rfl) (by kernel_rfl) #[.tmp 54, .tmp 55] #[29, 29] rfl #[.slice A6 n c6, .slice A n c] ?hv (same9_any A6 A n n c6 c ls vs HL6.out Hn.out (by omega) (by omega) _ C6.out.ext HX.out.ext G6.out.ext GX.out.ext) ?_
  case hv => go_simp
  rintro e wc ⟨rfl, hbb⟩
  refine ⟨_, rfl, ?_⟩
  rw [HU6.out, sameB_self]; have Sc : Step wc _ := ⟨hbb⟩; clear hbb
  clear hHeld
  refine hK.out _ _ (by exact inferInstance) (fun hHeld => ?_)
  clear hK K
  simp only [List.getElem_toArray, List.getElem_cons_succ, List.getElem_cons_zero, Act.put, List.setIfInBounds_toArray, List.set_cons_zero, List.set_cons_succ]
  refine wpAnyH_take (i := 13) (v := ?_) rfl (by kernel_rfl) (by kernel_rfl) (by kernel_rfl) (fun _ _ _ h => h) (Yields.yieldsIf (Or.inl ⟨by rfl, ?_⟩)) hHeld ?_
  rotate_left
  · intro W
    go_simp
    try with_reducible rfl
  simp only [List.getElem_toArray, List.getElem_cons_succ, List.getElem_cons_zero, Act.put, List.setIfInBounds_toArray, List.set_cons_zero, List.set_cons_succ]
  refine wpAnyH_take (i := 14) (v := ?_) rfl (by kernel_rfl) (by kernel_rfl) (by kernel_rfl) (fun _ _ _ h => h) (Yields.yieldsIf (Or.inl ⟨by rfl, ?_⟩)) hHeld ?_
  rotate_left
  · intro W
    go_simp
    try with_reducible rfl
  simp only [List.getElem_toArray, List.getElem_cons_succ, List.getElem_cons_zero, Act.put, List.setIfInBounds_toArray, List.set_cons_zero, List.set_cons_succ]
  refine wpAnyH_take (i := 15) (v := ?_) rfl (by kernel_rfl) (by kernel_rfl) (by kernel_rfl) (fun _ _ _ h => h) (Yields.yieldsIf (Or.inl ⟨by rfl, ?_⟩)) hHeld ?_
  rotate_left
  · intro W
    go_simp
    try with_reducible rfl
  simp only [List.getElem_toArray, List.getElem_cons_succ, List.getElem_cons_zero, Act.put, List.setIfInBounds_toArray, List.set_cons_zero, List.set_cons_succ]
  refine wpAnyH_take (i := 16) (v := ?_) rfl (by kernel_rfl) (by kernel_rfl) (by kernel_rfl) (fun _ _ _ h => h) (Yields.yieldsIf (Or.inl ⟨by rfl, ?_⟩)) hHeld ?_
  rotate_left
  · intro W
    go_simp
    try with_reducible rfl
  simp only [List.getElem_toArray, List.getElem_cons_succ, List.getElem_cons_zero, Act.put, List.setIfInBounds_toArray, List.set_cons_zero, List.set_cons_succ]
  refine wpAnyH_take (i := 17) (v := ?_) rfl (by kernel_rfl) (by kernel_rfl) (by kernel_rfl) (fun _ _ _ h => h) (Yields.yieldsIf (Or.inl ⟨by rfl, ?_⟩)) hHeld ?_
  rotate_left
  · intro W
    go_simp
    try with_reducible rfl
  simp only [List.getElem_toArray, List.getElem_cons_succ, List.getElem_cons_zero, Act.put, List.setIfInBounds_toArray, List.set_cons_zero, List.set_cons_succ]
  refine wpAnyH_ready (rs := [18]) (by kernel_rfl) (by simp) ?_
  refine AllReadyH.cons rfl (fun K hK => ?_) AllReadyH.nil
  refine step_call_w (by rfl) Try.func37 (by kernel_rfl) (by kernel_rfl) #[.tmp 61] #[3] rfl #[.int .i64 method] ?hv (rauth_any method _) ?_
  case hv => go_simp
  rintro e wd ⟨vd, rfl, hod, hbd⟩
  refine ⟨_, rfl, ?_⟩
  have Sd : Step wd _ := ⟨hbd⟩; rw [HAM.out] at hod; obtain ⟨Ad, cd, rfl, _⟩ := own_slice hod; have HOD := Lib.hid hod; clear hbd hod
  clear hHeld
  refine hK.out _ _ (by exact inferInstance) (fun hHeld => ?_)
  clear hK K
  simp only [List.getElem_toArray, List.getElem_cons_succ, List.getElem_cons_zero, Act.put, List.setIfInBounds_toArray, List.set_cons_zero, List.set_cons_succ]
  refine wpAnyH_ready (rs := [19]) (by kernel_rfl) (by simp) ?_
  refine AllReadyH.cons rfl (fun K hK => ?_) AllReadyH.nil
  refine step_call_w (by rfl) Try.func36 (by kernel_rfl) (by kernel_rfl) #[.tmp 60, .tmp 62] #[41, 41] rfl #[.slice A9 am.length c9, .slice Ad am.length cd] ?hv (same_any A9 Ad am.length am.length c9 cd am am rfl rfl (by omega) (by omega) _ (own_cells (own_ext HO9.out)) (own_cells HOD.out)) ?_
  case hv => go_simp
  rintro e we ⟨rfl, hbe⟩
  refine ⟨_, rfl, ?_⟩
  rw [decide_eq_true rfl]; have Se : Step we _ := Step.drawn hbe; clear hbe
  clear hHeld
  refine hK.out _ _ (by exact inferInstance) (fun hHeld => ?_)
  clear hK K
  simp only [List.getElem_toArray, List.getElem_cons_succ, List.getElem_cons_zero, Act.put, List.setIfInBounds_toArray, List.set_cons_zero, List.set_cons_succ]
  refine wpAnyH_take (i := 20) (v := ?_) rfl (by kernel_rfl) (by kernel_rfl) (by kernel_rfl) (fun _ _ _ h => h) (Yields.yieldsIf (Or.inl ⟨by rfl, ?_⟩)) hHeld ?_
  rotate_left
  · intro W
    go_simp
    try with_reducible rfl
  simp only [List.getElem_toArray, List.getElem_cons_succ, List.getElem_cons_zero, Act.put, List.setIfInBounds_toArray, List.set_cons_zero, List.set_cons_succ]
  refine wpAnyH_take (i := 21) (v := ?_) rfl (by kernel_rfl) (by kernel_rfl) (by kernel_rfl) (fun _ _ _ h => h) (Yields.yieldsIf (Or.inl ⟨by rfl, ?_⟩)) hHeld ?_
  rotate_left
  · intro W
    go_simp
    try with_reducible rfl
  simp only [List.getElem_toArray, List.getElem_cons_succ, List.getElem_cons_zero, Act.put, List.setIfInBounds_toArray, List.set_cons_zero, List.set_cons_succ]
  refine wpAnyH_take (i := 22) (v := ?_) rfl (by kernel_rfl) (by kernel_rfl) (by kernel_rfl) (fun _ _ _ h => h) (Yields.yieldsIf (Or.inl ⟨by rfl, ?_⟩)) hHeld ?_
  rotate_left
  · intro W
    go_simp
    try with_reducible rfl
  simp only [List.getElem_toArray, List.getElem_cons_succ, List.getElem_cons_zero, Act.put, List.setIfInBounds_toArray, List.set_cons_zero, List.set_cons_succ]
  refine wpAnyH_take (i := 23) (v := ?_) rfl (by kernel_rfl) (by kernel_rfl) (by kernel_rfl) (fun _ _ _ h => h) (Yields.yieldsIf (Or.inl ⟨by rfl, ?_⟩)) hHeld ?_
  rotate_left
  · intro W
    go_simp
    try with_reducible rfl
  simp only [List.getElem_toArray, List.getElem_cons_succ, List.getElem_cons_zero, Act.put, List.setIfInBounds_toArray, List.set_cons_zero, List.set_cons_succ]
  refine wpAnyH_take (i := 25) (v := ?_) rfl (by kernel_rfl) (by kernel_rfl) (by kernel_rfl) (fun _ _ _ h => h) (Yields.yieldsIf (Or.inl ⟨by rfl, ?_⟩)) hHeld ?_
  rotate_left
  · intro W
    go_simp
    try with_reducible rfl
  simp only [List.getElem_toArray, List.getElem_cons_succ, List.getElem_cons_zero, Act.put, List.setIfInBounds_toArray, List.set_cons_zero, List.set_cons_succ]
  refine wpAnyH_ready (rs := [24]) (by kernel_rfl) (by simp) ?_
  refine AllReadyH.cons rfl (fun K hK => ?_) AllReadyH.nil
  refine step_call_w (by rfl) Try.func38 (by kernel_rfl) (by kernel_rfl) #[.tmp 67] #[41] rfl #[.slice B bn bc] ?hv (lmethod_any B bn bc ys HBN.out (by omega) _ HY.out.ext) ?_
  case hv => go_simp
  rintro e wf ⟨rfl, hbf⟩
  refine ⟨_, rfl, ?_⟩
  have Sf : Step wf _ := ⟨hbf⟩; clear hbf
  clear hHeld
  refine hK.out _ _ (by exact inferInstance) (fun hHeld => ?_)
  clear hK K
  simp only [List.getElem_toArray, List.getElem_cons_succ, List.getElem_cons_zero, Act.put, List.setIfInBounds_toArray, List.set_cons_zero, List.set_cons_succ]
  refine wpAnyH_ready (rs := [26]) (by kernel_rfl) (by simp) ?_
  refine AllReadyH.cons rfl (fun K hK => ?_) AllReadyH.nil
  refine step_call_w (by rfl) Try.func39 (by kernel_rfl) (by kernel_rfl) #[.tmp 69] #[41] rfl #[.slice B bn bc] ?hv (rmethod_any B bn bc ys HBN.out HBY.out _ HY.out.ext) ?_
  case hv => go_simp
  rintro e wg ⟨rfl, hbg⟩
  refine ⟨_, rfl, ?_⟩
  have Sg : Step wg _ := ⟨hbg⟩; clear hbg
  clear hHeld
  refine hK.out _ _ (by exact inferInstance) (fun hHeld => ?_)
  clear hK K
  simp only [List.getElem_toArray, List.getElem_cons_succ, List.getElem_cons_zero, Act.put, List.setIfInBounds_toArray, List.set_cons_zero, List.set_cons_succ]
  generalize methF ys = M at *
  refine wpAnyH_take (i := 27) (v := ?_) rfl (by kernel_rfl) (by kernel_rfl) (by kernel_rfl) (fun _ _ _ h => h) (Yields.yieldsIf (Or.inl ⟨by rfl, ?_⟩)) hHeld ?_
  rotate_left
  · intro W
    go_simp
    try with_reducible rfl
  simp only [List.getElem_toArray, List.getElem_cons_succ, List.getElem_cons_zero, Act.put, List.setIfInBounds_toArray, List.set_cons_zero, List.set_cons_succ]
  refine wpAnyH_take (i := 28) (v := ?_) rfl (by kernel_rfl) (by kernel_rfl) (by kernel_rfl) (fun _ _ _ h => h) (Yields.yieldsIf (Or.inl ⟨by rfl, ?_⟩)) hHeld ?_
  rotate_left
  · intro W
    go_simp
    try with_reducible rfl
  simp only [List.getElem_toArray, List.getElem_cons_succ, List.getElem_cons_zero, Act.put, List.setIfInBounds_toArray, List.set_cons_zero, List.set_cons_succ]
  refine wpAnyH_done (by kernel_rfl) ?_ _
  clear hHeld
  go_wp2_with fail
  refine (spoil_any A9 am.length c9 _ am _ (by omega) (own_ext HO9.out)).mono ?_
  rintro e wh ⟨rfl, hgh⟩
  have Sh := Step.wrote (w0 := wa) hgh (own_base HO9.out)
  clear hgh Sg Sf Se Sd HOD Sc Sb HO9 S9
  go_wp2_with fail
  refine wp_region_held_drew (S := fun W => Ext wh W) (by kernel_rfl) (by exact inferInstance) (fun hHeld => ?_)
  refine wpAnyH_take (i := 0) (v := .agg #[.int .i64 mru, .int .i64 accm, .int .i64 auth, .int .u32 magic, .bool pfc, .bool acfc]) rfl (by kernel_rfl) (by kernel_rfl) (by kernel_rfl) (fun _ _ _ h => h) (yields_row_S (by rfl) 28 (.tmp 4) rfl w.heap.size rfl 28 #[.int .i64 mru, .int .i64 accm, .int .i64 auth, .int .u32 magic, .bool pfc, .bool acfc] (0, 0) _ Try.underlying28 rfl (by kernel_rfl) (fun W hW => at_ext (h := hW) (at_ext (w' := wh) HG0.out))) hHeld ?_
  simp only [List.getElem_toArray, List.getElem_cons_succ, List.getElem_cons_zero, Act.put, List.setIfInBounds_toArray, List.set_cons_zero, List.set_cons_succ]
  refine wpAnyH_take (i := 3) (v := .agg #[.int .i64 mru, .int .i64 accm, .int .i64 auth, .int .u32 magic, .bool pfc, .bool acfc]) rfl (by kernel_rfl) (by kernel_rfl) (by kernel_rfl) (fun _ _ _ h => h) (yields_row_S (by rfl) 28 (.tmp 4) rfl w.heap.size rfl 28 #[.int .i64 mru, .int .i64 accm, .int .i64 auth, .int .u32 magic, .bool pfc, .bool acfc] (0, 0) _ Try.underlying28 rfl (by kernel_rfl) (fun W hW => at_ext (h := hW) (at_ext (w' := wh) HG0.out))) hHeld ?_
  simp only [List.getElem_toArray, List.getElem_cons_succ, List.getElem_cons_zero, Act.put, List.setIfInBounds_toArray, List.set_cons_zero, List.set_cons_succ]
  refine wpAnyH_ready (rs := [1]) (by kernel_rfl) (by simp) ?_
  refine AllReadyH.cons rfl (fun K hK => ?_) AllReadyH.nil
  refine step_call_w (by rfl) Try.func15 (by kernel_rfl) (by kernel_rfl) #[.tmp 75] #[28] rfl #[.agg #[.int .i64 mru, .int .i64 accm, .int .i64 auth, .int .u32 magic, .bool pfc, .bool acfc]] ?hv (given_any mru accm auth magic pfc acfc _) ?_
  case hv => go_simp
  rintro e wi ⟨rfl, hbb⟩
  refine ⟨_, rfl, ?_⟩
  have Si : Step wi _ := ⟨hbb⟩; clear hbb
  clear hHeld
  refine hK.out _ _ (by exact inferInstance) (fun hHeld => ?_)
  clear hK K
  simp only [List.getElem_toArray, List.getElem_cons_succ, List.getElem_cons_zero, Act.put, List.setIfInBounds_toArray, List.set_cons_zero, List.set_cons_succ]
  refine wpAnyH_ready (rs := [2]) (by kernel_rfl) (by simp) ?_
  refine AllReadyH.cons rfl (fun K hK => ?_) AllReadyH.nil
  refine step_call_w (by rfl) Try.func28 (by kernel_rfl) (by kernel_rfl) #[.tmp 76] #[33] rfl #[.agg #[.int .i64 mru, .int .i64 accm, .int .i64 auth, .int .u32 magic, .bool pfc, .bool acfc]] ?hv (HOPT.out _) ?_
  case hv => go_simp
  rintro e wj ⟨vj, js, rfl, hoj, huj, hbj⟩
  refine ⟨_, rfl, ?_⟩
  have Sj : Step wj _ := ⟨hbj⟩; obtain ⟨Aj, cj, rfl, _⟩ := own_slice hoj.1; have HOJ := Lib.hid hoj; have HUJ := Lib.hid huj; have hjl : js.length ≤ 6 := (by have h1 := congrArg List.length huj; rw [List.length_map] at h1; rw [h1]; exact HLEN.out); clear hbj hoj huj
  clear hHeld
  refine hK.out _ _ (by exact inferInstance) (fun hHeld => ?_)
  clear hK K
  simp only [List.getElem_toArray, List.getElem_cons_succ, List.getElem_cons_zero, Act.put, List.setIfInBounds_toArray, List.set_cons_zero, List.set_cons_succ]
  refine wpAnyH_ready (rs := [4]) (by kernel_rfl) (by simp) ?_
  refine AllReadyH.cons rfl (fun K hK => ?_) AllReadyH.nil
  refine step_call_w (by rfl) Try.func30 (by kernel_rfl) (by kernel_rfl) #[.tmp 78] #[28] rfl #[.agg #[.int .i64 mru, .int .i64 accm, .int .i64 auth, .int .u32 magic, .bool pfc, .bool acfc]] ?hv (HRPT.out _) ?_
  case hv => go_simp
  rintro e wk ⟨vk, ms, rfl, hok, huk, hbk⟩
  refine ⟨_, rfl, ?_⟩
  have Sk : Step wk _ := ⟨hbk⟩; obtain ⟨Ak, ck, rfl, _⟩ := own_slice hok.1; have HOK := Lib.hid hok; have HUK := Lib.hid huk; have hkl2 : ms.length ≤ 6 := (by have h1 := congrArg List.length huk; rw [List.length_map] at h1; rw [h1]; exact HLEN.out); clear hbk hok huk
  clear hHeld
  refine hK.out _ _ (by exact inferInstance) (fun hHeld => ?_)
  clear hK K
  simp only [List.getElem_toArray, List.getElem_cons_succ, List.getElem_cons_zero, Act.put, List.setIfInBounds_toArray, List.set_cons_zero, List.set_cons_succ]
  refine wpAnyH_ready (rs := [5]) (by kernel_rfl) (by simp) ?_
  refine AllReadyH.cons rfl (fun K hK => ?_) AllReadyH.nil
  refine step_call_w (by rfl) Try.func29 (by kernel_rfl) (by kernel_rfl) #[.tmp 77, .tmp 79] #[29, 29] rfl #[.slice Aj js.length cj, .slice Ak ms.length ck] ?hv (same9_any Aj Ak js.length ms.length cj ck js ms rfl rfl (by omega) (by omega) _ (own_cells HOJ.out.1).ext (own_cells HOK.out.1).ext HOJ.out.good.ext HOK.out.good.ext) ?_
  case hv => go_simp
  rintro e wl ⟨rfl, hbb⟩
  refine ⟨_, rfl, ?_⟩
  rw [HUJ.out, HUK.out, sameB_self]; have Sl : Step wl _ := ⟨hbb⟩; clear hbb
  clear hHeld
  refine hK.out _ _ (by exact inferInstance) (fun hHeld => ?_)
  clear hK K
  simp only [List.getElem_toArray, List.getElem_cons_succ, List.getElem_cons_zero, Act.put, List.setIfInBounds_toArray, List.set_cons_zero, List.set_cons_succ]
  refine wpAnyH_take (i := 6) (v := ?_) rfl (by kernel_rfl) (by kernel_rfl) (by kernel_rfl) (fun _ _ _ h => h) (Yields.yieldsIf (Or.inl ⟨by rfl, ?_⟩)) hHeld ?_
  rotate_left
  · intro W
    go_simp
    try with_reducible rfl
  simp only [List.getElem_toArray, List.getElem_cons_succ, List.getElem_cons_zero, Act.put, List.setIfInBounds_toArray, List.set_cons_zero, List.set_cons_succ]
  refine wpAnyH_ready (rs := [7]) (by kernel_rfl) (by simp) ?_
  refine AllReadyH.cons rfl (fun K hK => ?_) AllReadyH.nil
  refine step_call_w (by rfl) Try.func40 (by kernel_rfl) (by kernel_rfl) #[] #[] rfl #[] ?hv (ldefault_any _) ?_
  case hv => go_simp
  rintro e wm ⟨rfl, hbb⟩
  refine ⟨_, rfl, ?_⟩
  have Sm : Step wm _ := ⟨hbb⟩; clear hbb
  clear hHeld
  refine hK.out _ _ (by exact inferInstance) (fun hHeld => ?_)
  clear hK K
  simp only [List.getElem_toArray, List.getElem_cons_succ, List.getElem_cons_zero, Act.put, List.setIfInBounds_toArray, List.set_cons_zero, List.set_cons_succ]
  refine wpAnyH_ready (rs := [8]) (by kernel_rfl) (by simp) ?_
  refine AllReadyH.cons rfl (fun K hK => ?_) AllReadyH.nil
  refine step_call_w (by rfl) Try.func35 (by kernel_rfl) (by kernel_rfl) #[.tmp 82] #[33] rfl #[.agg #[.int .i64 1500, .int .i64 4294967295, .int .i64 0, .int .u32 0, .bool false, .bool false]] ?hv (taken_any 1500 4294967295 0 0 false false _) ?_
  case hv => go_simp
  rintro e wn ⟨rfl, hbb⟩
  refine ⟨_, rfl, ?_⟩
  have Sn : Step wn _ := ⟨hbb⟩; clear hbb
  clear hHeld
  refine hK.out _ _ (by exact inferInstance) (fun hHeld => ?_)
  clear hK K
  simp only [List.getElem_toArray, List.getElem_cons_succ, List.getElem_cons_zero, Act.put, List.setIfInBounds_toArray, List.set_cons_zero, List.set_cons_succ]
  refine wpAnyH_ready (rs := [9]) (by kernel_rfl) (by simp) ?_
  refine AllReadyH.cons rfl (fun K hK => ?_) AllReadyH.nil
  refine step_call_w (by rfl) Try.func41 (by kernel_rfl) (by kernel_rfl) #[] #[] rfl #[] ?hv (rdefault_any _) ?_
  case hv => go_simp
  rintro e wo ⟨rfl, hbb⟩
  refine ⟨_, rfl, ?_⟩
  have So : Step wo _ := ⟨hbb⟩; clear hbb
  clear hHeld
  refine hK.out _ _ (by exact inferInstance) (fun hHeld => ?_)
  clear hK K
  simp only [List.getElem_toArray, List.getElem_cons_succ, List.getElem_cons_zero, Act.put, List.setIfInBounds_toArray, List.set_cons_zero, List.set_cons_succ]
  refine wpAnyH_take (i := 10) (v := ?_) rfl (by kernel_rfl) (by kernel_rfl) (by kernel_rfl) (fun _ _ _ h => h) (Yields.yieldsIf (Or.inl ⟨by rfl, ?_⟩)) hHeld ?_
  rotate_left
  · intro W
    go_simp
    try with_reducible rfl
  simp only [List.getElem_toArray, List.getElem_cons_succ, List.getElem_cons_zero, Act.put, List.setIfInBounds_toArray, List.set_cons_zero, List.set_cons_succ]
  refine wpAnyH_take (i := 11) (v := ?_) rfl (by kernel_rfl) (by kernel_rfl) (by kernel_rfl) (fun _ _ _ h => h) (Yields.yieldsIf (Or.inl ⟨by rfl, ?_⟩)) hHeld ?_
  rotate_left
  · intro W
    go_simp
    try with_reducible rfl
  simp only [List.getElem_toArray, List.getElem_cons_succ, List.getElem_cons_zero, Act.put, List.setIfInBounds_toArray, List.set_cons_zero, List.set_cons_succ]
  refine wpAnyH_take (i := 12) (v := ?_) rfl (by kernel_rfl) (by kernel_rfl) (by kernel_rfl) (fun _ _ _ h => h) (Yields.yieldsIf (Or.inl ⟨by rfl, ?_⟩)) hHeld ?_
  rotate_left
  · intro W
    go_simp
    try with_reducible rfl
  simp only [List.getElem_toArray, List.getElem_cons_succ, List.getElem_cons_zero, Act.put, List.setIfInBounds_toArray, List.set_cons_zero, List.set_cons_succ]
  refine wpAnyH_ready (rs := [13]) (by kernel_rfl) (by simp) ?_
  refine AllReadyH.cons rfl (fun K hK => ?_) AllReadyH.nil
  refine step_call_w (by rfl) Try.func13 (by kernel_rfl) (by kernel_rfl) #[] #[] rfl #[] ?hv (known11_any _) ?_
  case hv => go_simp
  rintro e wp ⟨rfl, hbb⟩
  refine ⟨_, rfl, ?_⟩
  have Sp : Step wp _ := ⟨hbb⟩; clear hbb
  clear hHeld
  refine hK.out _ _ (by exact inferInstance) (fun hHeld => ?_)
  clear hK K
  simp only [List.getElem_toArray, List.getElem_cons_succ, List.getElem_cons_zero, Act.put, List.setIfInBounds_toArray, List.set_cons_zero, List.set_cons_succ]
  refine wpAnyH_take (i := 14) (v := ?_) rfl (by kernel_rfl) (by kernel_rfl) (by kernel_rfl) (fun _ _ _ h => h) (Yields.yieldsIf (Or.inl ⟨by rfl, ?_⟩)) hHeld ?_
  rotate_left
  · intro W
    go_simp
    try with_reducible rfl
  simp only [List.getElem_toArray, List.getElem_cons_succ, List.getElem_cons_zero, Act.put, List.setIfInBounds_toArray, List.set_cons_zero, List.set_cons_succ]
  refine wpAnyH_take (i := 15) (v := ?_) rfl (by kernel_rfl) (by kernel_rfl) (by kernel_rfl) (fun _ _ _ h => h) (Yields.yieldsIf (Or.inl ⟨by rfl, ?_⟩)) hHeld ?_
  rotate_left
  · intro W
    go_simp
    try with_reducible rfl
  simp only [List.getElem_toArray, List.getElem_cons_succ, List.getElem_cons_zero, Act.put, List.setIfInBounds_toArray, List.set_cons_zero, List.set_cons_succ]
  refine wpAnyH_done (by kernel_rfl) ?_ _
  clear hHeld
  go_wp2
  go_ret
  exact ⟨rfl, Ext.out⟩
namespace LcpOptions
set_option maxRecDepth 100000 in
theorem walk (U : Nat) (W : World) (vs : List Value) (h : Args U Try.prog W Try.f5.params.toList vs) : Calls Try.prog 5 vs.toArray W fun e W' => e = .returned (.bool true) ∧ Below W.heap.size W W' := by
  rw [Try.params5] at h
  match vs, h with
  | [v0, v1, v2, v3], ⟨h0, h1, h2, h3, _⟩ =>
    obtain ⟨mru, accm, auth, mm, b1, b2, rfl, hm0, hm1, _⟩ := arg_opts11 h0
    obtain ⟨A, n, c, vs, rfl, hl, hnc, _, hn, hC2, hG, _⟩ := h1.options
    obtain ⟨method, rfl, _⟩ := h2.int Try.underlying3
    obtain ⟨B', n', c', rfl⟩ := h3.slice_shape Try.underlying41
    obtain ⟨B, bn, bc, ys, he, hbl, hbc, hb, hbC, hbB⟩ := ArgC.byts h3.2
    simp [Value.cells] at he
    obtain ⟨rfl, rfl, rfl⟩ := he
    exact options11_law ⟨mru, accm, auth, mm, b1, b2⟩ hm0 hm1 A B' n c n' c' vs method ys hl hn hnc hbl hb hbB W hC2 hG hbC

set_option maxRecDepth 100000 in
theorem lifted (os : Os) (started : os.Started) (H : Type) (enc : TypeId × Value → H) :
    ReturnsInHanded {} Try.checked os 5 .any (Rows.lcpOptionsSpec.pre6 enc Try.prog Try.f5 Rows.lcpOptionsRow.domain false) (Rows.lcpOptionsSpec.post enc Try.prog Try.f5 false true false false) :=
  law_lifted (C := Try.checked) laid_out own_knob started (by kernel_rfl) Try.func5 H enc rfl
    (fun ds hd => by
      have : ds.length = 4 := hd
      match ds, this with
      | [_, _, _, _], _ => exact ⟨rfl, rfl, rfl⟩) rfl Try.underlying4 (by
      have : (Try.f5.params.toList.all fun t => Try.prog.readableRec t && decide (t < Try.prog.types.size)) = true := by kernel_rfl
      intro t ht
      have h := List.all_eq_true.1 this t ht
      rw [Bool.and_eq_true, decide_eq_true_eq] at h
      exact h)
    (ChangeSpec.witness6 (enc := enc) (C := Try.checked) false ⟨#[], #[.agg #[.int .i64 0, .int .i64 0, .int .i64 0, .int .u32 0, .bool false, .bool false], .slice none 0 0, .int .i64 0, .slice none 0 0], []⟩ 8 (by kernel_rfl) (by kernel_rfl) (by kernel_rfl) (by kernel_rfl)) walk

theorem over : Rows.lcpOptionsRow.holds Try.pinned (OpenSpec.ofChange Rows.lcpOptionsSpec) :=
  OpenClaim.holds_of_wide 5 Try.f5 rfl rfl rfl rfl rfl rfl rfl ⟨rfl, rfl, rfl, rfl, rfl⟩ rfl rfl rfl rfl rfl (by kernel_rfl) Try.func5 (by kernel_rfl)
    (of_decide_eq_true (by kernel_rfl)) (by unfold Func.isWrapper; first | (rw [if_pos (by decide +kernel)]; kernel_rfl) | (rw [if_neg (by decide +kernel)]; exact ⟨rfl, rfl⟩))
    (fun os started H enc _ => lifted os started H enc)

/-- The statement. -/
theorem proved : Rows.LcpOptionsSaid := over
#print axioms proved
end LcpOptions
end Go.Proofs.Ytodibldfolognaa
