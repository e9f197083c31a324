/-
  tetherlaw22.CcpEnds: an end that asks for what it can, and goes on by what it is answered, is acknowledged within four rounds: for every input the call answers true. No condition.
-/
import Derived.Test.YtnhmpmibkpoipaaCcZ
import Derived.Test.YtnhmpmibkpoipaaCcY
import Derived.Test.YtnhmpmibkpoipaaCcV
namespace Go.Proofs.Ytnhmpmibkpoipaa
open Go.RowKit
set_option linter.unusedVariables false
set_option linter.unusedSimpArgs false

theorem noBad_fine {td tb d b : Int} (hd : canD d) (hb : canB b) (h : Fine td tb d b) : NoBad td tb d b := by
  unfold NoBad
  unfold Fine at h
  unfold canD at hd
  unfold canB at hb
  omega
set_option maxRecDepth 100000 in
set_option maxHeartbeats 8000000 in
theorem ends22_law (cf ct : Array Value) (md mb td tb maxf : Int) (hsz : (Try.prog.info? 39).map (·.size) = some cf.size) (hst : (Try.prog.info? 39).map (·.size) = some ct.size) (hmd : cf[16]? = some (.int .i64 md)) (hmb : cf[17]? = some (.int .i64 mb))
    (htd : ct[16]? = some (.int .i64 td)) (htb : ct[17]? = some (.int .i64 tb)) (hmf : ct[21]? = some (.int .i64 maxf)) (w : World) :
    Calls Try.prog 6 #[.agg cf, .agg ct] w fun e w' => e = .returned (.bool true) ∧ Below w.heap.size w w' := by
  have HSZ := Lib.hid hsz
  have HST := Lib.hid hst
  have HMD := Lib.hid hmd
  have HMB := Lib.hid hmb
  have HTD := Lib.hid htd
  have HTB := Lib.hid htb
  have HMF := Lib.hid hmf
  have HG0 : Hid (((w.alloc (.cells cf 39)).alloc (.cells ct 39)).heap[w.heap.size]? = some (.cells cf 39)) := at_ext (at_new w (.cells cf 39))
  have HG1 : Hid (((w.alloc (.cells cf 39)).alloc (.cells ct 39)).heap[w.heap.size + 1]? = some (.cells ct 39)) := at_new1 (by simp)
  clear hsz hst hmd hmb htd htb hmf
  have q0 : ((w.alloc (.cells cf 39)).alloc (.cells ct 39)).cell? ⟨w.heap.size, 16, none⟩ = some (.int .i64 md) := (at_cell (at_ext HG0.out) 16).trans HMD.out
  have q1 : ((w.alloc (.cells cf 39)).alloc (.cells ct 39)).cell? ⟨w.heap.size, 17, none⟩ = some (.int .i64 mb) := (at_cell (at_ext HG0.out) 17).trans HMB.out
  have q2 : ((w.alloc (.cells cf 39)).alloc (.cells ct 39)).cell? ⟨w.heap.size + 1, 16, none⟩ = some (.int .i64 td) := (at_cell (at_ext HG1.out) 16).trans HTD.out
  have q3 : ((w.alloc (.cells cf 39)).alloc (.cells ct 39)).cell? ⟨w.heap.size + 1, 17, none⟩ = some (.int .i64 tb) := (at_cell (at_ext HG1.out) 17).trans HTB.out
  by_cases hcm : ¬ (canD md ∧ canB mb)
  · have HC := Lib.hid hcm
    clear hcm
    go_enter Try.func6, Try.ntmps6
    go_wp2_with fail
    refine (rnew22_no md mb HC.out _).mono ?_
    rintro e w1 ⟨rfl, hb1⟩
    have S1 : Step w1 _ := ⟨hb1⟩
    clear hb1 q0 q1 q2 q3
    go_wp2_with fail
    refine (awake22_any _).mono ?_
    rintro e wh ⟨rfl, hbh⟩
    have Sh : Step wh _ := ⟨hbh⟩
    clear hbh
    go_wp2
    go_ret
    exact ⟨rfl, Ext.out⟩
  have hcm := Classical.not_not.1 hcm
  by_cases hct : ¬ (canD td ∧ canB tb)
  · have HM := Lib.hid hcm
    have HC := Lib.hid hct
    clear hcm hct
    go_enter Try.func6, Try.ntmps6
    go_wp2_with fail
    refine (rnew22_yes md mb HM.out.1 HM.out.2 _).mono ?_
    rintro e w1 ⟨a1, rfl, hb1⟩
    have S1 : Step w1 _ := ⟨hb1⟩
    clear hb1 q0 q1 q2 q3
    have q0 : w1.cell? ⟨w.heap.size, 16, none⟩ = some (.int .i64 md) := (at_cell (at_ext HG0.out) 16).trans HMD.out
    have q1 : w1.cell? ⟨w.heap.size, 17, none⟩ = some (.int .i64 mb) := (at_cell (at_ext HG0.out) 17).trans HMB.out
    have q2 : w1.cell? ⟨w.heap.size + 1, 16, none⟩ = some (.int .i64 td) := (at_cell (at_ext HG1.out) 16).trans HTD.out
    have q3 : w1.cell? ⟨w.heap.size + 1, 17, none⟩ = some (.int .i64 tb) := (at_cell (at_ext HG1.out) 17).trans HTB.out
    go_wp2_with fail
    refine (rnew22_no td tb HC.out _).mono ?_
    rintro e w2 ⟨rfl, hb2⟩
    have S2 : Step w2 _ := ⟨hb2⟩
    clear hb2 q0 q1 q2 q3
    go_wp2_with fail
    refine (awake22_any _).mono ?_
    rintro e wh ⟨rfl, hbh⟩
    have Sh : Step wh _ := ⟨hbh⟩
    clear hbh
    go_wp2
    go_ret
    exact ⟨rfl, Ext.out⟩
  have hct := Classical.not_not.1 hct
  have HM := Lib.hid hcm
  have HT := Lib.hid hct
  clear hcm hct
  go_enter Try.func6, Try.ntmps6
  go_wp2_with fail
  refine (rnew22_yes md mb HM.out.1 HM.out.2 _).mono ?_
  rintro e w1 ⟨a1, rfl, hb1⟩
  have S1 : Step w1 _ := ⟨hb1⟩
  clear hb1 q0 q1 q2 q3
  have q0 : w1.cell? ⟨w.heap.size, 16, none⟩ = some (.int .i64 md) := (at_cell (at_ext HG0.out) 16).trans HMD.out
  have q1 : w1.cell? ⟨w.heap.size, 17, none⟩ = some (.int .i64 mb) := (at_cell (at_ext HG0.out) 17).trans HMB.out
  have q2 : w1.cell? ⟨w.heap.size + 1, 16, none⟩ = some (.int .i64 td) := (at_cell (at_ext HG1.out) 16).trans HTD.out
  have q3 : w1.cell? ⟨w.heap.size + 1, 17, none⟩ = some (.int .i64 tb) := (at_cell (at_ext HG1.out) 17).trans HTB.out
  go_wp2_with fail
  refine (rnew22_yes td tb HT.out.1 HT.out.2 _).mono ?_
  rintro e w2 ⟨a2, rfl, hb2⟩
  have S2 : Step w2 _ := ⟨hb2⟩
  clear hb2 q0 q1 q2 q3
  go_wp2_with
    (refine wpList_load_row rfl 39 (.tmp 2) rfl w.heap.size rfl 39 cf (0, 0) _ (at_ext HG0.out) Try.underlying39 rfl HSZ.out ?_)
  refine (want22_any cf md mb HMD.out HMB.out _).mono ?_
  rintro e w3 ⟨rfl, hb3⟩
  have S3 : Step w3 _ := ⟨hb3⟩
  clear hb3
  go_wp2
  have HG03 : Hid (w3.heap[w.heap.size]? = some (.cells cf 39)) := at_ext HG0.out
  have HG13 : Hid (w3.heap[w.heap.size + 1]? = some (.cells ct 39)) := at_ext HG1.out
  have Y3 : Ext w w3 := inferInstance
  go_loopw [6, 7] (fun nv i wr => ∃ (r : Nat) (od ob nk : Int), i = .int .i64 r ∧ nv = .int .i64 nk ∧ r ≤ 2 ∧ 0 ≤ nk ∧ nk ≤ r ∧ Hid (canD od ∧ canB ob ∧ (1 ≤ r → NoBad td tb od ob) ∧ (2 ≤ r → Fine td tb od ob)) ∧ Hid (wr.heap[w3.heap.size]? = some (cP od ob)) ∧ Hid (Ext w3 wr)) (fun _ i _ => 4 - (intOf i).toNat)
  case atStart => exact ⟨0, md, mb, 0, rfl, rfl, by omega, by omega, by omega, ⟨HM.out.1, HM.out.2, fun h => by omega, fun h => by omega⟩, at_new w3 _, (inferInstance : Ext _ _)⟩
  case round =>
    obtain ⟨r, od, ob, nk, rfl, rfl, hr, hn0, hn1, HC, HO, HXR⟩ := hrel
    have XR : Ext w3 wr := HXR.out
    have YR : Ext w wr := Ext.trans_ Y3 XR
    have hr4 : (r : Int) < 4 := by omega
    have HZ : Hid (w3.heap.size < wr.heap.size) := at_lt HO.out
    go_wp2
    refine wp_region_held_drew (S := fun W => Ext wr W) (by kernel_rfl) (by exact inferInstance) (fun hHeld => ?_)
    refine wpAnyH_take (i := 0) (v := .agg ct) rfl (by kernel_rfl) (by kernel_rfl) (by kernel_rfl) (fun _ _ _ h => h) (yields_row_S (by rfl) 39 (.tmp 3) rfl (w.heap.size + 1) rfl 39 ct (0, 0) _ Try.underlying39 rfl HST.out (fun W hW => at_ext (h := hW) (at_ext (w' := wr) HG13.out))) hHeld ?_
    simp only [List.getElem_toArray, List.getElem_cons_succ, List.getElem_cons_zero, Act.put, List.setIfInBounds_toArray, List.set_cons_zero, List.set_cons_succ]
    refine wpAnyH_take (i := 1) (v := .agg #[.int .i64 od, .int .i64 ob]) rfl (by kernel_rfl) (by kernel_rfl) (by kernel_rfl) (fun _ _ _ h => h) (yields_row_S (by rfl) 34 (.tmp 5) rfl w3.heap.size rfl 34 #[.int .i64 od, .int .i64 ob] (0, 0) _ Try.underlying34 rfl (by kernel_rfl) (fun W hW => at_ext (h := hW) HO.out)) hHeld ?_
    simp only [List.getElem_toArray, List.getElem_cons_succ, List.getElem_cons_zero, Act.put, List.setIfInBounds_toArray, List.set_cons_zero, List.set_cons_succ]
    refine wpAnyH_take (i := 3) (v := ?_) rfl (by kernel_rfl) (by kernel_rfl) (by kernel_rfl) (fun _ _ _ h => h) (Yields.yieldsIf (Or.inl ⟨by rfl, ?_⟩)) hHeld ?_
    rotate_left
    · intro W
      go_simp
      try with_reducible rfl
    simp only [List.getElem_toArray, List.getElem_cons_succ, List.getElem_cons_zero, Act.put, List.setIfInBounds_toArray, List.set_cons_zero, List.set_cons_succ]
    refine wpAnyH_ready (rs := [2]) (by kernel_rfl) (by simp) ?_
    refine AllReadyH.cons rfl (fun K hK => ?_) AllReadyH.nil
    refine step_call_w (by rfl) Try.func23 (by kernel_rfl) (by kernel_rfl) #[.tmp 37] #[34] rfl #[.agg #[.int .i64 od, .int .i64 ob]] ?hv (options22_any od ob _) ?_
    case hv => go_simp
    rintro e w4 ⟨v4, xs, rfl, ho4, hu4, hb4⟩
    refine ⟨_, rfl, ?_⟩
    have S4 : Step w4 _ := ⟨hb4⟩
    obtain ⟨A4, c4, rfl, hnc4⟩ := own_slice ho4.1
    obtain ⟨m4, hm4⟩ : ∃ m, xs.length = m := ⟨_, rfl⟩
    have hm4' : m4 ≤ 2 := by
      have h1 := congrArg List.length hu4
      rw [List.length_map, hm4] at h1
      rw [h1]
      unfold optsC
      split <;> split <;> simp
    rw [hm4] at hnc4 ⊢
    have HM4 := Lib.hid hm4
    have HU4 := Lib.hid hu4
    have G4 : Hid (Good w4 xs) := ho4.good
    have C4 : Hid (Cells w4 A4 (flat xs)) := own_cells ho4.1
    clear ho4 hu4 hb4 hm4 hHeld
    refine hK.out _ _ (by exact inferInstance) (fun hHeld => ?_)
    clear hK K
    simp only [List.getElem_toArray, List.getElem_cons_succ, List.getElem_cons_zero, Act.put, List.setIfInBounds_toArray, List.set_cons_zero, List.set_cons_succ]
    refine wpAnyH_ready (rs := [4]) (by kernel_rfl) (by simp) ?_
    refine AllReadyH.cons rfl (fun K hK => ?_) AllReadyH.nil
    refine step_call_w (by rfl) Try.func31 (by kernel_rfl) (by kernel_rfl) #[.tmp 36, .tmp 38, .tmp 39] #[39, 35, 3] rfl #[.agg ct, .slice A4 m4 c4, .int .i64 nk] ?hv (judge22_any ct td tb maxf nk A4 m4 c4 xs HST.out HTD.out HTB.out HMF.out HM4.out (by omega) hnc4 _ C4.out.ext G4.out.ext) ?_
    case hv => go_simp
    rintro e w5 ⟨v5, us, rfl, ho5, hu5, hb5⟩
    refine ⟨_, rfl, ?_⟩
    rw [HU4.out] at hu5 ⊢
    have S5 : Step w5 _ := ⟨hb5⟩
    have hlen := judgeC_len td tb maxf nk (optsC od ob)
    rw [← hu5, List.length_map] at hlen
    have hol : (optsC od ob).length ≤ 2 := by
      unfold optsC
      split <;> split <;> simp
    obtain ⟨A5, c5, rfl, hnc5⟩ := own_slice ho5.1
    obtain ⟨m5, hm5⟩ : ∃ m, us.length = m := ⟨_, rfl⟩
    have hm5' : m5 ≤ 2 := by omega
    rw [hm5] at hnc5 ⊢
    have HM5 := Lib.hid hm5
    have G5 : Hid (Good w5 us) := ho5.good
    have C5 : Hid (Cells w5 A5 (flat us)) := own_cells ho5.1
    have hro := ends_round maxf nk HT.out.1 HT.out.2 HC.out.1 HC.out.2.1
    obtain ⟨J, hJ⟩ : ∃ J, judgeC td tb maxf nk (optsC od ob) = J := ⟨_, rfl⟩
    rw [hJ] at hro hu5 ⊢
    have HU5 := Lib.hid hu5
    clear ho5 hu5 hb5 hm5 hHeld hJ hlen hol
    refine hK.out _ _ (by exact inferInstance) (fun hHeld => ?_)
    clear hK K
    simp only [List.getElem_toArray, List.getElem_cons_succ, List.getElem_cons_zero, Act.put, List.setIfInBounds_toArray, List.set_cons_zero, List.set_cons_succ]
    refine wpAnyH_take (i := 5) (v := ?_) rfl (by kernel_rfl) (by kernel_rfl) (by kernel_rfl) (fun _ _ _ h => h) (Yields.yieldsIf (Or.inl ⟨by rfl, ?_⟩)) hHeld ?_
    rotate_left
    · intro W
      go_simp
      try with_reducible rfl
    simp only [List.getElem_toArray, List.getElem_cons_succ, List.getElem_cons_zero, Act.put, List.setIfInBounds_toArray, List.set_cons_zero, List.set_cons_succ]
    refine wpAnyH_take (i := 6) (v := ?_) rfl (by kernel_rfl) (by kernel_rfl) (by kernel_rfl) (fun _ _ _ h => h) (Yields.yieldsIf (Or.inl ⟨by rfl, ?_⟩)) hHeld ?_
    rotate_left
    · intro W
      go_simp
      try with_reducible rfl
    simp only [List.getElem_toArray, List.getElem_cons_succ, List.getElem_cons_zero, Act.put, List.setIfInBounds_toArray, List.set_cons_zero, List.set_cons_succ]
    refine wpAnyH_take (i := 7) (v := ?_) rfl (by kernel_rfl) (by kernel_rfl) (by kernel_rfl) (fun _ _ _ h => h) (Yields.yieldsIf (Or.inl ⟨by rfl, ?_⟩)) hHeld ?_
    rotate_left
    · intro W
      go_simp
      try with_reducible rfl
    simp only [List.getElem_toArray, List.getElem_cons_succ, List.getElem_cons_zero, Act.put, List.setIfInBounds_toArray, List.set_cons_zero, List.set_cons_succ]
    refine wpAnyH_take (i := 8) (v := ?_) rfl (by kernel_rfl) (by kernel_rfl) (by kernel_rfl) (fun _ _ _ h => h) (Yields.yieldsIf (Or.inl ⟨by rfl, ?_⟩)) hHeld ?_
    rotate_left
    · intro W
      go_simp
      try with_reducible rfl
    simp only [List.getElem_toArray, List.getElem_cons_succ, List.getElem_cons_zero, Act.put, List.setIfInBounds_toArray, List.set_cons_zero, List.set_cons_succ]
    refine wpAnyH_take (i := 9) (v := ?_) rfl (by kernel_rfl) (by kernel_rfl) (by kernel_rfl) (fun _ _ _ h => h) (Yields.yieldsIf (Or.inl ⟨by rfl, ?_⟩)) hHeld ?_
    rotate_left
    · intro W
      go_simp
      try with_reducible rfl
    simp only [List.getElem_toArray, List.getElem_cons_succ, List.getElem_cons_zero, Act.put, List.setIfInBounds_toArray, List.set_cons_zero, List.set_cons_succ]
    refine wpAnyH_done (by kernel_rfl) ?_ _
    clear hHeld
    obtain ⟨K, L⟩ := J
    simp only at HU5
    have HO5 := Lib.hid (at_ext (w' := w5) HO.out)
    have X5 : Ext w3 w5 := inferInstance
    have z5 : w3.heap.size < w5.heap.size := at_lt HO5.out
    rcases hro with ⟨hk, hf⟩ | ⟨hnf, hk, d, b, hnak, hcd, hcb, hf⟩ | ⟨hnf, hk, d, b, hrej, hcd, hcb, hor⟩
    · have hk : K = 2 := hk
      subst hk
      have e0 : w5.cell? ⟨w3.heap.size, 0, none⟩ = some (.int .i64 od) := at_cell HO5.out 0
      have e1 : w5.cell? ⟨w3.heap.size, 1, none⟩ = some (.int .i64 ob) := at_cell HO5.out 1
      have e2 : w5.cell? ⟨w.heap.size + 1, 16, none⟩ = some (.int .i64 td) := (at_cell (at_ext HG13.out) 16).trans HTD.out
      have e3 : w5.cell? ⟨w.heap.size + 1, 17, none⟩ = some (.int .i64 tb) := (at_cell (at_ext HG13.out) 17).trans HTB.out
      obtain ⟨hf1, hf2⟩ := hf
      go_wp2_with fail
      refine (awake22_any _).mono ?_
      rintro e wh ⟨rfl, hbh⟩
      have Sh : Step wh _ := ⟨hbh⟩
      clear hbh
      go_wp2
      go_ret
      exact ⟨rfl, Ext.out⟩
    · have hk : K = 3 := hk
      subst hk
      have HNK := Lib.hid hnak
      have HF := Lib.hid hf
      have HCD := Lib.hid hcd
      have HCB := Lib.hid hcb
      have hr1 : r ≤ 1 := by
        rcases Nat.lt_or_ge r 2 with h | h
        · omega
        · exact absurd (HC.out.2.2.2 h) hnf
      have hnw : (nk : Int) + 1 ≤ 3 := by omega
      clear hnak hf hcd hcb hnf
      go_wp2_with
        (first
         | (refine wpList_load_row rfl 39 (.tmp 2) rfl w.heap.size rfl 39 cf (0, 0) _ (at_ext HG03.out) Try.underlying39 rfl HSZ.out ?_)
         | (refine wpList_load_row rfl 34 (.tmp 5) rfl w3.heap.size rfl 34 #[.int .i64 od, .int .i64 ob] (0, 0) _ (at_ext HO5.out) Try.underlying34 rfl (by kernel_rfl) ?_))
      refine (nak22_any cf od ob A5 m5 c5 us HM5.out (by omega) _ (by exact C5.out.ext) (by exact G5.out.ext)).mono ?_
      rintro e w6 ⟨rfl, hb6⟩
      rw [HU5.out, HNK.out]
      have S6 : Step w6 _ := ⟨hb6⟩
      have HO6 := Lib.hid (at_ext (w' := w6) HO5.out)
      have f0 : ∀ o, (w6.alloc o).frozen? ⟨w3.heap.size, 0, none⟩ = false := fun o => at_frozen (at_ext HO6.out) 0
      have f1 : ∀ o, (w6.alloc o).frozen? ⟨w3.heap.size, 1, none⟩ = false := fun o => at_frozen (at_ext HO6.out) 1
      have e0 : ∀ o, (w6.alloc o).cell? ⟨w3.heap.size, 0, none⟩ = some (.int .i64 od) := fun o => at_cell (at_ext HO6.out) 0
      have e1 : ∀ o, (w6.alloc o).cell? ⟨w3.heap.size, 1, none⟩ = some (.int .i64 ob) := fun o => at_cell (at_ext HO6.out) 1
      clear hb6
      simp only
      go_wp2
      go_roundw
      case rel => exact ⟨r + 1, d, b, nk + 1, by go_num, by go_num, by omega, by omega, by omega, ⟨HCD.out, HCB.out, fun _ => noBad_fine HCD.out HCB.out HF.out, fun _ => HF.out⟩, at_set2 _ _ (at_ext HO6.out), (inferInstance : Ext _ _)⟩
      case measure => simp [intOf]; omega
    · have hk : K = 4 := hk
      subst hk
      have HNK := Lib.hid hrej
      have HF := Lib.hid hor
      have HCD := Lib.hid hcd
      have HCB := Lib.hid hcb
      have hr1 : r ≤ 1 := by
        rcases Nat.lt_or_ge r 2 with h | h
        · omega
        · exact absurd (HC.out.2.2.2 h) hnf
      clear hrej hor hcd hcb hnf
      go_wp2_with
        (first
         | (refine wpList_load_row rfl 39 (.tmp 2) rfl w.heap.size rfl 39 cf (0, 0) _ (at_ext HG03.out) Try.underlying39 rfl HSZ.out ?_)
         | (refine wpList_load_row rfl 34 (.tmp 5) rfl w3.heap.size rfl 34 #[.int .i64 od, .int .i64 ob] (0, 0) _ (at_ext HO5.out) Try.underlying34 rfl (by kernel_rfl) ?_))
      refine (reject22_any cf od ob A5 m5 c5 us HM5.out (by omega) _ (by exact C5.out.ext)).mono ?_
      rintro e w6 ⟨rfl, hb6⟩
      rw [HU5.out]
      simp only
      rw [HNK.out]
      have S6 : Step w6 _ := ⟨hb6⟩
      have HO6 := Lib.hid (at_ext (w' := w6) HO5.out)
      have f0 := at_frozen HO6.out 0
      have f1 := at_frozen HO6.out 1
      have e0 : w6.cell? ⟨w3.heap.size, 0, none⟩ = some (.int .i64 od) := at_cell HO6.out 0
      have e1 : w6.cell? ⟨w3.heap.size, 1, none⟩ = some (.int .i64 ob) := at_cell HO6.out 1
      clear hb6
      simp only
      go_wp2
      go_roundw
      case rel => exact ⟨r + 1, d, b, nk, by go_num, rfl, by omega, by omega, by omega, ⟨HCD.out, HCB.out, fun _ => HF.out.elim (fun h => h.2) (noBad_fine HCD.out HCB.out), fun h => HF.out.elim (fun hh => absurd (HC.out.2.2.1 (by omega)) hh.1) id⟩, at_set2 _ _ HO6.out, (inferInstance : Ext _ _)⟩
      case measure => simp [intOf]; omega

namespace CcpEnds
set_option maxRecDepth 100000 in
theorem walk (U : Nat) (W : World) (vs : List Value) (h : Args U Try.prog W Try.f6.params.toList vs) : Calls Try.prog 6 vs.toArray W fun e W' => e = .returned (.bool true) ∧ Below W.heap.size W W' := by
  rw [Try.params6] at h
  match vs, h with
  | [v0, v1], ⟨h0, h1, _⟩ =>
    obtain ⟨cf, df, bs, maxf, rfl, hsz, hdf, hbs, _⟩ := arg_conf22 h0
    obtain ⟨ct, td, tb, mf, rfl, hst, htd, htb, hmf, _⟩ := arg_conf22 h1
    exact ends22_law cf ct df bs td tb mf hsz hst hdf hbs htd htb hmf W

set_option maxRecDepth 100000 in
theorem lifted (os : Os) (started : os.Started) (H : Type) (enc : TypeId × Value → H) :
    ReturnsInHanded {} Try.checked os 6 .any (Rows.ccpEndsSpec.pre6 enc Try.prog Try.f6 Rows.ccpEndsRow.domain false) (Rows.ccpEndsSpec.post enc Try.prog Try.f6 false true false false) :=
  law_lifted (C := Try.checked) laid_out own_knob started (by kernel_rfl) Try.func6 H enc rfl
    (fun ds hd => by
      have : ds.length = 2 := hd
      match ds, this with
      | [_, _], _ => exact ⟨rfl, rfl, rfl⟩) rfl Try.underlying4 (by
      have : (Try.f6.params.toList.all fun t => Try.prog.readableRec t && decide (t < Try.prog.types.size)) = true := by kernel_rfl
      intro t ht
      have h := List.all_eq_true.1 this t ht
      rw [Bool.and_eq_true, decide_eq_true_eq] at h
      exact h)
    (ChangeSpec.witness6 (enc := enc) (C := Try.checked) false ⟨#[], #[.agg #[.string ⟨#[]⟩, .string ⟨#[]⟩, .int .i64 0, .slice none 0 0, .int .i64 0, .int .i64 0, .bool false, .bool false, .bool false, .int .i64 0, .int .i64 0, .int .i64 0, .int .i64 0, .bool false, .bool false, .int .u64 0, .int .i64 0, .int .i64 0, .int .i64 0, .int .i64 0, .int .i64 0, .int .i64 0, .int .i64 0, .int .i64 0, .int .i64 0, .int .i64 0, .int .i64 0, .int .i64 0, .bool false, .bool false, .int .i64 0, .string ⟨#[]⟩, .string ⟨#[]⟩], .agg #[.string ⟨#[]⟩, .string ⟨#[]⟩, .int .i64 0, .slice none 0 0, .int .i64 0, .int .i64 0, .bool false, .bool false, .bool false, .int .i64 0, .int .i64 0, .int .i64 0, .int .i64 0, .bool false, .bool false, .int .u64 0, .int .i64 0, .int .i64 0, .int .i64 0, .int .i64 0, .int .i64 0, .int .i64 0, .int .i64 0, .int .i64 0, .int .i64 0, .int .i64 0, .int .i64 0, .int .i64 0, .bool false, .bool false, .int .i64 0, .string ⟨#[]⟩, .string ⟨#[]⟩]], []⟩ 8 (by kernel_rfl) (by kernel_rfl) (by kernel_rfl) (by kernel_rfl)) walk

theorem over : Rows.ccpEndsRow.holds Try.pinned (OpenSpec.ofChange Rows.ccpEndsSpec) :=
  OpenClaim.holds_of_wide 6 Try.f6 rfl rfl rfl rfl rfl rfl rfl ⟨rfl, rfl, rfl, rfl, rfl⟩ rfl rfl rfl rfl rfl (by kernel_rfl) Try.func6 (by kernel_rfl)
    (of_decide_eq_true (by kernel_rfl)) (by unfold Func.isWrapper; first | (rw [if_pos (by decide +kernel)]; kernel_rfl) | (rw [if_neg (by decide +kernel)]; exact ⟨rfl, rfl⟩))
    (fun os started H enc _ => lifted os started H enc)

/-- The statement. -/
theorem proved : Rows.CcpEndsSaid := over
#print axioms proved
end CcpEnds
end Go.Proofs.Ytnhmpmibkpoipaa
