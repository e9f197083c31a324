/-
  tetherlaw17.Ipv6cpEnds: two ends that ask, and go on by what they are told, come to two identifiers that are not the same within three rounds: for every input the call answers true. No condition.
-/
import Derived.Test.YtmopdimokoogmaaIp6L
import Derived.Test.YtmopdimokoogmaaIp6F
import Derived.Deep.RegionHeld3
namespace Go.Proofs.Ytmopdimokoogmaa
open Go.RowKit
set_option linter.unusedVariables false
set_option linter.unusedSimpArgs false

/-- A whole struct that is read yields the row that lies there, in every world where it lies there. -/
theorem yields_row {P : Program} {ops : Array Oper} {o : Oper} {a : Act} (hgd : o.guard = none) (ty : TypeId) (x : Operand) (ho : o.op = .load ty x)
    (g : Nat) (hx : a.eval x = .pointer (some ⟨g, 0, none⟩)) (t : TypeId) (cs : Array Value) (fr : Nat × Nat) (d : TypeDesc)
    (hu : P.underlying ty = some d) (hd : (match d with | .struct _ | .array _ _ => true | _ => false) = true) (hi : (P.info? ty).map (·.size) = some cs.size) :
    YieldsIf P ops (fun W => W.heap[g]? = some (.cells cs t fr)) o (.agg cs) a := by
  refine .inl ⟨by simp [Region.wanted, hgd], fun w hg => ?_⟩
  unfold execOp
  simp only [ho, hx, Instr.loadAt, Instr.sureAddr, Sem.run_bind, Sem.run_pure, Result.andThen_ok, run_loadVar_row w g t ty cs fr d hg hu hd hi]
theorem doneF_ok {a b : Int} (h0 : a ≠ 0) (h1 : b ≠ 0) (h2 : a ≠ b) : doneF a b = 0 := by simp [doneF, h0, h1, h2]
set_option maxRecDepth 100000 in
set_option maxHeartbeats 8000000 in
theorem ends17_a (cf df : Array Value) (one two third i2 m1 maxf : Int) (hsz : (Try.prog.info? 25).map (·.size) = some cf.size) (hsz2 : (Try.prog.info? 25).map (·.size) = some df.size) (hid1 : cf[15]? = some (.int .u64 0)) (hid2 : df[15]? = some (.int .u64 i2))
    (hcf : cf[21]? = some (.int .i64 m1)) (hcf2 : df[21]? = some (.int .i64 maxf)) (g1 : giv64 0) (hm1 : ¬ m1 < 3) (hm2 : ¬ maxf < 3) (g2 : giv64 i2) (ho : giv64 one) (ht : giv64 two) (h3 : giv64 third) (w : World) :
    Calls Try.prog 6 #[.agg cf, .agg df, .int .u64 one, .int .u64 two, .int .u64 third] w fun e w' => e = .returned (.bool true) ∧ Below w.heap.size w w' := by
  have HSZ := Lib.hid hsz
  have HSZ2 := Lib.hid hsz2
  have HID1 := Lib.hid hid1
  have HID2 := Lib.hid hid2
  have HCF2 := Lib.hid hcf2
  have HT := Lib.hid h3
  have HWA := Lib.hid (wantF_good g1 ho)
  have HWB := Lib.hid (wantF_good g2 ht)
  have HO := Lib.hid ho
  have HTw := Lib.hid ht
  have HG : Hid (((w.alloc (.cells cf 25)).alloc (.cells df 25)).heap[w.heap.size]? = some (.cells cf 25 (0, 0))) := at_ext (at_new w (.cells cf 25))
  have HG2 : Hid (((w.alloc (.cells cf 25)).alloc (.cells df 25)).heap[w.heap.size + 1]? = some (.cells df 25 (0, 0))) := at_new1 (by simp)
  have q1 : ((w.alloc (.cells cf 25)).alloc (.cells df 25)).cell? ⟨w.heap.size, 21, none⟩ = some (.int .i64 m1) := (at_cell HG.out 21).trans hcf
  have q2 : ((w.alloc (.cells cf 25)).alloc (.cells df 25)).cell? ⟨w.heap.size + 1, 21, none⟩ = some (.int .i64 maxf) := (at_cell HG2.out 21).trans hcf2
  have q3 : ((w.alloc (.cells cf 25)).alloc (.cells df 25)).cell? ⟨w.heap.size, 15, none⟩ = some (.int .u64 0) := (at_cell HG.out 15).trans hid1
  have q4 : ((w.alloc (.cells cf 25)).alloc (.cells df 25)).cell? ⟨w.heap.size + 1, 15, none⟩ = some (.int .u64 i2) := (at_cell HG2.out 15).trans hid2
  clear hsz hsz2 hid1 hid2 hcf hcf2 ho ht h3 g1 g2
  go_enter Try.func6, Try.ntmps6
  go_wp2_with
    (refine wpList_load_row rfl 25 (.tmp 5) rfl w.heap.size rfl 25 cf (0, 0) _ (at_ext HG.out) Try.underlying25 rfl HSZ.out ?_)
  refine (want17_any cf _ one HID1.out HO.out.1 HO.out.2 _).mono ?_
  rintro e w1 ⟨rfl, hb1⟩
  have S1 : Step w1 _ := ⟨hb1⟩
  clear hb1
  go_wp2_with
    (refine wpList_load_row rfl 25 (.tmp 6) rfl (w.heap.size + 1) rfl 25 df (0, 0) _ (at_ext HG2.out) Try.underlying25 rfl HSZ2.out ?_)
  refine (want17_any df _ two HID2.out HTw.out.1 HTw.out.2 _).mono ?_
  rintro e w2 ⟨rfl, hb2⟩
  have S2 : Step w2 _ := ⟨hb2⟩
  have X2 : Ext ((w.alloc (.cells cf 25)).alloc (.cells df 25)) w2 := inferInstance
  have HX2 := Lib.hid X2
  clear hb2
  obtain ⟨a0, ha0⟩ : ∃ a, wantF 0 one = a := ⟨_, rfl⟩
  obtain ⟨b, hb⟩ : ∃ b, wantF i2 two = b := ⟨_, rfl⟩
  rw [ha0] at HWA ⊢
  rw [hb] at HWB ⊢
  have HBB := HWB
  clear ha0 hb HWB q1 q2 q3 q4
  go_wp2
  go_loopw [11, 13] (fun x i wr => ∃ (a : Int) (k : Nat), x = .int .u64 a ∧ i = .int .i64 k ∧ k ≤ 1 ∧ (k = 0 ∨ a ≠ b) ∧ Hid (giv64 a ∧ a ≠ 0) ∧ Hid (Ext ((w.alloc (.cells cf 25)).alloc (.cells df 25)) wr)) (fun _ i _ => 3 - (intOf i).toNat)
  case atStart => exact ⟨a0, 0, rfl, rfl, by omega, .inl rfl, HWA.out, HX2.out⟩
  case round =>
    obtain ⟨a, k, rfl, rfl, hk, hor, HA, HXR⟩ := hrel
    have XR : Ext ((w.alloc (.cells cf 25)).alloc (.cells df 25)) wr := HXR.out
    have YR : Ext w wr := Ext.trans_ inferInstance XR
    by_cases hab : a = b
    · skip
      obtain rfl : k = 0 := by
        rcases hor with h | h
        · exact h
        · exact absurd hab h
      obtain rfl : a = b := hab
      have HJ : Hid (judgeF a 0 maxf third [(1, be a 8)] = (3, [(1, be (givF third a) 8)])) := by
        unfold Hid
        rw [judge_one HA.out.1 HA.out.2, if_neg (by simp), if_pos (by omega)]
      have HGv := Lib.hid (givF_good HT.out HA.out.1)
      clear hor
      go_wp2
      refine wp_region_held_drew (S := fun W => W.heap[w.heap.size + 1]? = some (.cells df 25 (0, 0))) (by kernel_rfl) (at_ext HG2.out) (fun hHeld => ?_)
      refine wpAnyH_take (i := 0) (v := .agg df) rfl (by kernel_rfl) (by kernel_rfl) (by kernel_rfl) (fun _ _ _ h => h) (yields_row rfl 25 (.tmp 6) rfl (w.heap.size + 1) rfl 25 df (0, 0) _ Try.underlying25 rfl HSZ2.out) hHeld ?_
      simp only [List.getElem_toArray, List.getElem_cons_succ, List.getElem_cons_zero, Act.put, List.setIfInBounds_toArray, List.set_cons_zero, List.set_cons_succ]
      refine wpAnyH_take (i := 1) (v := ?_) rfl (by kernel_rfl) (by kernel_rfl) (by kernel_rfl) (fun _ _ _ h => h) (Yields.yieldsIf (Or.inl ⟨by rfl, ?_⟩)) hHeld ?_
      rotate_left
      · intro W
        go_simp
        try with_reducible rfl
      simp only [List.getElem_toArray, List.getElem_cons_succ, List.getElem_cons_zero, Act.put, List.setIfInBounds_toArray, List.set_cons_zero, List.set_cons_succ]
      refine wpAnyH_take (i := 2) (v := ?_) rfl (by kernel_rfl) (by kernel_rfl) (by kernel_rfl) (fun _ _ _ h => h) (Yields.yieldsIf (Or.inl ⟨by rfl, ?_⟩)) hHeld ?_
      rotate_left
      · intro W
        go_simp
        try with_reducible rfl
      simp only [List.getElem_toArray, List.getElem_cons_succ, List.getElem_cons_zero, Act.put, List.setIfInBounds_toArray, List.set_cons_zero, List.set_cons_succ]
      refine wpAnyH_take (i := 4) (v := ?_) rfl (by kernel_rfl) (by kernel_rfl) (by kernel_rfl) (fun _ _ _ h => h) (Yields.yieldsIf (Or.inl ⟨by rfl, ?_⟩)) hHeld ?_
      rotate_left
      · intro W
        go_simp
        try with_reducible rfl
      simp only [List.getElem_toArray, List.getElem_cons_succ, List.getElem_cons_zero, Act.put, List.setIfInBounds_toArray, List.set_cons_zero, List.set_cons_succ]
      refine wpAnyH_take (i := 5) (v := ?_) rfl (by kernel_rfl) (by kernel_rfl) (by kernel_rfl) (fun _ _ _ h => h) (Yields.yieldsIf (Or.inl ⟨by rfl, ?_⟩)) hHeld ?_
      rotate_left
      · intro W
        go_simp
        try with_reducible rfl
      simp only [List.getElem_toArray, List.getElem_cons_succ, List.getElem_cons_zero, Act.put, List.setIfInBounds_toArray, List.set_cons_zero, List.set_cons_succ]
      refine wpAnyH_ready (rs := [3]) (by kernel_rfl) (by simp) ?_
      refine AllReadyH.cons rfl (fun K hK => ?_) AllReadyH.nil
      refine step_call rfl Try.func21 (by kernel_rfl) (by kernel_rfl) #[.tmp 52] #[23] rfl #[.int .u64 a] ?hv (opts17_any a HA.out.1.1 HA.out.1.2 _) ?_
      case hv => go_simp
      rintro e w4 ⟨v4, us, rfl, ho4, hu4, hb4⟩
      refine ⟨_, rfl, ?_⟩
      obtain ⟨A4, c4, rfl, _⟩ := own_slice ho4.1
      obtain ⟨u, rfl, _, _⟩ := opts_one hu4
      have S4 : Step w4 _ := ⟨hb4⟩
      have HO4 := Lib.hid ho4
      have HU4 := Lib.hid hu4
      have X4 : Ext ((w.alloc (.cells cf 25)).alloc (.cells df 25)) w4 := inferInstance
      clear ho4 hu4 hb4 hHeld
      refine hK.out _ _ (at_ext HG2.out) (fun hHeld => ?_)
      clear hK K
      simp only [List.getElem_toArray, List.getElem_cons_succ, List.getElem_cons_zero, Act.put, List.setIfInBounds_toArray, List.set_cons_zero, List.set_cons_succ]
      refine wpAnyH_ready (rs := [6]) (by kernel_rfl) (by simp) ?_
      refine AllReadyH.cons rfl (fun K hK => ?_) AllReadyH.nil
      refine step_call rfl Try.func15 (by kernel_rfl) (by kernel_rfl) #[.tmp 50, .tmp 51, .tmp 53, .tmp 54, .tmp 55] #[25, 23, 26, 3, 23] rfl #[.agg df, .int .u64 a, .slice A4 1 c4, .int .i64 0, .int .u64 third] ?hv (judge17_any df a 0 maxf third A4 1 c4 [u] HCF2.out rfl (by omega) HBB.out.1 HT.out _ (own_cells HO4.out.1).ext HO4.out.good.ext) ?_
      case hv => go_simp
      rintro e w5 ⟨v5, xs, rfl, ho5, hx5, hb5⟩
      refine ⟨_, rfl, ?_⟩
      rw [HU4.out, HJ.out] at hx5
      rw [HU4.out, HJ.out]
      have S5 : Step w5 _ := ⟨hb5⟩
      obtain ⟨A5, c5, rfl, _⟩ := own_slice ho5.1
      obtain ⟨x, rfl, _, _⟩ := opts_one hx5
      have HO5 := Lib.hid ho5
      have HX5 := Lib.hid hx5
      have X5 : Ext ((w.alloc (.cells cf 25)).alloc (.cells df 25)) w5 := inferInstance
      have Y5 : Ext w w5 := inferInstance
      clear ho5 hx5 hb5 hHeld
      refine hK.out _ _ (at_ext HG2.out) (fun hHeld => ?_)
      clear hK K
      simp only [List.getElem_toArray, List.getElem_cons_succ, List.getElem_cons_zero, Act.put, List.setIfInBounds_toArray, List.set_cons_zero, List.set_cons_succ]
      refine wpAnyH_take (i := 7) (v := ?_) rfl (by kernel_rfl) (by kernel_rfl) (by kernel_rfl) (fun _ _ _ h => h) (Yields.yieldsIf (Or.inl ⟨by rfl, ?_⟩)) hHeld ?_
      rotate_left
      · intro W
        go_simp
        try with_reducible rfl
      simp only [List.getElem_toArray, List.getElem_cons_succ, List.getElem_cons_zero, Act.put, List.setIfInBounds_toArray, List.set_cons_zero, List.set_cons_succ]
      refine wpAnyH_take (i := 8) (v := ?_) rfl (by kernel_rfl) (by kernel_rfl) (by kernel_rfl) (fun _ _ _ h => h) (Yields.yieldsIf (Or.inl ⟨by rfl, ?_⟩)) hHeld ?_
      rotate_left
      · intro W
        go_simp
        try with_reducible rfl
      simp only [List.getElem_toArray, List.getElem_cons_succ, List.getElem_cons_zero, Act.put, List.setIfInBounds_toArray, List.set_cons_zero, List.set_cons_succ]
      refine wpAnyH_take (i := 9) (v := ?_) rfl (by kernel_rfl) (by kernel_rfl) (by kernel_rfl) (fun _ _ _ h => h) (Yields.yieldsIf (Or.inl ⟨by rfl, ?_⟩)) hHeld ?_
      rotate_left
      · intro W
        go_simp
        try with_reducible rfl
      simp only [List.getElem_toArray, List.getElem_cons_succ, List.getElem_cons_zero, Act.put, List.setIfInBounds_toArray, List.set_cons_zero, List.set_cons_succ]
      refine wpAnyH_take (i := 10) (v := ?_) rfl (by kernel_rfl) (by kernel_rfl) (by kernel_rfl) (fun _ _ _ h => h) (Yields.yieldsIf (Or.inl ⟨by rfl, ?_⟩)) hHeld ?_
      rotate_left
      · intro W
        go_simp
        try with_reducible rfl
      simp only [List.getElem_toArray, List.getElem_cons_succ, List.getElem_cons_zero, Act.put, List.setIfInBounds_toArray, List.set_cons_zero, List.set_cons_succ]
      refine wpAnyH_take (i := 11) (v := ?_) rfl (by kernel_rfl) (by kernel_rfl) (by kernel_rfl) (fun _ _ _ h => h) (Yields.yieldsIf (Or.inl ⟨by rfl, ?_⟩)) hHeld ?_
      rotate_left
      · intro W
        go_simp
        try with_reducible rfl
      simp only [List.getElem_toArray, List.getElem_cons_succ, List.getElem_cons_zero, Act.put, List.setIfInBounds_toArray, List.set_cons_zero, List.set_cons_succ]
      refine wpAnyH_done (by kernel_rfl) ?_ _
      clear hHeld
      all_goals
        go_wp2_with fail
        refine (nak17_any a (inc64 one) A5 1 c5 [x] HA.out.1 (giv64_inc _) rfl (by omega) _ (by exact (own_cells HO5.out.1).ext) (by exact HO5.out.good.ext)).mono ?_
        rintro e w6 ⟨rfl, hb6⟩
        rw [HX5.out, nak_one HGv.out.1 HGv.out.2.1 HGv.out.2.2]
        have S6 : Step w6 _ := ⟨hb6⟩
        clear hb6
        generalize givF third a = N at *
        go_wp2
        go_roundw
        case rel => exact ⟨N, 1, rfl, rfl, by omega, .inr HGv.out.2.2, ⟨HGv.out.1, HGv.out.2.1⟩, (inferInstance : Ext _ _)⟩
        case measure => simp [intOf]
    · skip
      have HJ : Hid (judgeF b (k : Int) maxf third [(1, be a 8)] = (2, [(1, be a 8)])) := by
        unfold Hid
        rw [judge_one HA.out.1 HA.out.2, if_pos hab]
      have HD := Lib.hid (doneF_ok HA.out.2 HBB.out.2 hab)
      clear hor
      have hkk : (k : Int) < 3 := by omega
      clear hab
      go_wp2
      refine wp_region_held_drew (S := fun W => W.heap[w.heap.size + 1]? = some (.cells df 25 (0, 0))) (by kernel_rfl) (at_ext HG2.out) (fun hHeld => ?_)
      refine wpAnyH_take (i := 0) (v := .agg df) rfl (by kernel_rfl) (by kernel_rfl) (by kernel_rfl) (fun _ _ _ h => h) (yields_row rfl 25 (.tmp 6) rfl (w.heap.size + 1) rfl 25 df (0, 0) _ Try.underlying25 rfl HSZ2.out) hHeld ?_
      simp only [List.getElem_toArray, List.getElem_cons_succ, List.getElem_cons_zero, Act.put, List.setIfInBounds_toArray, List.set_cons_zero, List.set_cons_succ]
      refine wpAnyH_take (i := 1) (v := ?_) rfl (by kernel_rfl) (by kernel_rfl) (by kernel_rfl) (fun _ _ _ h => h) (Yields.yieldsIf (Or.inl ⟨by rfl, ?_⟩)) hHeld ?_
      rotate_left
      · intro W
        go_simp
        try with_reducible rfl
      simp only [List.getElem_toArray, List.getElem_cons_succ, List.getElem_cons_zero, Act.put, List.setIfInBounds_toArray, List.set_cons_zero, List.set_cons_succ]
      refine wpAnyH_take (i := 2) (v := ?_) rfl (by kernel_rfl) (by kernel_rfl) (by kernel_rfl) (fun _ _ _ h => h) (Yields.yieldsIf (Or.inl ⟨by rfl, ?_⟩)) hHeld ?_
      rotate_left
      · intro W
        go_simp
        try with_reducible rfl
      simp only [List.getElem_toArray, List.getElem_cons_succ, List.getElem_cons_zero, Act.put, List.setIfInBounds_toArray, List.set_cons_zero, List.set_cons_succ]
      refine wpAnyH_take (i := 4) (v := ?_) rfl (by kernel_rfl) (by kernel_rfl) (by kernel_rfl) (fun _ _ _ h => h) (Yields.yieldsIf (Or.inl ⟨by rfl, ?_⟩)) hHeld ?_
      rotate_left
      · intro W
        go_simp
        try with_reducible rfl
      simp only [List.getElem_toArray, List.getElem_cons_succ, List.getElem_cons_zero, Act.put, List.setIfInBounds_toArray, List.set_cons_zero, List.set_cons_succ]
      refine wpAnyH_take (i := 5) (v := ?_) rfl (by kernel_rfl) (by kernel_rfl) (by kernel_rfl) (fun _ _ _ h => h) (Yields.yieldsIf (Or.inl ⟨by rfl, ?_⟩)) hHeld ?_
      rotate_left
      · intro W
        go_simp
        try with_reducible rfl
      simp only [List.getElem_toArray, List.getElem_cons_succ, List.getElem_cons_zero, Act.put, List.setIfInBounds_toArray, List.set_cons_zero, List.set_cons_succ]
      refine wpAnyH_ready (rs := [3]) (by kernel_rfl) (by simp) ?_
      refine AllReadyH.cons rfl (fun K hK => ?_) AllReadyH.nil
      refine step_call rfl Try.func21 (by kernel_rfl) (by kernel_rfl) #[.tmp 52] #[23] rfl #[.int .u64 a] ?hv (opts17_any a HA.out.1.1 HA.out.1.2 _) ?_
      case hv => go_simp
      rintro e w4 ⟨v4, us, rfl, ho4, hu4, hb4⟩
      refine ⟨_, rfl, ?_⟩
      obtain ⟨A4, c4, rfl, _⟩ := own_slice ho4.1
      obtain ⟨u, rfl, _, _⟩ := opts_one hu4
      have S4 : Step w4 _ := ⟨hb4⟩
      have HO4 := Lib.hid ho4
      have HU4 := Lib.hid hu4
      have X4 : Ext ((w.alloc (.cells cf 25)).alloc (.cells df 25)) w4 := inferInstance
      clear ho4 hu4 hb4 hHeld
      refine hK.out _ _ (at_ext HG2.out) (fun hHeld => ?_)
      clear hK K
      simp only [List.getElem_toArray, List.getElem_cons_succ, List.getElem_cons_zero, Act.put, List.setIfInBounds_toArray, List.set_cons_zero, List.set_cons_succ]
      refine wpAnyH_ready (rs := [6]) (by kernel_rfl) (by simp) ?_
      refine AllReadyH.cons rfl (fun K hK => ?_) AllReadyH.nil
      refine step_call rfl Try.func15 (by kernel_rfl) (by kernel_rfl) #[.tmp 50, .tmp 51, .tmp 53, .tmp 54, .tmp 55] #[25, 23, 26, 3, 23] rfl #[.agg df, .int .u64 b, .slice A4 1 c4, .int .i64 (k:Int), .int .u64 third] ?hv (judge17_any df b (k:Int) maxf third A4 1 c4 [u] HCF2.out rfl (by omega) HBB.out.1 HT.out _ (own_cells HO4.out.1).ext HO4.out.good.ext) ?_
      case hv => go_simp
      rintro e w5 ⟨v5, xs, rfl, ho5, hx5, hb5⟩
      refine ⟨_, rfl, ?_⟩
      rw [HU4.out, HJ.out] at hx5
      rw [HU4.out, HJ.out]
      have S5 : Step w5 _ := ⟨hb5⟩
      obtain ⟨A5, c5, rfl, _⟩ := own_slice ho5.1
      obtain ⟨x, rfl, _, _⟩ := opts_one hx5
      have HO5 := Lib.hid ho5
      have HX5 := Lib.hid hx5
      have X5 : Ext ((w.alloc (.cells cf 25)).alloc (.cells df 25)) w5 := inferInstance
      have Y5 : Ext w w5 := inferInstance
      clear ho5 hx5 hb5 hHeld
      refine hK.out _ _ (at_ext HG2.out) (fun hHeld => ?_)
      clear hK K
      simp only [List.getElem_toArray, List.getElem_cons_succ, List.getElem_cons_zero, Act.put, List.setIfInBounds_toArray, List.set_cons_zero, List.set_cons_succ]
      refine wpAnyH_take (i := 7) (v := ?_) rfl (by kernel_rfl) (by kernel_rfl) (by kernel_rfl) (fun _ _ _ h => h) (Yields.yieldsIf (Or.inl ⟨by rfl, ?_⟩)) hHeld ?_
      rotate_left
      · intro W
        go_simp
        try with_reducible rfl
      simp only [List.getElem_toArray, List.getElem_cons_succ, List.getElem_cons_zero, Act.put, List.setIfInBounds_toArray, List.set_cons_zero, List.set_cons_succ]
      refine wpAnyH_take (i := 8) (v := ?_) rfl (by kernel_rfl) (by kernel_rfl) (by kernel_rfl) (fun _ _ _ h => h) (Yields.yieldsIf (Or.inl ⟨by rfl, ?_⟩)) hHeld ?_
      rotate_left
      · intro W
        go_simp
        try with_reducible rfl
      simp only [List.getElem_toArray, List.getElem_cons_succ, List.getElem_cons_zero, Act.put, List.setIfInBounds_toArray, List.set_cons_zero, List.set_cons_succ]
      refine wpAnyH_take (i := 9) (v := ?_) rfl (by kernel_rfl) (by kernel_rfl) (by kernel_rfl) (fun _ _ _ h => h) (Yields.yieldsIf (Or.inl ⟨by rfl, ?_⟩)) hHeld ?_
      rotate_left
      · intro W
        go_simp
        try with_reducible rfl
      simp only [List.getElem_toArray, List.getElem_cons_succ, List.getElem_cons_zero, Act.put, List.setIfInBounds_toArray, List.set_cons_zero, List.set_cons_succ]
      refine wpAnyH_take (i := 10) (v := ?_) rfl (by kernel_rfl) (by kernel_rfl) (by kernel_rfl) (fun _ _ _ h => h) (Yields.yieldsIf (Or.inl ⟨by rfl, ?_⟩)) hHeld ?_
      rotate_left
      · intro W
        go_simp
        try with_reducible rfl
      simp only [List.getElem_toArray, List.getElem_cons_succ, List.getElem_cons_zero, Act.put, List.setIfInBounds_toArray, List.set_cons_zero, List.set_cons_succ]
      refine wpAnyH_take (i := 11) (v := ?_) rfl (by kernel_rfl) (by kernel_rfl) (by kernel_rfl) (fun _ _ _ h => h) (Yields.yieldsIf (Or.inl ⟨by rfl, ?_⟩)) hHeld ?_
      rotate_left
      · intro W
        go_simp
        try with_reducible rfl
      simp only [List.getElem_toArray, List.getElem_cons_succ, List.getElem_cons_zero, Act.put, List.setIfInBounds_toArray, List.set_cons_zero, List.set_cons_succ]
      refine wpAnyH_done (by kernel_rfl) ?_ _
      clear hHeld
      all_goals
        go_wp2_with fail
        refine (done17_any a b _).mono ?_
        rintro e w6 ⟨rfl, rfl⟩
        rw [HD.out]
        go_wp2_with fail
        refine (known17_any _).mono ?_
        rintro e w7 ⟨rfl, hb7⟩
        have S7 : Step w7 _ := ⟨hb7⟩
        clear hb7
        go_wp2
        go_ret
        exact ⟨rfl, Ext.out⟩

set_option maxRecDepth 100000 in
set_option maxHeartbeats 8000000 in
theorem ends17_b (cf df : Array Value) (one two third i1 i2 m1 maxf : Int) (hsz : (Try.prog.info? 25).map (·.size) = some cf.size) (hsz2 : (Try.prog.info? 25).map (·.size) = some df.size) (hid1 : cf[15]? = some (.int .u64 i1)) (hid2 : df[15]? = some (.int .u64 i2))
    (hcf : cf[21]? = some (.int .i64 m1)) (hcf2 : df[21]? = some (.int .i64 maxf)) (g1 : giv64 i1) (hm1 : ¬ m1 < 3) (hm2 : ¬ maxf < 3) (hi0' : (i1 != 0) = true) (hi' : (i1 == i2) = false) (g2 : giv64 i2) (ho : giv64 one) (ht : giv64 two) (h3 : giv64 third) (w : World) :
    Calls Try.prog 6 #[.agg cf, .agg df, .int .u64 one, .int .u64 two, .int .u64 third] w fun e w' => e = .returned (.bool true) ∧ Below w.heap.size w w' := by
  have HSZ := Lib.hid hsz
  have HSZ2 := Lib.hid hsz2
  have HID1 := Lib.hid hid1
  have HID2 := Lib.hid hid2
  have HCF2 := Lib.hid hcf2
  have HT := Lib.hid h3
  have HWA := Lib.hid (wantF_good g1 ho)
  have HWB := Lib.hid (wantF_good g2 ht)
  have HO := Lib.hid ho
  have HTw := Lib.hid ht
  have HG : Hid (((w.alloc (.cells cf 25)).alloc (.cells df 25)).heap[w.heap.size]? = some (.cells cf 25 (0, 0))) := at_ext (at_new w (.cells cf 25))
  have HG2 : Hid (((w.alloc (.cells cf 25)).alloc (.cells df 25)).heap[w.heap.size + 1]? = some (.cells df 25 (0, 0))) := at_new1 (by simp)
  have q1 : ((w.alloc (.cells cf 25)).alloc (.cells df 25)).cell? ⟨w.heap.size, 21, none⟩ = some (.int .i64 m1) := (at_cell HG.out 21).trans hcf
  have q2 : ((w.alloc (.cells cf 25)).alloc (.cells df 25)).cell? ⟨w.heap.size + 1, 21, none⟩ = some (.int .i64 maxf) := (at_cell HG2.out 21).trans hcf2
  have q3 : ((w.alloc (.cells cf 25)).alloc (.cells df 25)).cell? ⟨w.heap.size, 15, none⟩ = some (.int .u64 i1) := (at_cell HG.out 15).trans hid1
  have q4 : ((w.alloc (.cells cf 25)).alloc (.cells df 25)).cell? ⟨w.heap.size + 1, 15, none⟩ = some (.int .u64 i2) := (at_cell HG2.out 15).trans hid2
  clear hsz hsz2 hid1 hid2 hcf hcf2 ho ht h3 g1 g2
  go_enter Try.func6, Try.ntmps6
  go_wp2_with
    (refine wpList_load_row rfl 25 (.tmp 5) rfl w.heap.size rfl 25 cf (0, 0) _ (at_ext HG.out) Try.underlying25 rfl HSZ.out ?_)
  refine (want17_any cf _ one HID1.out HO.out.1 HO.out.2 _).mono ?_
  rintro e w1 ⟨rfl, hb1⟩
  have S1 : Step w1 _ := ⟨hb1⟩
  clear hb1
  go_wp2_with
    (refine wpList_load_row rfl 25 (.tmp 6) rfl (w.heap.size + 1) rfl 25 df (0, 0) _ (at_ext HG2.out) Try.underlying25 rfl HSZ2.out ?_)
  refine (want17_any df _ two HID2.out HTw.out.1 HTw.out.2 _).mono ?_
  rintro e w2 ⟨rfl, hb2⟩
  have S2 : Step w2 _ := ⟨hb2⟩
  have X2 : Ext ((w.alloc (.cells cf 25)).alloc (.cells df 25)) w2 := inferInstance
  have HX2 := Lib.hid X2
  clear hb2
  obtain ⟨a0, ha0⟩ : ∃ a, wantF i1 one = a := ⟨_, rfl⟩
  obtain ⟨b, hb⟩ : ∃ b, wantF i2 two = b := ⟨_, rfl⟩
  rw [ha0] at HWA ⊢
  rw [hb] at HWB ⊢
  have HBB := HWB
  clear ha0 hb HWB q1 q2 q3 q4
  go_wp2
  go_loopw [11, 13] (fun x i wr => ∃ (a : Int) (k : Nat), x = .int .u64 a ∧ i = .int .i64 k ∧ k ≤ 1 ∧ (k = 0 ∨ a ≠ b) ∧ Hid (giv64 a ∧ a ≠ 0) ∧ Hid (Ext ((w.alloc (.cells cf 25)).alloc (.cells df 25)) wr)) (fun _ i _ => 3 - (intOf i).toNat)
  case atStart => exact ⟨a0, 0, rfl, rfl, by omega, .inl rfl, HWA.out, HX2.out⟩
  case round =>
    obtain ⟨a, k, rfl, rfl, hk, hor, HA, HXR⟩ := hrel
    have XR : Ext ((w.alloc (.cells cf 25)).alloc (.cells df 25)) wr := HXR.out
    have YR : Ext w wr := Ext.trans_ inferInstance XR
    by_cases hab : a = b
    · skip
      obtain rfl : k = 0 := by
        rcases hor with h | h
        · exact h
        · exact absurd hab h
      obtain rfl : a = b := hab
      have HJ : Hid (judgeF a 0 maxf third [(1, be a 8)] = (3, [(1, be (givF third a) 8)])) := by
        unfold Hid
        rw [judge_one HA.out.1 HA.out.2, if_neg (by simp), if_pos (by omega)]
      have HGv := Lib.hid (givF_good HT.out HA.out.1)
      clear hor
      go_wp2
      refine wp_region_held_drew (S := fun W => W.heap[w.heap.size + 1]? = some (.cells df 25 (0, 0))) (by kernel_rfl) (at_ext HG2.out) (fun hHeld => ?_)
      refine wpAnyH_take (i := 0) (v := .agg df) rfl (by kernel_rfl) (by kernel_rfl) (by kernel_rfl) (fun _ _ _ h => h) (yields_row rfl 25 (.tmp 6) rfl (w.heap.size + 1) rfl 25 df (0, 0) _ Try.underlying25 rfl HSZ2.out) hHeld ?_
      simp only [List.getElem_toArray, List.getElem_cons_succ, List.getElem_cons_zero, Act.put, List.setIfInBounds_toArray, List.set_cons_zero, List.set_cons_succ]
      refine wpAnyH_take (i := 1) (v := ?_) rfl (by kernel_rfl) (by kernel_rfl) (by kernel_rfl) (fun _ _ _ h => h) (Yields.yieldsIf (Or.inl ⟨by rfl, ?_⟩)) hHeld ?_
      rotate_left
      · intro W
        go_simp
        try with_reducible rfl
      simp only [List.getElem_toArray, List.getElem_cons_succ, List.getElem_cons_zero, Act.put, List.setIfInBounds_toArray, List.set_cons_zero, List.set_cons_succ]
      refine wpAnyH_take (i := 2) (v := ?_) rfl (by kernel_rfl) (by kernel_rfl) (by kernel_rfl) (fun _ _ _ h => h) (Yields.yieldsIf (Or.inl ⟨by rfl, ?_⟩)) hHeld ?_
      rotate_left
      · intro W
        go_simp
        try with_reducible rfl
      simp only [List.getElem_toArray, List.getElem_cons_succ, List.getElem_cons_zero, Act.put, List.setIfInBounds_toArray, List.set_cons_zero, List.set_cons_succ]
      refine wpAnyH_take (i := 4) (v := ?_) rfl (by kernel_rfl) (by kernel_rfl) (by kernel_rfl) (fun _ _ _ h => h) (Yields.yieldsIf (Or.inl ⟨by rfl, ?_⟩)) hHeld ?_
      rotate_left
      · intro W
        go_simp
        try with_reducible rfl
      simp only [List.getElem_toArray, List.getElem_cons_succ, List.getElem_cons_zero, Act.put, List.setIfInBounds_toArray, List.set_cons_zero, List.set_cons_succ]
      refine wpAnyH_take (i := 5) (v := ?_) rfl (by kernel_rfl) (by kernel_rfl) (by kernel_rfl) (fun _ _ _ h => h) (Yields.yieldsIf (Or.inl ⟨by rfl, ?_⟩)) hHeld ?_
      rotate_left
      · intro W
        go_simp
        try with_reducible rfl
      simp only [List.getElem_toArray, List.getElem_cons_succ, List.getElem_cons_zero, Act.put, List.setIfInBounds_toArray, List.set_cons_zero, List.set_cons_succ]
      refine wpAnyH_ready (rs := [3]) (by kernel_rfl) (by simp) ?_
      refine AllReadyH.cons rfl (fun K hK => ?_) AllReadyH.nil
      refine step_call rfl Try.func21 (by kernel_rfl) (by kernel_rfl) #[.tmp 52] #[23] rfl #[.int .u64 a] ?hv (opts17_any a HA.out.1.1 HA.out.1.2 _) ?_
      case hv => go_simp
      rintro e w4 ⟨v4, us, rfl, ho4, hu4, hb4⟩
      refine ⟨_, rfl, ?_⟩
      obtain ⟨A4, c4, rfl, _⟩ := own_slice ho4.1
      obtain ⟨u, rfl, _, _⟩ := opts_one hu4
      have S4 : Step w4 _ := ⟨hb4⟩
      have HO4 := Lib.hid ho4
      have HU4 := Lib.hid hu4
      have X4 : Ext ((w.alloc (.cells cf 25)).alloc (.cells df 25)) w4 := inferInstance
      clear ho4 hu4 hb4 hHeld
      refine hK.out _ _ (at_ext HG2.out) (fun hHeld => ?_)
      clear hK K
      simp only [List.getElem_toArray, List.getElem_cons_succ, List.getElem_cons_zero, Act.put, List.setIfInBounds_toArray, List.set_cons_zero, List.set_cons_succ]
      refine wpAnyH_ready (rs := [6]) (by kernel_rfl) (by simp) ?_
      refine AllReadyH.cons rfl (fun K hK => ?_) AllReadyH.nil
      refine step_call rfl Try.func15 (by kernel_rfl) (by kernel_rfl) #[.tmp 50, .tmp 51, .tmp 53, .tmp 54, .tmp 55] #[25, 23, 26, 3, 23] rfl #[.agg df, .int .u64 a, .slice A4 1 c4, .int .i64 0, .int .u64 third] ?hv (judge17_any df a 0 maxf third A4 1 c4 [u] HCF2.out rfl (by omega) HBB.out.1 HT.out _ (own_cells HO4.out.1).ext HO4.out.good.ext) ?_
      case hv => go_simp
      rintro e w5 ⟨v5, xs, rfl, ho5, hx5, hb5⟩
      refine ⟨_, rfl, ?_⟩
      rw [HU4.out, HJ.out] at hx5
      rw [HU4.out, HJ.out]
      have S5 : Step w5 _ := ⟨hb5⟩
      obtain ⟨A5, c5, rfl, _⟩ := own_slice ho5.1
      obtain ⟨x, rfl, _, _⟩ := opts_one hx5
      have HO5 := Lib.hid ho5
      have HX5 := Lib.hid hx5
      have X5 : Ext ((w.alloc (.cells cf 25)).alloc (.cells df 25)) w5 := inferInstance
      have Y5 : Ext w w5 := inferInstance
      clear ho5 hx5 hb5 hHeld
      refine hK.out _ _ (at_ext HG2.out) (fun hHeld => ?_)
      clear hK K
      simp only [List.getElem_toArray, List.getElem_cons_succ, List.getElem_cons_zero, Act.put, List.setIfInBounds_toArray, List.set_cons_zero, List.set_cons_succ]
      refine wpAnyH_take (i := 7) (v := ?_) rfl (by kernel_rfl) (by kernel_rfl) (by kernel_rfl) (fun _ _ _ h => h) (Yields.yieldsIf (Or.inl ⟨by rfl, ?_⟩)) hHeld ?_
      rotate_left
      · intro W
        go_simp
        try with_reducible rfl
      simp only [List.getElem_toArray, List.getElem_cons_succ, List.getElem_cons_zero, Act.put, List.setIfInBounds_toArray, List.set_cons_zero, List.set_cons_succ]
      refine wpAnyH_take (i := 8) (v := ?_) rfl (by kernel_rfl) (by kernel_rfl) (by kernel_rfl) (fun _ _ _ h => h) (Yields.yieldsIf (Or.inl ⟨by rfl, ?_⟩)) hHeld ?_
      rotate_left
      · intro W
        go_simp
        try with_reducible rfl
      simp only [List.getElem_toArray, List.getElem_cons_succ, List.getElem_cons_zero, Act.put, List.setIfInBounds_toArray, List.set_cons_zero, List.set_cons_succ]
      refine wpAnyH_take (i := 9) (v := ?_) rfl (by kernel_rfl) (by kernel_rfl) (by kernel_rfl) (fun _ _ _ h => h) (Yields.yieldsIf (Or.inl ⟨by rfl, ?_⟩)) hHeld ?_
      rotate_left
      · intro W
        go_simp
        try with_reducible rfl
      simp only [List.getElem_toArray, List.getElem_cons_succ, List.getElem_cons_zero, Act.put, List.setIfInBounds_toArray, List.set_cons_zero, List.set_cons_succ]
      refine wpAnyH_take (i := 10) (v := ?_) rfl (by kernel_rfl) (by kernel_rfl) (by kernel_rfl) (fun _ _ _ h => h) (Yields.yieldsIf (Or.inl ⟨by rfl, ?_⟩)) hHeld ?_
      rotate_left
      · intro W
        go_simp
        try with_reducible rfl
      simp only [List.getElem_toArray, List.getElem_cons_succ, List.getElem_cons_zero, Act.put, List.setIfInBounds_toArray, List.set_cons_zero, List.set_cons_succ]
      refine wpAnyH_take (i := 11) (v := ?_) rfl (by kernel_rfl) (by kernel_rfl) (by kernel_rfl) (fun _ _ _ h => h) (Yields.yieldsIf (Or.inl ⟨by rfl, ?_⟩)) hHeld ?_
      rotate_left
      · intro W
        go_simp
        try with_reducible rfl
      simp only [List.getElem_toArray, List.getElem_cons_succ, List.getElem_cons_zero, Act.put, List.setIfInBounds_toArray, List.set_cons_zero, List.set_cons_succ]
      refine wpAnyH_done (by kernel_rfl) ?_ _
      clear hHeld
      all_goals
        go_wp2_with fail
        refine (nak17_any a (inc64 one) A5 1 c5 [x] HA.out.1 (giv64_inc _) rfl (by omega) _ (by exact (own_cells HO5.out.1).ext) (by exact HO5.out.good.ext)).mono ?_
        rintro e w6 ⟨rfl, hb6⟩
        rw [HX5.out, nak_one HGv.out.1 HGv.out.2.1 HGv.out.2.2]
        have S6 : Step w6 _ := ⟨hb6⟩
        clear hb6
        generalize givF third a = N at *
        go_wp2
        go_roundw
        case rel => exact ⟨N, 1, rfl, rfl, by omega, .inr HGv.out.2.2, ⟨HGv.out.1, HGv.out.2.1⟩, (inferInstance : Ext _ _)⟩
        case measure => simp [intOf]
    · skip
      have HJ : Hid (judgeF b (k : Int) maxf third [(1, be a 8)] = (2, [(1, be a 8)])) := by
        unfold Hid
        rw [judge_one HA.out.1 HA.out.2, if_pos hab]
      have HD := Lib.hid (doneF_ok HA.out.2 HBB.out.2 hab)
      clear hor
      have hkk : (k : Int) < 3 := by omega
      clear hab
      go_wp2
      refine wp_region_held_drew (S := fun W => W.heap[w.heap.size + 1]? = some (.cells df 25 (0, 0))) (by kernel_rfl) (at_ext HG2.out) (fun hHeld => ?_)
      refine wpAnyH_take (i := 0) (v := .agg df) rfl (by kernel_rfl) (by kernel_rfl) (by kernel_rfl) (fun _ _ _ h => h) (yields_row rfl 25 (.tmp 6) rfl (w.heap.size + 1) rfl 25 df (0, 0) _ Try.underlying25 rfl HSZ2.out) hHeld ?_
      simp only [List.getElem_toArray, List.getElem_cons_succ, List.getElem_cons_zero, Act.put, List.setIfInBounds_toArray, List.set_cons_zero, List.set_cons_succ]
      refine wpAnyH_take (i := 1) (v := ?_) rfl (by kernel_rfl) (by kernel_rfl) (by kernel_rfl) (fun _ _ _ h => h) (Yields.yieldsIf (Or.inl ⟨by rfl, ?_⟩)) hHeld ?_
      rotate_left
      · intro W
        go_simp
        try with_reducible rfl
      simp only [List.getElem_toArray, List.getElem_cons_succ, List.getElem_cons_zero, Act.put, List.setIfInBounds_toArray, List.set_cons_zero, List.set_cons_succ]
      refine wpAnyH_take (i := 2) (v := ?_) rfl (by kernel_rfl) (by kernel_rfl) (by kernel_rfl) (fun _ _ _ h => h) (Yields.yieldsIf (Or.inl ⟨by rfl, ?_⟩)) hHeld ?_
      rotate_left
      · intro W
        go_simp
        try with_reducible rfl
      simp only [List.getElem_toArray, List.getElem_cons_succ, List.getElem_cons_zero, Act.put, List.setIfInBounds_toArray, List.set_cons_zero, List.set_cons_succ]
      refine wpAnyH_take (i := 4) (v := ?_) rfl (by kernel_rfl) (by kernel_rfl) (by kernel_rfl) (fun _ _ _ h => h) (Yields.yieldsIf (Or.inl ⟨by rfl, ?_⟩)) hHeld ?_
      rotate_left
      · intro W
        go_simp
        try with_reducible rfl
      simp only [List.getElem_toArray, List.getElem_cons_succ, List.getElem_cons_zero, Act.put, List.setIfInBounds_toArray, List.set_cons_zero, List.set_cons_succ]
      refine wpAnyH_take (i := 5) (v := ?_) rfl (by kernel_rfl) (by kernel_rfl) (by kernel_rfl) (fun _ _ _ h => h) (Yields.yieldsIf (Or.inl ⟨by rfl, ?_⟩)) hHeld ?_
      rotate_left
      · intro W
        go_simp
        try with_reducible rfl
      simp only [List.getElem_toArray, List.getElem_cons_succ, List.getElem_cons_zero, Act.put, List.setIfInBounds_toArray, List.set_cons_zero, List.set_cons_succ]
      refine wpAnyH_ready (rs := [3]) (by kernel_rfl) (by simp) ?_
      refine AllReadyH.cons rfl (fun K hK => ?_) AllReadyH.nil
      refine step_call rfl Try.func21 (by kernel_rfl) (by kernel_rfl) #[.tmp 52] #[23] rfl #[.int .u64 a] ?hv (opts17_any a HA.out.1.1 HA.out.1.2 _) ?_
      case hv => go_simp
      rintro e w4 ⟨v4, us, rfl, ho4, hu4, hb4⟩
      refine ⟨_, rfl, ?_⟩
      obtain ⟨A4, c4, rfl, _⟩ := own_slice ho4.1
      obtain ⟨u, rfl, _, _⟩ := opts_one hu4
      have S4 : Step w4 _ := ⟨hb4⟩
      have HO4 := Lib.hid ho4
      have HU4 := Lib.hid hu4
      have X4 : Ext ((w.alloc (.cells cf 25)).alloc (.cells df 25)) w4 := inferInstance
      clear ho4 hu4 hb4 hHeld
      refine hK.out _ _ (at_ext HG2.out) (fun hHeld => ?_)
      clear hK K
      simp only [List.getElem_toArray, List.getElem_cons_succ, List.getElem_cons_zero, Act.put, List.setIfInBounds_toArray, List.set_cons_zero, List.set_cons_succ]
      refine wpAnyH_ready (rs := [6]) (by kernel_rfl) (by simp) ?_
      refine AllReadyH.cons rfl (fun K hK => ?_) AllReadyH.nil
      refine step_call rfl Try.func15 (by kernel_rfl) (by kernel_rfl) #[.tmp 50, .tmp 51, .tmp 53, .tmp 54, .tmp 55] #[25, 23, 26, 3, 23] rfl #[.agg df, .int .u64 b, .slice A4 1 c4, .int .i64 (k:Int), .int .u64 third] ?hv (judge17_any df b (k:Int) maxf third A4 1 c4 [u] HCF2.out rfl (by omega) HBB.out.1 HT.out _ (own_cells HO4.out.1).ext HO4.out.good.ext) ?_
      case hv => go_simp
      rintro e w5 ⟨v5, xs, rfl, ho5, hx5, hb5⟩
      refine ⟨_, rfl, ?_⟩
      rw [HU4.out, HJ.out] at hx5
      rw [HU4.out, HJ.out]
      have S5 : Step w5 _ := ⟨hb5⟩
      obtain ⟨A5, c5, rfl, _⟩ := own_slice ho5.1
      obtain ⟨x, rfl, _, _⟩ := opts_one hx5
      have HO5 := Lib.hid ho5
      have HX5 := Lib.hid hx5
      have X5 : Ext ((w.alloc (.cells cf 25)).alloc (.cells df 25)) w5 := inferInstance
      have Y5 : Ext w w5 := inferInstance
      clear ho5 hx5 hb5 hHeld
      refine hK.out _ _ (at_ext HG2.out) (fun hHeld => ?_)
      clear hK K
      simp only [List.getElem_toArray, List.getElem_cons_succ, List.getElem_cons_zero, Act.put, List.setIfInBounds_toArray, List.set_cons_zero, List.set_cons_succ]
      refine wpAnyH_take (i := 7) (v := ?_) rfl (by kernel_rfl) (by kernel_rfl) (by kernel_rfl) (fun _ _ _ h => h) (Yields.yieldsIf (Or.inl ⟨by rfl, ?_⟩)) hHeld ?_
      rotate_left
      · intro W
        go_simp
        try with_reducible rfl
      simp only [List.getElem_toArray, List.getElem_cons_succ, List.getElem_cons_zero, Act.put, List.setIfInBounds_toArray, List.set_cons_zero, List.set_cons_succ]
      refine wpAnyH_take (i := 8) (v := ?_) rfl (by kernel_rfl) (by kernel_rfl) (by kernel_rfl) (fun _ _ _ h => h) (Yields.yieldsIf (Or.inl ⟨by rfl, ?_⟩)) hHeld ?_
      rotate_left
      · intro W
        go_simp
        try with_reducible rfl
      simp only [List.getElem_toArray, List.getElem_cons_succ, List.getElem_cons_zero, Act.put, List.setIfInBounds_toArray, List.set_cons_zero, List.set_cons_succ]
      refine wpAnyH_take (i := 9) (v := ?_) rfl (by kernel_rfl) (by kernel_rfl) (by kernel_rfl) (fun _ _ _ h => h) (Yields.yieldsIf (Or.inl ⟨by rfl, ?_⟩)) hHeld ?_
      rotate_left
      · intro W
        go_simp
        try with_reducible rfl
      simp only [List.getElem_toArray, List.getElem_cons_succ, List.getElem_cons_zero, Act.put, List.setIfInBounds_toArray, List.set_cons_zero, List.set_cons_succ]
      refine wpAnyH_take (i := 10) (v := ?_) rfl (by kernel_rfl) (by kernel_rfl) (by kernel_rfl) (fun _ _ _ h => h) (Yields.yieldsIf (Or.inl ⟨by rfl, ?_⟩)) hHeld ?_
      rotate_left
      · intro W
        go_simp
        try with_reducible rfl
      simp only [List.getElem_toArray, List.getElem_cons_succ, List.getElem_cons_zero, Act.put, List.setIfInBounds_toArray, List.set_cons_zero, List.set_cons_succ]
      refine wpAnyH_take (i := 11) (v := ?_) rfl (by kernel_rfl) (by kernel_rfl) (by kernel_rfl) (fun _ _ _ h => h) (Yields.yieldsIf (Or.inl ⟨by rfl, ?_⟩)) hHeld ?_
      rotate_left
      · intro W
        go_simp
        try with_reducible rfl
      simp only [List.getElem_toArray, List.getElem_cons_succ, List.getElem_cons_zero, Act.put, List.setIfInBounds_toArray, List.set_cons_zero, List.set_cons_succ]
      refine wpAnyH_done (by kernel_rfl) ?_ _
      clear hHeld
      all_goals
        go_wp2_with fail
        refine (done17_any a b _).mono ?_
        rintro e w6 ⟨rfl, rfl⟩
        rw [HD.out]
        go_wp2_with fail
        refine (known17_any _).mono ?_
        rintro e w7 ⟨rfl, hb7⟩
        have S7 : Step w7 _ := ⟨hb7⟩
        clear hb7
        go_wp2
        go_ret
        exact ⟨rfl, Ext.out⟩

set_option maxRecDepth 100000 in
set_option maxHeartbeats 8000000 in
theorem ends17_law (cf df : Array Value) (one two third i1 i2 m1 maxf : Int) (hsz : (Try.prog.info? 25).map (·.size) = some cf.size) (hsz2 : (Try.prog.info? 25).map (·.size) = some df.size) (hid1 : cf[15]? = some (.int .u64 i1)) (hid2 : df[15]? = some (.int .u64 i2))
    (hcf : cf[21]? = some (.int .i64 m1)) (hcf2 : df[21]? = some (.int .i64 maxf)) (g1 : giv64 i1) (g2 : giv64 i2) (ho : giv64 one) (ht : giv64 two) (h3 : giv64 third) (w : World) :
    Calls Try.prog 6 #[.agg cf, .agg df, .int .u64 one, .int .u64 two, .int .u64 third] w fun e w' => e = .returned (.bool true) ∧ Below w.heap.size w w' := by
  by_cases hm1 : m1 < 3
  ·
    have HSZ := Lib.hid hsz
    have HSZ2 := Lib.hid hsz2
    have HID1 := Lib.hid hid1
    have HID2 := Lib.hid hid2
    have HCF2 := Lib.hid hcf2
    have HT := Lib.hid h3
    have HWA := Lib.hid (wantF_good g1 ho)
    have HWB := Lib.hid (wantF_good g2 ht)
    have HO := Lib.hid ho
    have HTw := Lib.hid ht
    have HG : Hid (((w.alloc (.cells cf 25)).alloc (.cells df 25)).heap[w.heap.size]? = some (.cells cf 25 (0, 0))) := at_ext (at_new w (.cells cf 25))
    have HG2 : Hid (((w.alloc (.cells cf 25)).alloc (.cells df 25)).heap[w.heap.size + 1]? = some (.cells df 25 (0, 0))) := at_new1 (by simp)
    have q1 : ((w.alloc (.cells cf 25)).alloc (.cells df 25)).cell? ⟨w.heap.size, 21, none⟩ = some (.int .i64 m1) := (at_cell HG.out 21).trans hcf
    have q2 : ((w.alloc (.cells cf 25)).alloc (.cells df 25)).cell? ⟨w.heap.size + 1, 21, none⟩ = some (.int .i64 maxf) := (at_cell HG2.out 21).trans hcf2
    have q3 : ((w.alloc (.cells cf 25)).alloc (.cells df 25)).cell? ⟨w.heap.size, 15, none⟩ = some (.int .u64 i1) := (at_cell HG.out 15).trans hid1
    have q4 : ((w.alloc (.cells cf 25)).alloc (.cells df 25)).cell? ⟨w.heap.size + 1, 15, none⟩ = some (.int .u64 i2) := (at_cell HG2.out 15).trans hid2
    clear hsz hsz2 hid1 hid2 hcf hcf2 ho ht h3 g1 g2
    go_enter Try.func6, Try.ntmps6
    go_wp2_with fail
    refine (known17_any _).mono ?_
    rintro e w1 ⟨rfl, hb1⟩
    have S1 : Step w1 _ := ⟨hb1⟩
    clear hb1
    go_wp2
    go_ret
    exact ⟨rfl, Ext.out⟩
  by_cases hm2 : maxf < 3
  ·
    have HSZ := Lib.hid hsz
    have HSZ2 := Lib.hid hsz2
    have HID1 := Lib.hid hid1
    have HID2 := Lib.hid hid2
    have HCF2 := Lib.hid hcf2
    have HT := Lib.hid h3
    have HWA := Lib.hid (wantF_good g1 ho)
    have HWB := Lib.hid (wantF_good g2 ht)
    have HO := Lib.hid ho
    have HTw := Lib.hid ht
    have HG : Hid (((w.alloc (.cells cf 25)).alloc (.cells df 25)).heap[w.heap.size]? = some (.cells cf 25 (0, 0))) := at_ext (at_new w (.cells cf 25))
    have HG2 : Hid (((w.alloc (.cells cf 25)).alloc (.cells df 25)).heap[w.heap.size + 1]? = some (.cells df 25 (0, 0))) := at_new1 (by simp)
    have q1 : ((w.alloc (.cells cf 25)).alloc (.cells df 25)).cell? ⟨w.heap.size, 21, none⟩ = some (.int .i64 m1) := (at_cell HG.out 21).trans hcf
    have q2 : ((w.alloc (.cells cf 25)).alloc (.cells df 25)).cell? ⟨w.heap.size + 1, 21, none⟩ = some (.int .i64 maxf) := (at_cell HG2.out 21).trans hcf2
    have q3 : ((w.alloc (.cells cf 25)).alloc (.cells df 25)).cell? ⟨w.heap.size, 15, none⟩ = some (.int .u64 i1) := (at_cell HG.out 15).trans hid1
    have q4 : ((w.alloc (.cells cf 25)).alloc (.cells df 25)).cell? ⟨w.heap.size + 1, 15, none⟩ = some (.int .u64 i2) := (at_cell HG2.out 15).trans hid2
    clear hsz hsz2 hid1 hid2 hcf hcf2 ho ht h3 g1 g2
    go_enter Try.func6, Try.ntmps6
    go_wp2_with fail
    refine (known17_any _).mono ?_
    rintro e w1 ⟨rfl, hb1⟩
    have S1 : Step w1 _ := ⟨hb1⟩
    clear hb1
    go_wp2
    go_ret
    exact ⟨rfl, Ext.out⟩
  by_cases hi0 : i1 = 0
  · subst hi0
    exact ends17_a cf df one two third i2 m1 maxf hsz hsz2 hid1 hid2 hcf hcf2 g1 hm1 hm2 g2 ho ht h3 w
  have hi0' : (i1 != 0) = true := by simpa using hi0
  by_cases hi : i1 = i2
  · have hi2 : (i1 == i2) = true := by simpa using hi
    clear hi0 hi
    have HSZ := Lib.hid hsz
    have HSZ2 := Lib.hid hsz2
    have HID1 := Lib.hid hid1
    have HID2 := Lib.hid hid2
    have HCF2 := Lib.hid hcf2
    have HT := Lib.hid h3
    have HWA := Lib.hid (wantF_good g1 ho)
    have HWB := Lib.hid (wantF_good g2 ht)
    have HO := Lib.hid ho
    have HTw := Lib.hid ht
    have HG : Hid (((w.alloc (.cells cf 25)).alloc (.cells df 25)).heap[w.heap.size]? = some (.cells cf 25 (0, 0))) := at_ext (at_new w (.cells cf 25))
    have HG2 : Hid (((w.alloc (.cells cf 25)).alloc (.cells df 25)).heap[w.heap.size + 1]? = some (.cells df 25 (0, 0))) := at_new1 (by simp)
    have q1 : ((w.alloc (.cells cf 25)).alloc (.cells df 25)).cell? ⟨w.heap.size, 21, none⟩ = some (.int .i64 m1) := (at_cell HG.out 21).trans hcf
    have q2 : ((w.alloc (.cells cf 25)).alloc (.cells df 25)).cell? ⟨w.heap.size + 1, 21, none⟩ = some (.int .i64 maxf) := (at_cell HG2.out 21).trans hcf2
    have q3 : ((w.alloc (.cells cf 25)).alloc (.cells df 25)).cell? ⟨w.heap.size, 15, none⟩ = some (.int .u64 i1) := (at_cell HG.out 15).trans hid1
    have q4 : ((w.alloc (.cells cf 25)).alloc (.cells df 25)).cell? ⟨w.heap.size + 1, 15, none⟩ = some (.int .u64 i2) := (at_cell HG2.out 15).trans hid2
    clear hsz hsz2 hid1 hid2 hcf hcf2 ho ht h3 g1 g2
    go_enter Try.func6, Try.ntmps6
    go_wp2_with fail
    refine (known17_any _).mono ?_
    rintro e w1 ⟨rfl, hb1⟩
    have S1 : Step w1 _ := ⟨hb1⟩
    clear hb1
    go_wp2
    go_ret
    exact ⟨rfl, Ext.out⟩
  have hi' : (i1 == i2) = false := by simpa using hi
  exact ends17_b cf df one two third i1 i2 m1 maxf hsz hsz2 hid1 hid2 hcf hcf2 g1 hm1 hm2 hi0' hi' g2 ho ht h3 w

namespace Ipv6cpEnds
set_option maxRecDepth 100000 in
theorem walk (U : Nat) (W : World) (vs : List Value) (h : Args U Try.prog W Try.f6.params.toList vs) : Calls Try.prog 6 vs.toArray W fun e W' => e = .returned (.bool true) ∧ Below W.heap.size W W' := by
  rw [Try.params6] at h
  match vs, h with
  | [v0, v1, v2, v3, v4], ⟨h0, h1, h2, h3, h4, _⟩ =>
    obtain ⟨cf, i1, m1, rfl, hsz, hi1, hcf, k1, _⟩ := arg_conf h0
    obtain ⟨df, i2, m2, rfl, hsz2, hi2, hcf2, k2, _⟩ := arg_conf h1
    obtain ⟨one, rfl, hw2⟩ := h2.int Try.underlying23
    obtain ⟨two, rfl, hw3⟩ := h3.int Try.underlying23
    obtain ⟨third, rfl, hw4⟩ := h4.int Try.underlying23
    exact ends17_law cf df one two third i1 i2 m1 m2 hsz hsz2 hi1 hi2 hcf hcf2 k1 k2 (wf_u64 hw2) (wf_u64 hw3) (wf_u64 hw4) W

set_option maxRecDepth 100000 in
theorem lifted (os : Os) (started : os.Started) (H : Type) (enc : TypeId × Value → H) :
    ReturnsInHanded {} Try.checked os 6 .any (Rows.ipv6cpEndsSpec.pre6 enc Try.prog Try.f6 Rows.ipv6cpEndsRow.domain false) (Rows.ipv6cpEndsSpec.post enc Try.prog Try.f6 false true false false) :=
  law_lifted (C := Try.checked) laid_out own_knob started (by kernel_rfl) Try.func6 H enc rfl
    (fun ds hd => by
      have : ds.length = 5 := hd
      match ds, this with
      | [_, _, _, _, _], _ => exact ⟨rfl, rfl, rfl⟩) rfl Try.underlying4 (by
      have : (Try.f6.params.toList.all fun t => Try.prog.readableRec t && decide (t < Try.prog.types.size)) = true := by kernel_rfl
      intro t ht
      have h := List.all_eq_true.1 this t ht
      rw [Bool.and_eq_true, decide_eq_true_eq] at h
      exact h)
    (ChangeSpec.witness6 (enc := enc) (C := Try.checked) false ⟨#[], #[.agg #[.string ⟨#[]⟩, .string ⟨#[]⟩, .int .i64 0, .slice none 0 0, .int .i64 0, .int .i64 0, .bool false, .bool false, .bool false, .int .i64 0, .int .i64 0, .int .i64 0, .int .i64 0, .bool false, .bool false, .int .u64 0, .int .i64 0, .int .i64 0, .int .i64 0, .int .i64 0, .int .i64 0, .int .i64 0, .int .i64 0, .int .i64 0, .int .i64 0, .int .i64 0, .int .i64 0, .int .i64 0, .bool false, .bool false, .int .i64 0, .string ⟨#[]⟩, .string ⟨#[]⟩], .agg #[.string ⟨#[]⟩, .string ⟨#[]⟩, .int .i64 0, .slice none 0 0, .int .i64 0, .int .i64 0, .bool false, .bool false, .bool false, .int .i64 0, .int .i64 0, .int .i64 0, .int .i64 0, .bool false, .bool false, .int .u64 0, .int .i64 0, .int .i64 0, .int .i64 0, .int .i64 0, .int .i64 0, .int .i64 0, .int .i64 0, .int .i64 0, .int .i64 0, .int .i64 0, .int .i64 0, .int .i64 0, .bool false, .bool false, .int .i64 0, .string ⟨#[]⟩, .string ⟨#[]⟩], .int .u64 0, .int .u64 0, .int .u64 0], []⟩ 8 (by kernel_rfl) (by kernel_rfl) (by kernel_rfl) (by kernel_rfl)) walk

theorem over : Rows.ipv6cpEndsRow.holds Try.pinned (OpenSpec.ofChange Rows.ipv6cpEndsSpec) :=
  OpenClaim.holds_of_wide 6 Try.f6 rfl rfl rfl rfl rfl rfl rfl ⟨rfl, rfl, rfl, rfl, rfl⟩ rfl rfl rfl rfl rfl (by kernel_rfl) Try.func6 (by kernel_rfl)
    (of_decide_eq_true (by kernel_rfl)) (by unfold Func.isWrapper; first | (rw [if_pos (by decide +kernel)]; kernel_rfl) | (rw [if_neg (by decide +kernel)]; exact ⟨rfl, rfl⟩))
    (fun os started H enc _ => lifted os started H enc)

/-- The statement. -/
theorem proved : Rows.Ipv6cpEndsSaid := over
#print axioms proved
end Ipv6cpEnds
end Go.Proofs.Ytmopdimokoogmaa
