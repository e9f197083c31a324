/-
  The reference's Options. No condition.
-/
import Derived.Test.YtodibldfolognaaLcS
import Derived.Test.YtodibldfolognaaLcH
import Derived.Deep.DeepCutAuto
namespace Go.Proofs.Ytodibldfolognaa
open Go.RowKit
set_option linter.unusedVariables false
set_option linter.unusedSimpArgs false

theorem rauth_nil (m : Int) (h : authL m = []) (w : World) : Calls Try.prog 37 #[.int .i64 m] w fun e w' => e = .returned (.slice none 0 0) ∧ w' = w := by
  have h1 : ¬ m = 1 := by rintro rfl; cases h
  have h2 : ¬ m = 2 := by rintro rfl; cases h
  have h3 : ¬ m = 3 := by rintro rfl; cases h
  have h1' : (m == 1) = false := by simpa using h1
  have h2' : (m == 2) = false := by simpa using h2
  have h3' : (m == 3) = false := by simpa using h3
  clear h
  go_enter Try.func37, Try.ntmps37
  go_wp2
  go_ret
  exact ⟨rfl, rfl⟩
theorem addF_no (t : Int) (d : List Int) (L : List (Int × List Int)) : L ++ addF false t d = L := by simp [addF]
def RL (wb : World) (os : List (Int × List Int)) (k : Nat) (v : Value) (W : World) : Prop :=
  ∃ (L : Option Addr) (c : Nat) (us : List OV), v = .slice L us.length c ∧ Hid (OptsOwn W wb.heap.size (.slice L us.length c) us) ∧ Hid (us.map OV.opt = os) ∧ us.length ≤ k ∧ Hid (Ext wb W)
theorem rl_push {wb W : World} {L : Option Addr} {c k : Nat} {us : List OV} {u : OV} {os os2 : List (Int × List Int)} (H : Hid (OptsOwn W wb.heap.size (.slice L (us.length + 1) c) (us ++ [u]))) (X : Hid (Ext wb W)) (hm : us.map OV.opt = os) (hk : us.length ≤ k) (he : os ++ [u.opt] = os2) : RL wb os2 (k + 1) (.slice L (us.length + 1) c) W := by
  have hl : us.length + 1 = (us ++ [u]).length := by simp
  refine ⟨L, c, us ++ [u], by rw [hl], ?_, ?_, by rw [← hl]; omega, X⟩
  · rw [← hl]
    exact H
  · unfold Hid
    rw [List.map_append, hm]
    exact he
set_option maxRecDepth 100000 in
set_option maxHeartbeats 8000000 in
theorem roptions_any (o : OS) (hm0 : 0 ≤ o.magic) (hm1 : o.magic < 4294967296) (w : World) :
    Calls Try.prog 30 #[.agg #[.int .i64 o.mru, .int .i64 o.accm, .int .i64 o.auth, .int .u32 o.magic, .bool o.pfc, .bool o.acfc]] w fun e w' => ∃ v us, e = .returned v ∧ OptsOwn w' w.heap.size v us ∧ us.map OV.opt = optionsF o ∧ Below w.heap.size w w' := by
  obtain ⟨mru, accm, auth, magic, pfc, acfc⟩ := o
  simp only at hm0 hm1
  simp only
  have HMG := Lib.hid (show 0 ≤ magic ∧ magic < 18446744073709551616 from by omega)
  clear hm0 hm1
  go_enter Try.func30, Try.ntmps30
  go_upto_region 2 with fail
  obtain ⟨wb, hwb⟩ : ∃ wb, w.alloc (.cells #[.int .i64 mru, .int .i64 accm, .int .i64 auth, .int .u32 magic, .bool pfc, .bool acfc] 28) = wb := ⟨_, rfl⟩
  have HB1 : Hid (wb.heap[w.heap.size]? = some (.cells #[.int .i64 mru, .int .i64 accm, .int .i64 auth, .int .u32 magic, .bool pfc, .bool acfc] 28 (0, 0))) := by unfold Hid; rw [← hwb]; exact at_new w _
  have HBI : Hid (Below w.heap.size w wb) := by unfold Hid; rw [← hwb]; exact Ext.out
  have HBS : Hid (Ext w wb) := by unfold Hid; rw [← hwb]; exact inferInstance
  rw [hwb]
  clear hwb
  have p0 : wb.cell? ⟨w.heap.size, 0, none⟩ = some (.int .i64 mru) := at_cell HB1.out 0
  go_upto_if 6 with fail
  go_cut [3] (fun s3 wx => RL wb ([] ++ addF (mru != 1500) 1 (be (w64 mru) 2)) 1 s3 wx)
  case first =>
    have HO : Hid (OptsOwn wb wb.heap.size (.slice none 0 0) []) := OptsOwn.nil_ _ _
    have HM : Hid (([] : List OV).map OV.opt = []) := rfl
    have HU : ([] : List OV).length ≤ 0 := Nat.le_refl _
    have HX : Hid (Ext wb wb) := (inferInstance : Ext wb wb)
    rcases hq : (mru != 1500) with _ | _
    · skip
      go_wp2
      go_meet
      case rel => exact ⟨_, _, ([] : List OV), rfl, HO.out.ext, (by unfold Hid; rw [hq, addF_no]; exact HM.out), by omega, (inferInstance : Ext wb _)⟩
    · go_wp2_with fail
      refine (rbytes_any (w64 mru) 2 (by omega) (w64_bd mru).1 (w64_bd mru).2 _).mono ?_
      rintro e w2 ⟨A2, c2, rfl, ho2, hb2⟩
      have S2 : Step w2 _ := ⟨hb2⟩
      have HO2 := Lib.hid ho2
      clear ho2 hb2
      go_wp2_with
        (at_builtin
         refine wp_append_box (w0 := wb) wb.heap.size rfl (.tmp 7) (.tmp 13) 29 119 (.agg #[.int .i64 0, .slice none 0 0]) 2 32 1 rfl Try.underlying29 info_opt rfl (by decide) (by decide) (.slice none ([] : List OV).length 0) ([] : List OV).length (flat ([] : List OV)) [.int .i64 1, .slice A2 2 c2] rfl rfl rfl (flat_one [⟨1, A2, 2, c2, []⟩]) (own_ext HO.out.1) Ext.out Ext.out.size (by omega) ?_
         intro v4 w4 ho4 hb4 hg4 hat4
         obtain ⟨L4, c4, rfl, _⟩ := own_slice ho4
         have H4 := Lib.hid (OptsOwn.push (u := ⟨1, A2, 2, c2, (be (w64 mru) 2)⟩) HO.out.ext size_ext (inferInstance : Ext wb w2) HO2.out ⟨be_length _ _, (by show 2 ≤ 140737488355300; omega), be_byt _ _⟩ ho4 hg4 hat4)
         have X4 : Hid (Ext wb w4) := ⟨hb4⟩
         clear ho4 hb4 hg4 hat4)
      go_meet
      case rel => exact ⟨L4, c4, _, rfl, H4, by unfold Hid; rw [hq, List.map_append, HM.out]; rfl, by simp; try omega, X4⟩
  case' rest =>
    obtain ⟨L, c, us, rfl, HO, HM, HU, HX⟩ := hcut
    generalize wc = x1 at *
  have Sx1 : Step x1 wb := ⟨HX.out.out⟩
  have p1 : x1.cell? ⟨w.heap.size, 1, none⟩ = some (.int .i64 accm) := at_cell (at_ext (w' := x1) HB1.out) 1
  go_upto_if 17 with fail
  go_cut [3] (fun s3 wx => RL wb (([] ++ addF (mru != 1500) 1 (be (w64 mru) 2)) ++ addF (accm != 4294967295) 2 (be (w64 accm) 4)) 2 s3 wx)
  case first =>
    rcases hq : (accm != 4294967295) with _ | _
    · skip
      go_wp2
      go_meet
      case rel => exact ⟨_, _, us, rfl, HO.out.ext, (by unfold Hid; rw [hq, addF_no]; exact HM.out), by omega, (inferInstance : Ext wb _)⟩
    · go_wp2_with fail
      clear p1
      refine (rbytes_any (w64 accm) 4 (by omega) (w64_bd accm).1 (w64_bd accm).2 _).mono ?_
      rintro e w2 ⟨A2, c2, rfl, ho2, hb2⟩
      skip
      have S2 : Step w2 _ := ⟨hb2⟩
      have HO2 := Lib.hid ho2
      clear ho2 hb2
      go_wp2_with
        (at_builtin
         refine wp_append_box (w0 := wb) wb.heap.size rfl (.tmp 18) (.tmp 24) 29 119 (.agg #[.int .i64 0, .slice none 0 0]) 2 32 1 rfl Try.underlying29 info_opt rfl (by decide) (by decide) (.slice L us.length c) us.length (flat us) [.int .i64 2, .slice A2 4 c2] rfl rfl rfl (flat_one [⟨2, A2, 4, c2, []⟩]) (own_ext HO.out.1) Ext.out Ext.out.size (by omega) ?_
         intro v4 w4 ho4 hb4 hg4 hat4
         obtain ⟨L4, c4, rfl, _⟩ := own_slice ho4
         have H4 := Lib.hid (OptsOwn.push (u := ⟨2, A2, 4, c2, (be (w64 accm) 4)⟩) HO.out.ext size_ext (inferInstance : Ext x1 w2) HO2.out ⟨be_length _ _, (by show 4 ≤ 140737488355300; omega), be_byt _ _⟩ ho4 hg4 hat4)
         have X4 : Hid (Ext wb w4) := ⟨hb4⟩
         clear ho4 hb4 hg4 hat4)
      go_meet
      case rel => exact rl_push H4 X4 HM.out HU (by rw [hq]; rfl)
  case' rest =>
    obtain ⟨L, c, us, rfl, HO, HM, HU, HX⟩ := hcut
    generalize wc = x2 at *
  have Sx2 : Step x2 wb := ⟨HX.out.out⟩
  have p2 : x2.cell? ⟨w.heap.size, 2, none⟩ = some (.int .i64 auth) := at_cell (at_ext (w' := x2) HB1.out) 2
  obtain ⟨qb, hqb⟩ : ∃ qb, decide (authL auth ≠ []) = qb := ⟨_, rfl⟩
  have HQB := Lib.hid hqb
  clear hqb
  go_upto_region 6 with fail
  go_cut [29] (fun s wx => s = .bool qb ∧ Hid (Ext x2 wx))
  case first =>
    by_cases hN : authL auth = []
    · have HAL := Lib.hid hN
      clear hN
      go_wp2_with fail
      refine (rauth_nil auth HAL.out _).mono ?_
      rintro e wp ⟨rfl, rfl⟩
      go_wp2_with fail
      go_meet
      case rel => exact ⟨by rw [← HQB.out, HAL.out]; rfl, (inferInstance : Ext wp wp)⟩
    · have HAL := Lib.hid hN
      have HPOS := Lib.hid (List.length_pos_iff.2 hN)
      clear hN
      go_wp2_with fail
      refine (rauth_any auth _).mono ?_
      rintro e wp ⟨v, rfl, hov, hbv⟩
      obtain ⟨g, cg, rfl, _⟩ := own_form hov HPOS.out
      have Sp : Step wp _ := ⟨hbv⟩
      clear hov hbv
      go_wp2_with fail
      go_meet
      case rel => exact ⟨by rw [← HQB.out, decide_eq_true HAL.out], (inferInstance : Ext x2 wp)⟩
  case' rest =>
    obtain ⟨rfl, HX2⟩ := hcut
    generalize wc = y2 at *
  have Sy2 : Step y2 x2 := ⟨HX2.out.out⟩
  have p2 : y2.cell? ⟨w.heap.size, 2, none⟩ = some (.int .i64 auth) := at_cell (at_ext (w' := y2) HB1.out) 2
  go_upto_if 29 with fail
  go_cut [3] (fun s3 wx => RL wb ((([] ++ addF (mru != 1500) 1 (be (w64 mru) 2)) ++ addF (accm != 4294967295) 2 (be (w64 accm) 4)) ++ addF qb 3 (authL auth)) 3 s3 wx)
  case first =>
    rcases hq : qb with _ | _
    · skip
      go_wp2
      go_meet
      case rel => exact ⟨_, _, us, rfl, HO.out.ext, (by unfold Hid; rw [hq, addF_no]; exact HM.out), by omega, (inferInstance : Ext wb _)⟩
    · have hN : authL auth ≠ [] := of_decide_eq_true (HQB.out.trans hq)
      have HPOS := Lib.hid (List.length_pos_iff.2 hN)
      clear hN
      go_wp2_with fail
      refine (rauth_any auth _).mono ?_
      rintro e wp ⟨v, rfl, hov, hbv⟩
      obtain ⟨g, cg, rfl, _⟩ := own_form hov HPOS.out
      have Sp : Step wp _ := ⟨hbv⟩
      have HOV := Lib.hid hov
      clear hov hbv p2
      go_wp2_with
        (at_builtin
         refine wp_append_box (w0 := wb) wb.heap.size rfl (.tmp 30) (.tmp 35) 29 119 (.agg #[.int .i64 0, .slice none 0 0]) 2 32 1 rfl Try.underlying29 info_opt rfl (by decide) (by decide) (.slice L us.length c) us.length (flat us) [.int .i64 3, .slice (some ⟨g, 0, none⟩) (authL auth).length cg] rfl rfl rfl (flat_one [⟨3, (some ⟨g, 0, none⟩), (authL auth).length, cg, []⟩]) (own_ext HO.out.1) Ext.out Ext.out.size (by omega) ?_
         intro v4 w4 ho4 hb4 hg4 hat4
         obtain ⟨L4, c4, rfl, _⟩ := own_slice ho4
         have H4 := Lib.hid (OptsOwn.push (u := ⟨3, (some ⟨g, 0, none⟩), (authL auth).length, cg, (authL auth)⟩) HO.out.ext size_ext (inferInstance : Ext y2 wp) HOV.out ⟨rfl, (by have := authL_len auth; simp only; omega), authL_byt auth⟩ ho4 hg4 hat4)
         have X4 : Hid (Ext wb w4) := ⟨hb4⟩
         clear ho4 hb4 hg4 hat4)
      go_meet
      case rel => exact rl_push H4 X4 HM.out HU (by rw [hq]; rfl)
  case' rest =>
    obtain ⟨L, c, us, rfl, HO, HM, HU, HX⟩ := hcut
    generalize wc = x3 at *
  have Sx3 : Step x3 wb := ⟨HX.out.out⟩
  have p3 : x3.cell? ⟨w.heap.size, 3, none⟩ = some (.int .u32 magic) := at_cell (at_ext (w' := x3) HB1.out) 3
  go_upto_if 39 with fail
  go_cut [3] (fun s3 wx => RL wb (((([] ++ addF (mru != 1500) 1 (be (w64 mru) 2)) ++ addF (accm != 4294967295) 2 (be (w64 accm) 4)) ++ addF qb 3 (authL auth)) ++ addF (magic != 0) 5 (be magic 4)) 4 s3 wx)
  case first =>
    rcases hq : (magic != 0) with _ | _
    · skip
      go_wp2
      go_meet
      case rel => exact ⟨_, _, us, rfl, HO.out.ext, (by unfold Hid; rw [hq, addF_no]; exact HM.out), by omega, (inferInstance : Ext wb _)⟩
    · go_wp2_with fail
      clear p3
      refine (rbytes_any (w64 magic) 4 (by omega) (w64_bd magic).1 (w64_bd magic).2 _).mono ?_
      rintro e w2 ⟨A2, c2, rfl, ho2, hb2⟩
      rw [w64_id HMG.out.1 HMG.out.2] at ho2
      have S2 : Step w2 _ := ⟨hb2⟩
      have HO2 := Lib.hid ho2
      clear ho2 hb2
      go_wp2_with
        (at_builtin
         refine wp_append_box (w0 := wb) wb.heap.size rfl (.tmp 40) (.tmp 46) 29 119 (.agg #[.int .i64 0, .slice none 0 0]) 2 32 1 rfl Try.underlying29 info_opt rfl (by decide) (by decide) (.slice L us.length c) us.length (flat us) [.int .i64 5, .slice A2 4 c2] rfl rfl rfl (flat_one [⟨5, A2, 4, c2, []⟩]) (own_ext HO.out.1) Ext.out Ext.out.size (by omega) ?_
         intro v4 w4 ho4 hb4 hg4 hat4
         obtain ⟨L4, c4, rfl, _⟩ := own_slice ho4
         have H4 := Lib.hid (OptsOwn.push (u := ⟨5, A2, 4, c2, (be magic 4)⟩) HO.out.ext size_ext (inferInstance : Ext x3 w2) HO2.out ⟨be_length _ _, (by show 4 ≤ 140737488355300; omega), be_byt _ _⟩ ho4 hg4 hat4)
         have X4 : Hid (Ext wb w4) := ⟨hb4⟩
         clear ho4 hb4 hg4 hat4)
      go_meet
      case rel => exact rl_push H4 X4 HM.out HU (by rw [hq]; rfl)
  case' rest =>
    obtain ⟨L, c, us, rfl, HO, HM, HU, HX⟩ := hcut
    generalize wc = x4 at *
  have Sx4 : Step x4 wb := ⟨HX.out.out⟩
  obtain ⟨qpfc, hqpfc⟩ : ∃ q, pfc = q := ⟨_, rfl⟩
  have HQpfc := Lib.hid hqpfc
  clear hqpfc
  have p4 : x4.cell? ⟨w.heap.size, 4, none⟩ = some (.bool qpfc) := by rw [← HQpfc.out]; exact at_cell (at_ext (w' := x4) HB1.out) 4
  go_upto_if 49 with fail
  go_cut [3] (fun s3 wx => RL wb ((((([] ++ addF (mru != 1500) 1 (be (w64 mru) 2)) ++ addF (accm != 4294967295) 2 (be (w64 accm) 4)) ++ addF qb 3 (authL auth)) ++ addF (magic != 0) 5 (be magic 4)) ++ addF qpfc 7 []) 5 s3 wx)
  case first =>
    rcases hq : qpfc with _ | _
    · skip
      go_wp2
      go_meet
      case rel => exact ⟨_, _, us, rfl, HO.out.ext, (by unfold Hid; rw [hq, addF_no]; exact HM.out), by omega, (inferInstance : Ext wb _)⟩
    · go_wp2_with
        (at_builtin
         refine wp_append_box (w0 := wb) wb.heap.size rfl (.tmp 50) (.tmp 52) 29 119 (.agg #[.int .i64 0, .slice none 0 0]) 2 32 1 rfl Try.underlying29 info_opt rfl (by decide) (by decide) (.slice L us.length c) us.length (flat us) [.int .i64 7, .slice none 0 0] rfl rfl rfl (flat_one [⟨7, none, 0, 0, []⟩]) (own_ext HO.out.1) Ext.out Ext.out.size (by omega) ?_
         intro v4 w4 ho4 hb4 hg4 hat4
         obtain ⟨L4, c4, rfl, _⟩ := own_slice ho4
         have H4 := Lib.hid (OptsOwn.push (u := ⟨7, none, 0, 0, []⟩) HO.out.ext size_ext (inferInstance : Ext x4 x4) (own_nil _ _ _ _) ⟨rfl, (by show 0 ≤ 140737488355300; omega), (by intro q hq; cases hq)⟩ ho4 hg4 hat4)
         have X4 : Hid (Ext wb w4) := ⟨hb4⟩
         clear ho4 hb4 hg4 hat4)
      go_meet
      case rel => exact rl_push H4 X4 HM.out HU (by rw [hq]; rfl)
  case' rest =>
    obtain ⟨L, c, us, rfl, HO, HM, HU, HX⟩ := hcut
    generalize wc = x5 at *
  have Sx5 : Step x5 wb := ⟨HX.out.out⟩
  obtain ⟨qacfc, hqacfc⟩ : ∃ q, acfc = q := ⟨_, rfl⟩
  have HQacfc := Lib.hid hqacfc
  clear hqacfc
  have p5 : x5.cell? ⟨w.heap.size, 5, none⟩ = some (.bool qacfc) := by rw [← HQacfc.out]; exact at_cell (at_ext (w' := x5) HB1.out) 5
  go_upto_if 55 with fail
  go_cut [3] (fun s3 wx => RL wb (((((([] ++ addF (mru != 1500) 1 (be (w64 mru) 2)) ++ addF (accm != 4294967295) 2 (be (w64 accm) 4)) ++ addF qb 3 (authL auth)) ++ addF (magic != 0) 5 (be magic 4)) ++ addF qpfc 7 []) ++ addF qacfc 8 []) 6 s3 wx)
  case first =>
    rcases hq : qacfc with _ | _
    · skip
      go_wp2
      go_meet
      case rel => exact ⟨_, _, us, rfl, HO.out.ext, (by unfold Hid; rw [hq, addF_no]; exact HM.out), by omega, (inferInstance : Ext wb _)⟩
    · go_wp2_with
        (at_builtin
         refine wp_append_box (w0 := wb) wb.heap.size rfl (.tmp 56) (.tmp 58) 29 119 (.agg #[.int .i64 0, .slice none 0 0]) 2 32 1 rfl Try.underlying29 info_opt rfl (by decide) (by decide) (.slice L us.length c) us.length (flat us) [.int .i64 8, .slice none 0 0] rfl rfl rfl (flat_one [⟨8, none, 0, 0, []⟩]) (own_ext HO.out.1) Ext.out Ext.out.size (by omega) ?_
         intro v4 w4 ho4 hb4 hg4 hat4
         obtain ⟨L4, c4, rfl, _⟩ := own_slice ho4
         have H4 := Lib.hid (OptsOwn.push (u := ⟨8, none, 0, 0, []⟩) HO.out.ext size_ext (inferInstance : Ext x5 x5) (own_nil _ _ _ _) ⟨rfl, (by show 0 ≤ 140737488355300; omega), (by intro q hq; cases hq)⟩ ho4 hg4 hat4)
         have X4 : Hid (Ext wb w4) := ⟨hb4⟩
         clear ho4 hb4 hg4 hat4)
      go_meet
      case rel => exact rl_push H4 X4 HM.out HU (by rw [hq]; rfl)
  case' rest =>
    obtain ⟨L, c, us, rfl, HO, HM, HU, HX⟩ := hcut
    generalize wc = x6 at *
  have Sx6 : Step x6 wb := ⟨HX.out.out⟩
  go_wp2
  go_ret
  exact ⟨_, us, rfl, HO.out.weaken HBI.out.size, HM.out.trans (by simp only [optionsF, List.nil_append, HQB.out, HQpfc.out, HQacfc.out]), HBI.out.trans (HX.out.out.mono HBI.out.size)⟩
end Go.Proofs.Ytodibldfolognaa
