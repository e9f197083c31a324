/-
  ccp: the reference's Options, both Methods, Want, and the law's own. No condition.
-/
import Derived.Test.YtnhmpmibkpoipaaCcB
import Derived.Test.YtnhmpmibkpoipaaConf
namespace Go.Proofs.Ytnhmpmibkpoipaa
open Go.RowKit
set_option linter.unusedVariables false
set_option linter.unusedSimpArgs false

def methF (d b : Int) : Int := if d ≠ 0 then 26 else if b ≠ 0 then 21 else 0
theorem method22_any (d b : Int) (w : World) : Calls Try.prog 27 #[.agg #[.int .i64 d, .int .i64 b]] w fun e w' => e = .returned (.int .i64 (methF d b)) ∧ Below w.heap.size w w' := by
  by_cases hd : d = 0
  · subst hd
    by_cases hb : b = 0
    · subst hb
      go_enter Try.func27, Try.ntmps27
      go_wp2
      go_ret
      exact ⟨rfl, Ext.out⟩
    · have HM : Hid (methF 0 b = 21) := by unfold Hid methF; rw [if_neg (by simp), if_pos hb]
      have hb' : (b != 0) = true := by simpa using hb
      clear hb
      go_enter Try.func27, Try.ntmps27
      go_wp2
      go_ret
      exact ⟨ret_num HM.out.symm, Ext.out⟩
  · have HM : Hid (methF d b = 26) := by unfold Hid methF; rw [if_pos hd]
    have hd' : (d != 0) = true := by simpa using hd
    clear hd
    go_enter Try.func27, Try.ntmps27
    go_wp2
    go_ret
    exact ⟨ret_num HM.out.symm, Ext.out⟩
theorem rmethod22_any (d b : Int) (w : World) : Calls Try.prog 28 #[.agg #[.int .i64 d, .int .i64 b]] w fun e w' => e = .returned (.int .i64 (methF d b)) ∧ Below w.heap.size w w' := by
  by_cases hd : d = 0
  · subst hd
    by_cases hb : b = 0
    · subst hb
      go_enter Try.func28, Try.ntmps28
      go_wp2
      go_ret
      exact ⟨rfl, Ext.out⟩
    · have HM : Hid (methF 0 b = 21) := by unfold Hid methF; rw [if_neg (by simp), if_pos hb]
      have hb' : (b != 0) = true := by simpa using hb
      clear hb
      go_enter Try.func28, Try.ntmps28
      go_wp2
      go_ret
      exact ⟨ret_num HM.out.symm, Ext.out⟩
  · have HM : Hid (methF d b = 26) := by unfold Hid methF; rw [if_pos hd]
    have hd' : (d != 0) = true := by simpa using hd
    clear hd
    go_enter Try.func28, Try.ntmps28
    go_wp2
    go_ret
    exact ⟨ret_num HM.out.symm, Ext.out⟩
set_option maxRecDepth 100000 in
theorem want22_any (cf : Array Value) (d b : Int) (hd : cf[16]? = some (.int .i64 d)) (hb : cf[17]? = some (.int .i64 b)) (w : World) : Calls Try.prog 29 #[.agg cf] w fun e w' => e = .returned (.agg #[.int .i64 d, .int .i64 b]) ∧ Below w.heap.size w w' := by
  have HD := Lib.hid hd
  have HB := Lib.hid hb
  have q0 : ∀ o, ((w.alloc (.cells cf 39)).alloc o).cell? ⟨w.heap.size, 16, none⟩ = some (.int .i64 d) := fun o => (at_cell (at_ext (at_new w (.cells cf 39))) 16).trans HD.out
  have q1 : ∀ o, ((w.alloc (.cells cf 39)).alloc o).cell? ⟨w.heap.size, 17, none⟩ = some (.int .i64 b) := fun o => (at_cell (at_ext (at_new w (.cells cf 39))) 17).trans HB.out
  clear hd hb
  go_enter Try.func29, Try.ntmps29
  go_wp2
  exact bodyPost_ret (v := .agg #[.int .i64 d, .int .i64 b]) (by simp [results, Try.results29, go_sem]) rfl ⟨rfl, Ext.out⟩
theorem own22L_any (d b : Int) (w : World) : Calls Try.prog 25 #[.agg #[.int .i64 d, .int .i64 b]] w fun e w' => e = .returned (.agg #[.int .i64 d, .int .i64 b]) ∧ Below w.heap.size w w' := by
  go_enter Try.func25, Try.ntmps25
  go_wp2
  exact bodyPost_ret (v := .agg #[.int .i64 d, .int .i64 b]) (by simp [results, Try.results25, go_sem]) rfl ⟨rfl, Ext.out⟩
abbrev zR (d b : Int) : Obj := .cells #[.int .i64 d, .int .i64 b] 43
set_option maxRecDepth 100000 in
set_option maxHeartbeats 4000000 in
theorem roptions22_any (d b : Int) (w : World) : Calls Try.prog 24 #[.agg #[.int .i64 d, .int .i64 b]] w (OptsTells (optsC d b) w) := by
  have HN : Hid (OptsOwn (w.alloc (zR d b)) w.heap.size (.slice none 0 0) []) := OptsOwn.nil_ _ _
  by_cases hd : 8 ≤ d ∧ d ≤ 15
  · have HDD := Lib.hid (isD_yes hd)
    obtain ⟨hd1, hd2⟩ := hd
    by_cases hb : 9 ≤ b ∧ b ≤ 15
    · have hopt : optsC d b = [(26, [dflB d, 0])] ++ [(21, [cmpB b])] := by unfold optsC; rw [HDD.out, isB_yes hb]; rfl
      have HOP := Lib.hid hopt
      obtain ⟨hb1, hb2⟩ := hb
      clear hopt
      go_enter Try.func24, Try.ntmps24
      go_wp2_with fail
      refine (rdeflate22_any _ _).mono ?_
      rintro e w1 ⟨A1, c1, rfl, ho1, hb1⟩
      have S1 : Step w1 _ := ⟨hb1⟩
      have HD1 := Lib.hid ho1
      skip
      clear ho1 hb1
      go_wp2_with
        (at_builtin
         refine wp_append_box (w0 := w) w.heap.size rfl (.tmp 12) (.tmp 17) 35 109 (.agg #[.int .i64 0, .slice none 0 0]) 2 32 1 rfl Try.underlying35 info_opt rfl (by decide) (by decide) (.slice none 0 0) 0 (flat []) [.int .i64 26, .slice A1 2 c1] rfl rfl rfl (flat_one [⟨26, A1, 2, c1, []⟩]) (own_ext HN.out.1) Ext.out Ext.out.size (by simp) ?_
         intro v2 w2 ho2 hb2 hg2 hat2
         obtain ⟨A2, c2, rfl, hc2⟩ := own_slice ho2
         have HO2 := Lib.hid (OptsOwn.push (W := (w.alloc (zR d b))) (u := ⟨26, A1, 2, c1, [dflB d, 0]⟩) HN.out (size_ext (w := w)) (inferInstance : Ext (w.alloc (zR d b)) w1) (own_weaken HD1.out (size_ext (w := (w.alloc (zR d b))))) ⟨rfl, by simp, dflB_byt d⟩ ho2 hg2 hat2)
         have X2 : Ext w w2 := ⟨hb2⟩
         have hbx : w2.cell? ⟨w.heap.size, 1, none⟩ = some (.int .i64 b) := hg2.cell (cell_ext (at_cell (at_new w (zR d b)) 1)) (by simp [Value.ownBlock])
         clear ho2 hb2 hg2 hat2 hc2)
      have HOP2 : Hid (([⟨26, A1, 2, c1, [dflB d, 0]⟩] : List OV).map OV.opt ++ [(21, [cmpB b])] = optsC d b) := HOP.out.symm
      clear HOP
      obtain ⟨us, hus⟩ : ∃ us : List OV, us = [⟨26, A1, 2, c1, [dflB d, 0]⟩] := ⟨_, rfl⟩
      have HO3 : Hid (OptsOwn w2 w.heap.size (.slice A2 1 c2) us) := by rw [hus]; exact HO2.out
      rw [← hus] at HOP2
      have hul : us.length = 1 := by rw [hus]; rfl
      have HUL := Lib.hid hul
      clear HO2 HD1 S1 hus hul
      go_wp2_with fail
      refine (rbsd22_any _ _).mono ?_
      rintro e w3 ⟨A3, c3, rfl, ho3, hb3⟩
      have S3 : Step w3 _ := ⟨hb3⟩
      have HD3 := Lib.hid ho3
      clear ho3 hb3
      go_wp2_with
        (at_builtin
         refine wp_append_box (w0 := w) w.heap.size rfl (.tmp 27) (.tmp 32) 35 109 (.agg #[.int .i64 0, .slice none 0 0]) 2 32 1 rfl Try.underlying35 info_opt rfl (by decide) (by decide) (.slice A2 1 c2) 1 (flat us) [.int .i64 21, .slice A3 1 c3] rfl rfl rfl (flat_one [⟨21, A3, 1, c3, []⟩]) (by have h1 := own_ext (w' := w3) HO3.out.1; rw [HUL.out] at h1; exact h1) Ext.out Ext.out.size (by simp) ?_
         intro v4 w4 ho4 hb4 hg4 hat4
         obtain ⟨A4, c4, rfl, hc4⟩ := own_slice ho4
         have HO4 := Lib.hid (OptsOwn.push (W := w2) (u := ⟨21, A3, 1, c3, [cmpB b]⟩) HO3.out (size_ext (w := w)) (inferInstance : Ext w2 w3) (own_weaken HD3.out (size_ext (w := w2))) ⟨rfl, by simp, cmpB_byt b⟩ (by rw [HUL.out]; exact ho4) hg4 hat4)
         have X4 : Ext w w4 := ⟨hb4⟩
         clear ho4 hb4 hg4 hat4 hc4)
      have HF : Hid ((us ++ [(⟨21, A3, 1, c3, [cmpB b]⟩ : OV)]).map OV.opt = optsC d b) := by
        unfold Hid
        rw [List.map_append]
        exact HOP2.out
      go_wp2
      go_ret
      exact ⟨_, _, rfl, HO4.out.ext, HF.out, Ext.out⟩
    · have hopt : optsC d b = [(26, [dflB d, 0])] := by unfold optsC; rw [HDD.out, isB_no hb]; rfl
      have HOP := Lib.hid hopt
      clear hopt
      by_cases hb1 : 9 ≤ b
      · have hb2 : ¬ b ≤ 15 := fun h => hb ⟨hb1, h⟩
        clear hb
        go_enter Try.func24, Try.ntmps24
        go_wp2_with fail
        refine (rdeflate22_any _ _).mono ?_
        rintro e w1 ⟨A1, c1, rfl, ho1, hb1⟩
        have S1 : Step w1 _ := ⟨hb1⟩
        have HD1 := Lib.hid ho1
        skip
        clear ho1 hb1
        go_wp2_with
          (at_builtin
           refine wp_append_box (w0 := w) w.heap.size rfl (.tmp 12) (.tmp 17) 35 109 (.agg #[.int .i64 0, .slice none 0 0]) 2 32 1 rfl Try.underlying35 info_opt rfl (by decide) (by decide) (.slice none 0 0) 0 (flat []) [.int .i64 26, .slice A1 2 c1] rfl rfl rfl (flat_one [⟨26, A1, 2, c1, []⟩]) (own_ext HN.out.1) Ext.out Ext.out.size (by simp) ?_
           intro v2 w2 ho2 hb2 hg2 hat2
           obtain ⟨A2, c2, rfl, hc2⟩ := own_slice ho2
           have HO2 := Lib.hid (OptsOwn.push (W := (w.alloc (zR d b))) (u := ⟨26, A1, 2, c1, [dflB d, 0]⟩) HN.out (size_ext (w := w)) (inferInstance : Ext (w.alloc (zR d b)) w1) (own_weaken HD1.out (size_ext (w := (w.alloc (zR d b))))) ⟨rfl, by simp, dflB_byt d⟩ ho2 hg2 hat2)
           have X2 : Ext w w2 := ⟨hb2⟩
           have hbx : w2.cell? ⟨w.heap.size, 1, none⟩ = some (.int .i64 b) := hg2.cell (cell_ext (at_cell (at_new w (zR d b)) 1)) (by simp [Value.ownBlock])
           clear ho2 hb2 hg2 hat2 hc2)
        have HF : Hid (([⟨26, A1, 2, c1, [dflB d, 0]⟩] : List OV).map OV.opt = optsC d b) := HOP.out.symm
        go_wp2
        go_ret
        exact ⟨_, _, rfl, HO2.out.ext, HF.out, Ext.out⟩
      · clear hb
        go_enter Try.func24, Try.ntmps24
        go_wp2_with fail
        refine (rdeflate22_any _ _).mono ?_
        rintro e w1 ⟨A1, c1, rfl, ho1, hb1⟩
        have S1 : Step w1 _ := ⟨hb1⟩
        have HD1 := Lib.hid ho1
        skip
        clear ho1 hb1
        go_wp2_with
          (at_builtin
           refine wp_append_box (w0 := w) w.heap.size rfl (.tmp 12) (.tmp 17) 35 109 (.agg #[.int .i64 0, .slice none 0 0]) 2 32 1 rfl Try.underlying35 info_opt rfl (by decide) (by decide) (.slice none 0 0) 0 (flat []) [.int .i64 26, .slice A1 2 c1] rfl rfl rfl (flat_one [⟨26, A1, 2, c1, []⟩]) (own_ext HN.out.1) Ext.out Ext.out.size (by simp) ?_
           intro v2 w2 ho2 hb2 hg2 hat2
           obtain ⟨A2, c2, rfl, hc2⟩ := own_slice ho2
           have HO2 := Lib.hid (OptsOwn.push (W := (w.alloc (zR d b))) (u := ⟨26, A1, 2, c1, [dflB d, 0]⟩) HN.out (size_ext (w := w)) (inferInstance : Ext (w.alloc (zR d b)) w1) (own_weaken HD1.out (size_ext (w := (w.alloc (zR d b))))) ⟨rfl, by simp, dflB_byt d⟩ ho2 hg2 hat2)
           have X2 : Ext w w2 := ⟨hb2⟩
           have hbx : w2.cell? ⟨w.heap.size, 1, none⟩ = some (.int .i64 b) := hg2.cell (cell_ext (at_cell (at_new w (zR d b)) 1)) (by simp [Value.ownBlock])
           clear ho2 hb2 hg2 hat2 hc2)
        have HF : Hid (([⟨26, A1, 2, c1, [dflB d, 0]⟩] : List OV).map OV.opt = optsC d b) := HOP.out.symm
        go_wp2
        go_ret
        exact ⟨_, _, rfl, HO2.out.ext, HF.out, Ext.out⟩
  · have HDD := Lib.hid (isD_no hd)
    by_cases hd1 : 8 ≤ d
    · have hd2 : ¬ d ≤ 15 := fun h => hd ⟨hd1, h⟩
      clear hd
      by_cases hb : 9 ≤ b ∧ b ≤ 15
      · have hopt : optsC d b = [] ++ [(21, [cmpB b])] := by unfold optsC; rw [HDD.out, isB_yes hb]; rfl
        have HOP := Lib.hid hopt
        obtain ⟨hb1, hb2⟩ := hb
        clear hopt
        go_enter Try.func24, Try.ntmps24
        go_wp2_with fail
        refine (rbsd22_any _ _).mono ?_
        rintro e w1 ⟨A1, c1, rfl, ho1, hb1⟩
        have S1 : Step w1 _ := ⟨hb1⟩
        have HD1 := Lib.hid ho1
        skip
        clear ho1 hb1
        go_wp2_with
          (at_builtin
           refine wp_append_box (w0 := w) w.heap.size rfl (.tmp 27) (.tmp 32) 35 109 (.agg #[.int .i64 0, .slice none 0 0]) 2 32 1 rfl Try.underlying35 info_opt rfl (by decide) (by decide) (.slice none 0 0) 0 (flat []) [.int .i64 21, .slice A1 1 c1] rfl rfl rfl (flat_one [⟨21, A1, 1, c1, []⟩]) (own_ext HN.out.1) Ext.out Ext.out.size (by simp) ?_
           intro v2 w2 ho2 hb2 hg2 hat2
           obtain ⟨A2, c2, rfl, hc2⟩ := own_slice ho2
           have HO2 := Lib.hid (OptsOwn.push (W := (w.alloc (zR d b))) (u := ⟨21, A1, 1, c1, [cmpB b]⟩) HN.out (size_ext (w := w)) (inferInstance : Ext (w.alloc (zR d b)) w1) (own_weaken HD1.out (size_ext (w := (w.alloc (zR d b))))) ⟨rfl, by simp, cmpB_byt b⟩ ho2 hg2 hat2)
           have X2 : Ext w w2 := ⟨hb2⟩
           skip
           clear ho2 hb2 hg2 hat2 hc2)
        have HF : Hid (([⟨21, A1, 1, c1, [cmpB b]⟩] : List OV).map OV.opt = optsC d b) := HOP.out.symm
        go_wp2
        go_ret
        exact ⟨_, _, rfl, HO2.out.ext, HF.out, Ext.out⟩
      · have hopt : optsC d b = [] := by unfold optsC; rw [HDD.out, isB_no hb]; rfl
        have HOP := Lib.hid hopt
        clear hopt
        by_cases hb1 : 9 ≤ b
        · have hb2 : ¬ b ≤ 15 := fun h => hb ⟨hb1, h⟩
          clear hb
          have HF : Hid (([] : List OV).map OV.opt = optsC d b) := HOP.out.symm
          go_enter Try.func24, Try.ntmps24
          go_wp2
          go_ret
          exact ⟨_, _, rfl, HN.out.ext, HF.out, Ext.out⟩
        · clear hb
          have HF : Hid (([] : List OV).map OV.opt = optsC d b) := HOP.out.symm
          go_enter Try.func24, Try.ntmps24
          go_wp2
          go_ret
          exact ⟨_, _, rfl, HN.out.ext, HF.out, Ext.out⟩
    · clear hd
      by_cases hb : 9 ≤ b ∧ b ≤ 15
      · have hopt : optsC d b = [] ++ [(21, [cmpB b])] := by unfold optsC; rw [HDD.out, isB_yes hb]; rfl
        have HOP := Lib.hid hopt
        obtain ⟨hb1, hb2⟩ := hb
        clear hopt
        go_enter Try.func24, Try.ntmps24
        go_wp2_with fail
        refine (rbsd22_any _ _).mono ?_
        rintro e w1 ⟨A1, c1, rfl, ho1, hb1⟩
        have S1 : Step w1 _ := ⟨hb1⟩
        have HD1 := Lib.hid ho1
        skip
        clear ho1 hb1
        go_wp2_with
          (at_builtin
           refine wp_append_box (w0 := w) w.heap.size rfl (.tmp 27) (.tmp 32) 35 109 (.agg #[.int .i64 0, .slice none 0 0]) 2 32 1 rfl Try.underlying35 info_opt rfl (by decide) (by decide) (.slice none 0 0) 0 (flat []) [.int .i64 21, .slice A1 1 c1] rfl rfl rfl (flat_one [⟨21, A1, 1, c1, []⟩]) (own_ext HN.out.1) Ext.out Ext.out.size (by simp) ?_
           intro v2 w2 ho2 hb2 hg2 hat2
           obtain ⟨A2, c2, rfl, hc2⟩ := own_slice ho2
           have HO2 := Lib.hid (OptsOwn.push (W := (w.alloc (zR d b))) (u := ⟨21, A1, 1, c1, [cmpB b]⟩) HN.out (size_ext (w := w)) (inferInstance : Ext (w.alloc (zR d b)) w1) (own_weaken HD1.out (size_ext (w := (w.alloc (zR d b))))) ⟨rfl, by simp, cmpB_byt b⟩ ho2 hg2 hat2)
           have X2 : Ext w w2 := ⟨hb2⟩
           skip
           clear ho2 hb2 hg2 hat2 hc2)
        have HF : Hid (([⟨21, A1, 1, c1, [cmpB b]⟩] : List OV).map OV.opt = optsC d b) := HOP.out.symm
        go_wp2
        go_ret
        exact ⟨_, _, rfl, HO2.out.ext, HF.out, Ext.out⟩
      · have hopt : optsC d b = [] := by unfold optsC; rw [HDD.out, isB_no hb]; rfl
        have HOP := Lib.hid hopt
        clear hopt
        by_cases hb1 : 9 ≤ b
        · have hb2 : ¬ b ≤ 15 := fun h => hb ⟨hb1, h⟩
          clear hb
          have HF : Hid (([] : List OV).map OV.opt = optsC d b) := HOP.out.symm
          go_enter Try.func24, Try.ntmps24
          go_wp2
          go_ret
          exact ⟨_, _, rfl, HN.out.ext, HF.out, Ext.out⟩
        · clear hb
          have HF : Hid (([] : List OV).map OV.opt = optsC d b) := HOP.out.symm
          go_enter Try.func24, Try.ntmps24
          go_wp2
          go_ret
          exact ⟨_, _, rfl, HN.out.ext, HF.out, Ext.out⟩
end Go.Proofs.Ytnhmpmibkpoipaa
