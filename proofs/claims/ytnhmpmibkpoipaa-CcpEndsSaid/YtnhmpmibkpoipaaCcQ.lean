/-
  tetherlaw22.CcpOptions: what is asked is options, and read as it was: for every input the call answers true. No condition.
-/
import Derived.Test.YtnhmpmibkpoipaaCcO
import Derived.Test.YtnhmpmibkpoipaaCcP
import Derived.Test.YtnhmpmibkpoipaaCcF
import Derived.Test.YtnhmpmibkpoipaaR9c
import Derived.Test.YtnhmpmibkpoipaaArgs
import Derived.Test.YtnhmpmibkpoipaaReg
namespace Go.Proofs.Ytnhmpmibkpoipaa
open Go.RowKit
set_option linter.unusedVariables false
set_option linter.unusedSimpArgs false

theorem sameB22 (os : List (Int × List Int)) : sameB os os = true := by simp [sameB]
theorem says_dfl {d : Int} (h : 8 ≤ d ∧ d ≤ 15) : saysF (26, [dflB d, 0]) = d := by
  have h1 : dflB d = 16 * (d - 8) + 8 := by unfold dflB; omega
  rw [saysF_26 (a := dflB d) (b := 0) rfl rfl rfl, h1, if_pos (by omega)]
  omega
theorem says_cmp {b : Int} (h : 9 ≤ b ∧ b ≤ 15) : saysF (21, [cmpB b]) = b := by
  have h1 : cmpB b = 32 + b := by unfold cmpB; omega
  rw [saysF_21 (a := cmpB b) rfl rfl, h1, if_pos (by omega)]
  omega
def bitsD (d : Int) : Int := if 8 ≤ d ∧ d ≤ 15 then d else 0
def bitsB (b : Int) : Int := if 9 ≤ b ∧ b ≤ 15 then b else 0
theorem readC_opts (d b : Int) : readC [] (optsC d b) (0, 0) = ((bitsD d, bitsB b), 0) := by
  by_cases hd : 8 ≤ d ∧ d ≤ 15
  · have hs := says_dfl hd
    by_cases hb : 9 ≤ b ∧ b ≤ 15
    · have ht := says_cmp hb
      have he : optsC d b = [(26, [dflB d, 0]), (21, [cmpB b])] := by unfold optsC; rw [isD_yes hd, isB_yes hb]; rfl
      rw [he, readC, if_neg (by rw [hs]; simp [hasT]; omega), readC, if_neg (by rw [ht]; simp [hasT]; omega), readC]
      simp [rdU, hs, ht, bitsD, bitsB, hd, hb]
    · have he : optsC d b = [(26, [dflB d, 0])] := by unfold optsC; rw [isD_yes hd, isB_no hb]; rfl
      rw [he, readC, if_neg (by rw [hs]; simp [hasT]; omega), readC]
      simp [rdU, hs, bitsD, bitsB, hd, hb]
  · by_cases hb : 9 ≤ b ∧ b ≤ 15
    · have ht := says_cmp hb
      have he : optsC d b = [(21, [cmpB b])] := by unfold optsC; rw [isD_no hd, isB_yes hb]; rfl
      rw [he, readC, if_neg (by rw [ht]; simp [hasT]; omega), readC]
      simp [rdU, ht, bitsD, bitsB, hd, hb]
    · have he : optsC d b = [] := by unfold optsC; rw [isD_no hd, isB_no hb]; rfl
      rw [he, readC]
      simp [bitsD, bitsB, hd, hb]
abbrev cO (d b : Int) : Obj := .cells #[.int .i64 d, .int .i64 b] 34
set_option maxRecDepth 100000 in
set_option maxHeartbeats 8000000 in
theorem options22_law (d b : Int) (A : Option Addr) (n c : Nat) (vs : List OV) (cf : Array Value) (df bs : Int) (hsz : (Try.prog.info? 39).map (·.size) = some cf.size) (hdf : cf[16]? = some (.int .i64 df)) (hbs : cf[17]? = some (.int .i64 bs)) (hn : vs.length = n) (hn' : n ≤ 4398046511104) (hnc : n ≤ c)
    (w : World) (hx : Cells w A (flat vs)) (gx : Good w vs) :
    Calls Try.prog 4 #[.agg #[.int .i64 d, .int .i64 b], .slice A n c, .agg cf] w fun e w' => e = .returned (.bool true) ∧ Below w.heap.size w w' := by
  have Hn := Lib.hid hn
  have HX := Lib.hid hx
  have GX := Lib.hid gx
  have HSZ := Lib.hid hsz
  have HDF := Lib.hid hdf
  have HBS := Lib.hid hbs
  have HG0 : Hid (((w.alloc (cO d b)).alloc (.cells cf 39)).heap[w.heap.size]? = some (cO d b)) := at_ext (at_new w (cO d b))
  have HG1 : Hid (((w.alloc (cO d b)).alloc (.cells cf 39)).heap[w.heap.size + 1]? = some (.cells cf 39)) := at_new1 (by simp)
  have HRO := Lib.hid (readC_opts d b)
  clear hn hx gx hsz hdf hbs
  go_enter Try.func4, Try.ntmps4
  go_wp2_with fail
  refine (lent9_any A n c vs Hn.out hn' _ (by exact HX.out.ext) (by exact GX.out.ext)).mono ?_
  rintro e w1 ⟨v1, us, rfl, ho1, hu1, hb1⟩
  have S1 : Step w1 _ := ⟨hb1⟩
  obtain ⟨A1, c1, rfl, hnc1⟩ := own_slice ho1.1
  have hul : us.length = n := by have h1 := congrArg List.length hu1; rw [List.length_map, List.length_map, Hn.out] at h1; exact h1
  have HO1 := Lib.hid ho1
  have HU1 := Lib.hid hu1
  rw [hul] at hnc1 ⊢
  have HUL := Lib.hid hul
  have G1 : Hid (Good w1 us) := HO1.out.good
  have C1 : Hid (Cells w1 A1 (flat us)) := own_cells HO1.out.1
  clear ho1 hu1 hb1 hul
  go_wp2_with fail
  refine (read22_any A1 n c1 us HUL.out hn' hnc1 _ (by exact C1.out.ext) (by exact G1.out.ext)).mono ?_
  rintro e w2 ⟨rfl, hb2⟩
  rw [HU1.out]
  have S2 : Step w2 _ := ⟨hb2⟩
  clear hb2
  obtain ⟨R, hR⟩ : ∃ R, readC [] (vs.map OV.opt) (0, 0) = R := ⟨_, rfl⟩
  have HR := Lib.hid hR
  rw [hR]
  clear hR
  obtain ⟨⟨r1, r2⟩, r3⟩ := R
  have HA2 := Lib.hid (at_new w2 (cO r1 r2))
  go_wp2_with fail
  refine (rread22_any A n c vs Hn.out hn' hnc _ (by exact HX.out.ext) (by exact GX.out.ext)).mono ?_
  rintro e w3 ⟨rfl, hb3⟩
  rw [HR.out]
  have S3 : Step w3 _ := ⟨hb3⟩
  have HA3 := Lib.hid (at_new w3 (zR r1 r2))
  clear hb3
  go_wp2_with
    (refine wpList_load_row rfl 34 (.tmp 3) rfl w.heap.size rfl 34 #[.int .i64 d, .int .i64 b] (0, 0) _ (at_ext HG0.out) Try.underlying34 rfl (by kernel_rfl) ?_)
  refine (options22_any d b _).mono ?_
  rintro e w4 ⟨v4, xs, rfl, ho4, hu4, hb4⟩
  have S4 : Step w4 _ := ⟨hb4⟩
  obtain ⟨A4, c4, rfl, hnc4⟩ := own_slice ho4.1
  obtain ⟨m4, hm4⟩ : ∃ m, xs.length = m := ⟨_, rfl⟩
  have hm4' : m4 ≤ 2 := by
    have h1 := congrArg List.length hu4
    rw [List.length_map, hm4] at h1
    rw [h1]
    unfold optsC
    split <;> split <;> simp
  rw [hm4] at hnc4 ⊢
  have HM4 := Lib.hid hm4
  have HO4 := Lib.hid ho4
  have HU4 := Lib.hid hu4
  have G4 : Hid (Good w4 xs) := HO4.out.good
  have C4 : Hid (Cells w4 A4 (flat xs)) := own_cells HO4.out.1
  clear ho4 hu4 hb4 hm4
  go_wp2_with
    (refine wpList_load_row rfl 34 (.tmp 3) rfl w.heap.size rfl 34 #[.int .i64 d, .int .i64 b] (0, 0) _ (at_ext HG0.out) Try.underlying34 rfl (by kernel_rfl) ?_)
  refine (own22L_any d b _).mono ?_
  rintro e wo ⟨rfl, hbo⟩
  have So : Step wo _ := ⟨hbo⟩
  clear hbo
  go_wp2_with fail
  refine (roptions22_any d b _).mono ?_
  rintro e w5 ⟨v5, ys, rfl, ho5, hu5, hb5⟩
  have S5 : Step w5 _ := ⟨hb5⟩
  obtain ⟨A5, c5, rfl, hnc5⟩ := own_slice ho5.1
  have hm5 : ys.length = m4 := by have h1 := congrArg List.length (hu5.trans HU4.out.symm); rw [List.length_map, List.length_map, HM4.out] at h1; exact h1
  rw [hm5] at hnc5 ⊢
  have HM5 := Lib.hid hm5
  have HO5 := Lib.hid ho5
  have HU5 := Lib.hid hu5
  have G5 : Hid (Good w5 ys) := HO5.out.good
  have C5 : Hid (Cells w5 A5 (flat ys)) := own_cells HO5.out.1
  clear ho5 hu5 hb5 hm5
  go_wp2
  refine wp_region_held_drew (S := fun W => Ext w5 W) (by kernel_rfl) (by exact inferInstance) (fun hHeld => ?_)
  refine wpAnyH_take (i := 0) (v := .agg #[.int .i64 r1, .int .i64 r2]) rfl (by kernel_rfl) (by kernel_rfl) (by kernel_rfl) (fun _ _ _ h => h) (yields_row_S (by rfl) 34 (.tmp 8) rfl w2.heap.size rfl 34 #[.int .i64 r1, .int .i64 r2] (0, 0) _ Try.underlying34 rfl (by kernel_rfl) (fun W hW => at_ext (h := hW) (at_ext (w' := w5) HA2.out))) hHeld ?_
  simp only [List.getElem_toArray, List.getElem_cons_succ, List.getElem_cons_zero, Act.put, List.setIfInBounds_toArray, List.set_cons_zero, List.set_cons_succ]
  refine wpAnyH_take (i := 2) (v := .agg #[.int .i64 r1, .int .i64 r2]) rfl (by kernel_rfl) (by kernel_rfl) (by kernel_rfl) (fun _ _ _ h => h) (yields_row_S (by rfl) 43 (.tmp 10) rfl w3.heap.size rfl 43 #[.int .i64 r1, .int .i64 r2] (0, 0) _ Try.underlying43 rfl (by kernel_rfl) (fun W hW => at_ext (h := hW) (at_ext (w' := w5) HA3.out))) hHeld ?_
  simp only [List.getElem_toArray, List.getElem_cons_succ, List.getElem_cons_zero, Act.put, List.setIfInBounds_toArray, List.set_cons_zero, List.set_cons_succ]
  refine wpAnyH_ready (rs := [1]) (by kernel_rfl) (by simp) ?_
  refine AllReadyH.cons rfl (fun K hK => ?_) AllReadyH.nil
  refine step_call_w (by rfl) Try.func25 (by kernel_rfl) (by kernel_rfl) #[.tmp 33] #[34] rfl #[.agg #[.int .i64 r1, .int .i64 r2]] ?hv (own22L_any r1 r2 _) ?_
  case hv => go_simp
  rintro e w6 ⟨rfl, hbb⟩
  refine ⟨_, rfl, ?_⟩
  skip
  have S6 : Step w6 _ := ⟨hbb⟩
  clear hbb hHeld
  refine hK.out _ _ (by exact inferInstance) (fun hHeld => ?_)
  clear hK K
  simp only [List.getElem_toArray, List.getElem_cons_succ, List.getElem_cons_zero, Act.put, List.setIfInBounds_toArray, List.set_cons_zero, List.set_cons_succ]
  refine wpAnyH_take (i := 3) (v := ?_) rfl (by kernel_rfl) (by kernel_rfl) (by kernel_rfl) (fun _ _ _ h => h) (Yields.yieldsIf (Or.inl ⟨by rfl, ?_⟩)) hHeld ?_
  rotate_left
  · intro W
    go_simp
    try with_reducible rfl
  simp only [List.getElem_toArray, List.getElem_cons_succ, List.getElem_cons_zero, Act.put, List.setIfInBounds_toArray, List.set_cons_zero, List.set_cons_succ]
  refine wpAnyH_take (i := 4) (v := ?_) rfl (by kernel_rfl) (by kernel_rfl) (by kernel_rfl) (fun _ _ _ h => h) (Yields.yieldsIf (Or.inl ⟨by rfl, ?_⟩)) hHeld ?_
  rotate_left
  · intro W
    go_simp
    try with_reducible rfl
  simp only [List.getElem_toArray, List.getElem_cons_succ, List.getElem_cons_zero, Act.put, List.setIfInBounds_toArray, List.set_cons_zero, List.set_cons_succ]
  refine wpAnyH_take (i := 5) (v := ?_) rfl (by kernel_rfl) (by kernel_rfl) (by kernel_rfl) (fun _ _ _ h => h) (Yields.yieldsIf (Or.inl ⟨by rfl, ?_⟩)) hHeld ?_
  rotate_left
  · intro W
    go_simp
    try with_reducible rfl
  simp only [List.getElem_toArray, List.getElem_cons_succ, List.getElem_cons_zero, Act.put, List.setIfInBounds_toArray, List.set_cons_zero, List.set_cons_succ]
  refine wpAnyH_take (i := 6) (v := ?_) rfl (by kernel_rfl) (by kernel_rfl) (by kernel_rfl) (fun _ _ _ h => h) (Yields.yieldsIf (Or.inl ⟨by rfl, ?_⟩)) hHeld ?_
  rotate_left
  · intro W
    go_simp
    try with_reducible rfl
  simp only [List.getElem_toArray, List.getElem_cons_succ, List.getElem_cons_zero, Act.put, List.setIfInBounds_toArray, List.set_cons_zero, List.set_cons_succ]
  refine wpAnyH_take (i := 7) (v := ?_) rfl (by kernel_rfl) (by kernel_rfl) (by kernel_rfl) (fun _ _ _ h => h) (Yields.yieldsIf (Or.inl ⟨by rfl, ?_⟩)) hHeld ?_
  rotate_left
  · intro W
    go_simp
    try with_reducible rfl
  simp only [List.getElem_toArray, List.getElem_cons_succ, List.getElem_cons_zero, Act.put, List.setIfInBounds_toArray, List.set_cons_zero, List.set_cons_succ]
  refine wpAnyH_take (i := 8) (v := ?_) rfl (by kernel_rfl) (by kernel_rfl) (by kernel_rfl) (fun _ _ _ h => h) (Yields.yieldsIf (Or.inl ⟨by rfl, ?_⟩)) hHeld ?_
  rotate_left
  · intro W
    go_simp
    try with_reducible rfl
  simp only [List.getElem_toArray, List.getElem_cons_succ, List.getElem_cons_zero, Act.put, List.setIfInBounds_toArray, List.set_cons_zero, List.set_cons_succ]
  refine wpAnyH_take (i := 9) (v := ?_) rfl (by kernel_rfl) (by kernel_rfl) (by kernel_rfl) (fun _ _ _ h => h) (Yields.yieldsIf (Or.inl ⟨by rfl, ?_⟩)) hHeld ?_
  rotate_left
  · intro W
    go_simp
    try with_reducible rfl
  simp only [List.getElem_toArray, List.getElem_cons_succ, List.getElem_cons_zero, Act.put, List.setIfInBounds_toArray, List.set_cons_zero, List.set_cons_succ]
  refine wpAnyH_take (i := 10) (v := ?_) rfl (by kernel_rfl) (by kernel_rfl) (by kernel_rfl) (fun _ _ _ h => h) (Yields.yieldsIf (Or.inl ⟨by rfl, ?_⟩)) hHeld ?_
  rotate_left
  · intro W
    go_simp
    try with_reducible rfl
  simp only [List.getElem_toArray, List.getElem_cons_succ, List.getElem_cons_zero, Act.put, List.setIfInBounds_toArray, List.set_cons_zero, List.set_cons_succ]
  refine wpAnyH_take (i := 11) (v := ?_) rfl (by kernel_rfl) (by kernel_rfl) (by kernel_rfl) (fun _ _ _ h => h) (Yields.yieldsIf (Or.inl ⟨by rfl, ?_⟩)) hHeld ?_
  rotate_left
  · intro W
    go_simp
    try with_reducible rfl
  simp only [List.getElem_toArray, List.getElem_cons_succ, List.getElem_cons_zero, Act.put, List.setIfInBounds_toArray, List.set_cons_zero, List.set_cons_succ]
  refine wpAnyH_ready (rs := [12]) (by kernel_rfl) (by simp) ?_
  refine AllReadyH.cons rfl (fun K hK => ?_) AllReadyH.nil
  refine step_call_w (by rfl) Try.func26 (by kernel_rfl) (by kernel_rfl) #[.tmp 43, .tmp 44] #[35, 35] rfl #[.slice A4 m4 c4, .slice A5 m4 c5] ?hv (same9_any A4 A5 m4 m4 c4 c5 xs ys HM4.out HM5.out (by omega) (by omega) _ C4.out.ext C5.out.ext G4.out.ext G5.out.ext) ?_
  case hv => go_simp
  rintro e w7 ⟨rfl, hbb⟩
  refine ⟨_, rfl, ?_⟩
  rw [HU4.out, HU5.out, sameB22]
  have S7 : Step w7 _ := ⟨hbb⟩
  clear hbb hHeld
  refine hK.out _ _ (by exact inferInstance) (fun hHeld => ?_)
  clear hK K
  simp only [List.getElem_toArray, List.getElem_cons_succ, List.getElem_cons_zero, Act.put, List.setIfInBounds_toArray, List.set_cons_zero, List.set_cons_succ]
  refine wpAnyH_take (i := 13) (v := ?_) rfl (by kernel_rfl) (by kernel_rfl) (by kernel_rfl) (fun _ _ _ h => h) (Yields.yieldsIf (Or.inl ⟨by rfl, ?_⟩)) hHeld ?_
  rotate_left
  · intro W
    go_simp
    try with_reducible rfl
  simp only [List.getElem_toArray, List.getElem_cons_succ, List.getElem_cons_zero, Act.put, List.setIfInBounds_toArray, List.set_cons_zero, List.set_cons_succ]
  refine wpAnyH_take (i := 14) (v := ?_) rfl (by kernel_rfl) (by kernel_rfl) (by kernel_rfl) (fun _ _ _ h => h) (Yields.yieldsIf (Or.inl ⟨by rfl, ?_⟩)) hHeld ?_
  rotate_left
  · intro W
    go_simp
    try with_reducible rfl
  simp only [List.getElem_toArray, List.getElem_cons_succ, List.getElem_cons_zero, Act.put, List.setIfInBounds_toArray, List.set_cons_zero, List.set_cons_succ]
  refine wpAnyH_take (i := 15) (v := ?_) rfl (by kernel_rfl) (by kernel_rfl) (by kernel_rfl) (fun _ _ _ h => h) (Yields.yieldsIf (Or.inl ⟨by rfl, ?_⟩)) hHeld ?_
  rotate_left
  · intro W
    go_simp
    try with_reducible rfl
  simp only [List.getElem_toArray, List.getElem_cons_succ, List.getElem_cons_zero, Act.put, List.setIfInBounds_toArray, List.set_cons_zero, List.set_cons_succ]
  refine wpAnyH_take (i := 16) (v := .agg #[.int .i64 d, .int .i64 b]) rfl (by kernel_rfl) (by kernel_rfl) (by kernel_rfl) (fun _ _ _ h => h) (yields_row_S (by rfl) 34 (.tmp 3) rfl w.heap.size rfl 34 #[.int .i64 d, .int .i64 b] (0, 0) _ Try.underlying34 rfl (by kernel_rfl) (fun W hW => at_ext (h := hW) (at_ext (w' := w5) HG0.out))) hHeld ?_
  simp only [List.getElem_toArray, List.getElem_cons_succ, List.getElem_cons_zero, Act.put, List.setIfInBounds_toArray, List.set_cons_zero, List.set_cons_succ]
  refine wpAnyH_take (i := 18) (v := .agg #[.int .i64 d, .int .i64 b]) rfl (by kernel_rfl) (by kernel_rfl) (by kernel_rfl) (fun _ _ _ h => h) (yields_row_S (by rfl) 34 (.tmp 3) rfl w.heap.size rfl 34 #[.int .i64 d, .int .i64 b] (0, 0) _ Try.underlying34 rfl (by kernel_rfl) (fun W hW => at_ext (h := hW) (at_ext (w' := w5) HG0.out))) hHeld ?_
  simp only [List.getElem_toArray, List.getElem_cons_succ, List.getElem_cons_zero, Act.put, List.setIfInBounds_toArray, List.set_cons_zero, List.set_cons_succ]
  refine wpAnyH_ready (rs := [17]) (by kernel_rfl) (by simp) ?_
  refine AllReadyH.cons rfl (fun K hK => ?_) AllReadyH.nil
  refine step_call_w (by rfl) Try.func27 (by kernel_rfl) (by kernel_rfl) #[.tmp 49] #[34] rfl #[.agg #[.int .i64 d, .int .i64 b]] ?hv (method22_any d b _) ?_
  case hv => go_simp
  rintro e w8 ⟨rfl, hbb⟩
  refine ⟨_, rfl, ?_⟩
  skip
  have S8 : Step w8 _ := ⟨hbb⟩
  clear hbb hHeld
  refine hK.out _ _ (by exact inferInstance) (fun hHeld => ?_)
  clear hK K
  simp only [List.getElem_toArray, List.getElem_cons_succ, List.getElem_cons_zero, Act.put, List.setIfInBounds_toArray, List.set_cons_zero, List.set_cons_succ]
  refine wpAnyH_ready (rs := [19]) (by kernel_rfl) (by simp) ?_
  refine AllReadyH.cons rfl (fun K hK => ?_) AllReadyH.nil
  refine step_call_w (by rfl) Try.func25 (by kernel_rfl) (by kernel_rfl) #[.tmp 51] #[34] rfl #[.agg #[.int .i64 d, .int .i64 b]] ?hv (own22L_any d b _) ?_
  case hv => go_simp
  rintro e w9 ⟨rfl, hbb⟩
  refine ⟨_, rfl, ?_⟩
  skip
  have S9 : Step w9 _ := ⟨hbb⟩
  clear hbb hHeld
  refine hK.out _ _ (by exact inferInstance) (fun hHeld => ?_)
  clear hK K
  simp only [List.getElem_toArray, List.getElem_cons_succ, List.getElem_cons_zero, Act.put, List.setIfInBounds_toArray, List.set_cons_zero, List.set_cons_succ]
  refine wpAnyH_ready (rs := [20]) (by kernel_rfl) (by simp) ?_
  refine AllReadyH.cons rfl (fun K hK => ?_) AllReadyH.nil
  refine step_call_w (by rfl) Try.func28 (by kernel_rfl) (by kernel_rfl) #[.tmp 52] #[43] rfl #[.agg #[.int .i64 d, .int .i64 b]] ?hv (rmethod22_any d b _) ?_
  case hv => go_simp
  rintro e wa ⟨rfl, hbb⟩
  refine ⟨_, rfl, ?_⟩
  skip
  have Sa : Step wa _ := ⟨hbb⟩
  clear hbb hHeld
  refine hK.out _ _ (by exact inferInstance) (fun hHeld => ?_)
  clear hK K
  simp only [List.getElem_toArray, List.getElem_cons_succ, List.getElem_cons_zero, Act.put, List.setIfInBounds_toArray, List.set_cons_zero, List.set_cons_succ]
  refine wpAnyH_take (i := 21) (v := ?_) rfl (by kernel_rfl) (by kernel_rfl) (by kernel_rfl) (fun _ _ _ h => h) (Yields.yieldsIf (Or.inl ⟨by rfl, ?_⟩)) hHeld ?_
  rotate_left
  · intro W
    go_simp
    try with_reducible rfl
  simp only [List.getElem_toArray, List.getElem_cons_succ, List.getElem_cons_zero, Act.put, List.setIfInBounds_toArray, List.set_cons_zero, List.set_cons_succ]
  refine wpAnyH_take (i := 22) (v := ?_) rfl (by kernel_rfl) (by kernel_rfl) (by kernel_rfl) (fun _ _ _ h => h) (Yields.yieldsIf (Or.inl ⟨by rfl, ?_⟩)) hHeld ?_
  rotate_left
  · intro W
    go_simp
    try with_reducible rfl
  simp only [List.getElem_toArray, List.getElem_cons_succ, List.getElem_cons_zero, Act.put, List.setIfInBounds_toArray, List.set_cons_zero, List.set_cons_succ]
  refine wpAnyH_take (i := 23) (v := ?_) rfl (by kernel_rfl) (by kernel_rfl) (by kernel_rfl) (fun _ _ _ h => h) (Yields.yieldsIf (Or.inl ⟨by rfl, ?_⟩)) hHeld ?_
  rotate_left
  · intro W
    go_simp
    try with_reducible rfl
  simp only [List.getElem_toArray, List.getElem_cons_succ, List.getElem_cons_zero, Act.put, List.setIfInBounds_toArray, List.set_cons_zero, List.set_cons_succ]
  refine wpAnyH_take (i := 24) (v := ?_) rfl (by kernel_rfl) (by kernel_rfl) (by kernel_rfl) (fun _ _ _ h => h) (Yields.yieldsIf (Or.inl ⟨by rfl, ?_⟩)) hHeld ?_
  rotate_left
  · intro W
    go_simp
    try with_reducible rfl
  simp only [List.getElem_toArray, List.getElem_cons_succ, List.getElem_cons_zero, Act.put, List.setIfInBounds_toArray, List.set_cons_zero, List.set_cons_succ]
  refine wpAnyH_take (i := 25) (v := ?_) rfl (by kernel_rfl) (by kernel_rfl) (by kernel_rfl) (fun _ _ _ h => h) (Yields.yieldsIf (Or.inl ⟨by rfl, ?_⟩)) hHeld ?_
  rotate_left
  · intro W
    go_simp
    try with_reducible rfl
  simp only [List.getElem_toArray, List.getElem_cons_succ, List.getElem_cons_zero, Act.put, List.setIfInBounds_toArray, List.set_cons_zero, List.set_cons_succ]
  refine wpAnyH_ready (rs := [26]) (by kernel_rfl) (by simp) ?_
  refine AllReadyH.cons rfl (fun K hK => ?_) AllReadyH.nil
  refine step_call_w (by rfl) Try.func26 (by kernel_rfl) (by kernel_rfl) #[.tmp 57, .tmp 58] #[35, 35] rfl #[.slice A1 n c1, .slice A n c] ?hv (same9_any A1 A n n c1 c us vs HUL.out Hn.out (by omega) (by omega) _ C1.out.ext HX.out.ext G1.out.ext GX.out.ext) ?_
  case hv => go_simp
  rintro e wb ⟨rfl, hbb⟩
  refine ⟨_, rfl, ?_⟩
  rw [HU1.out, sameB22]
  have Sb : Step wb _ := ⟨hbb⟩
  clear hbb hHeld
  refine hK.out _ _ (by exact inferInstance) (fun hHeld => ?_)
  clear hK K
  simp only [List.getElem_toArray, List.getElem_cons_succ, List.getElem_cons_zero, Act.put, List.setIfInBounds_toArray, List.set_cons_zero, List.set_cons_succ]
  refine wpAnyH_take (i := 27) (v := ?_) rfl (by kernel_rfl) (by kernel_rfl) (by kernel_rfl) (fun _ _ _ h => h) (Yields.yieldsIf (Or.inl ⟨by rfl, ?_⟩)) hHeld ?_
  rotate_left
  · intro W
    go_simp
    try with_reducible rfl
  simp only [List.getElem_toArray, List.getElem_cons_succ, List.getElem_cons_zero, Act.put, List.setIfInBounds_toArray, List.set_cons_zero, List.set_cons_succ]
  refine wpAnyH_take (i := 28) (v := ?_) rfl (by kernel_rfl) (by kernel_rfl) (by kernel_rfl) (fun _ _ _ h => h) (Yields.yieldsIf (Or.inl ⟨by rfl, ?_⟩)) hHeld ?_
  rotate_left
  · intro W
    go_simp
    try with_reducible rfl
  simp only [List.getElem_toArray, List.getElem_cons_succ, List.getElem_cons_zero, Act.put, List.setIfInBounds_toArray, List.set_cons_zero, List.set_cons_succ]
  refine wpAnyH_take (i := 29) (v := ?_) rfl (by kernel_rfl) (by kernel_rfl) (by kernel_rfl) (fun _ _ _ h => h) (Yields.yieldsIf (Or.inl ⟨by rfl, ?_⟩)) hHeld ?_
  rotate_left
  · intro W
    go_simp
    try with_reducible rfl
  simp only [List.getElem_toArray, List.getElem_cons_succ, List.getElem_cons_zero, Act.put, List.setIfInBounds_toArray, List.set_cons_zero, List.set_cons_succ]
  refine wpAnyH_take (i := 30) (v := .agg cf) rfl (by kernel_rfl) (by kernel_rfl) (by kernel_rfl) (fun _ _ _ h => h) (yields_row_S (by rfl) 39 (.tmp 5) rfl (w.heap.size + 1) rfl 39 cf (0, 0) _ Try.underlying39 rfl HSZ.out (fun W hW => at_ext (h := hW) (at_ext (w' := w5) HG1.out))) hHeld ?_
  simp only [List.getElem_toArray, List.getElem_cons_succ, List.getElem_cons_zero, Act.put, List.setIfInBounds_toArray, List.set_cons_zero, List.set_cons_succ]
  refine wpAnyH_take (i := 32) (v := ?_) rfl (by kernel_rfl) (by kernel_rfl) (by kernel_rfl) (fun _ _ _ h => h) (Yields.yieldsIf (Or.inl ⟨by rfl, ?_⟩)) hHeld ?_
  rotate_left
  · intro W
    go_simp
    try with_reducible rfl
  simp only [List.getElem_toArray, List.getElem_cons_succ, List.getElem_cons_zero, Act.put, List.setIfInBounds_toArray, List.set_cons_zero, List.set_cons_succ]
  refine wpAnyH_take (i := 33) (v := ?_) rfl (by kernel_rfl) (by kernel_rfl) (by kernel_rfl) (fun _ _ _ h => h) (Or.inl ⟨by rfl, ?_⟩) hHeld ?_
  rotate_left
  · intro W hW
    have hcl := ((at_cell (at_ext (h := hW) (at_ext (w' := w5) HG1.out)) 16).trans HDF.out)
    go_simp
    try with_reducible rfl
  simp only [List.getElem_toArray, List.getElem_cons_succ, List.getElem_cons_zero, Act.put, List.setIfInBounds_toArray, List.set_cons_zero, List.set_cons_succ]
  refine wpAnyH_take (i := 34) (v := ?_) rfl (by kernel_rfl) (by kernel_rfl) (by kernel_rfl) (fun _ _ _ h => h) (Yields.yieldsIf (Or.inl ⟨by rfl, ?_⟩)) hHeld ?_
  rotate_left
  · intro W
    go_simp
    try with_reducible rfl
  simp only [List.getElem_toArray, List.getElem_cons_succ, List.getElem_cons_zero, Act.put, List.setIfInBounds_toArray, List.set_cons_zero, List.set_cons_succ]
  refine wpAnyH_take (i := 35) (v := ?_) rfl (by kernel_rfl) (by kernel_rfl) (by kernel_rfl) (fun _ _ _ h => h) (Or.inl ⟨by rfl, ?_⟩) hHeld ?_
  rotate_left
  · intro W hW
    have hcl := ((at_cell (at_ext (h := hW) (at_ext (w' := w5) HG1.out)) 17).trans HBS.out)
    go_simp
    try with_reducible rfl
  simp only [List.getElem_toArray, List.getElem_cons_succ, List.getElem_cons_zero, Act.put, List.setIfInBounds_toArray, List.set_cons_zero, List.set_cons_succ]
  refine wpAnyH_take (i := 36) (v := ?_) rfl (by kernel_rfl) (by kernel_rfl) (by kernel_rfl) (fun _ _ _ h => h) (Yields.yieldsIf (Or.inl ⟨by rfl, ?_⟩)) hHeld ?_
  rotate_left
  · intro W
    go_simp
    try with_reducible rfl
  simp only [List.getElem_toArray, List.getElem_cons_succ, List.getElem_cons_zero, Act.put, List.setIfInBounds_toArray, List.set_cons_zero, List.set_cons_succ]
  refine wpAnyH_ready (rs := [31]) (by kernel_rfl) (by simp) ?_
  refine AllReadyH.cons rfl (fun K hK => ?_) AllReadyH.nil
  refine step_call_w (by rfl) Try.func29 (by kernel_rfl) (by kernel_rfl) #[.tmp 63] #[39] rfl #[.agg cf] ?hv (want22_any cf df bs HDF.out HBS.out _) ?_
  case hv => go_simp
  rintro e wc ⟨rfl, hbb⟩
  refine ⟨_, rfl, ?_⟩
  skip
  have Sc : Step wc _ := ⟨hbb⟩
  clear hbb hHeld
  refine hK.out _ _ (by exact inferInstance) (fun hHeld => ?_)
  clear hK K
  simp only [List.getElem_toArray, List.getElem_cons_succ, List.getElem_cons_zero, Act.put, List.setIfInBounds_toArray, List.set_cons_zero, List.set_cons_succ]
  refine wpAnyH_take (i := 37) (v := ?_) rfl (by kernel_rfl) (by kernel_rfl) (by kernel_rfl) (fun _ _ _ h => h) (Yields.yieldsIf (Or.inl ⟨by rfl, ?_⟩)) hHeld ?_
  rotate_left
  · intro W
    go_simp
    try with_reducible rfl
  simp only [List.getElem_toArray, List.getElem_cons_succ, List.getElem_cons_zero, Act.put, List.setIfInBounds_toArray, List.set_cons_zero, List.set_cons_succ]
  refine wpAnyH_take (i := 38) (v := ?_) rfl (by kernel_rfl) (by kernel_rfl) (by kernel_rfl) (fun _ _ _ h => h) (Yields.yieldsIf (Or.inl ⟨by rfl, ?_⟩)) hHeld ?_
  rotate_left
  · intro W
    go_simp
    try with_reducible rfl
  simp only [List.getElem_toArray, List.getElem_cons_succ, List.getElem_cons_zero, Act.put, List.setIfInBounds_toArray, List.set_cons_zero, List.set_cons_succ]
  refine wpAnyH_done (by kernel_rfl) ?_ _
  clear hHeld
  go_wp2_with fail
  refine (read22_any A4 m4 c4 xs HM4.out (by omega) hnc4 _ (by exact C4.out.ext) (by exact G4.out.ext)).mono ?_
  rintro e wd ⟨rfl, hbd⟩
  rw [HU4.out, HRO.out]
  have Sd : Step wd _ := ⟨hbd⟩
  clear hbd HRO
  simp only
  have k0 : ∀ o, (wd.alloc o).cell? ⟨w.heap.size, 0, none⟩ = some (.int .i64 d) := fun o => at_cell (at_ext HG0.out) 0
  have k1 : ∀ o, (wd.alloc o).cell? ⟨w.heap.size, 1, none⟩ = some (.int .i64 b) := fun o => at_cell (at_ext HG0.out) 1
  by_cases hdg : d = 0 ∨ (8 ≤ d ∧ d ≤ 15)
  · by_cases hbg : b = 0 ∨ (9 ≤ b ∧ b ≤ 15)
    · have e1 : bitsD d = d := by unfold bitsD; split <;> omega
      have e2 : bitsB b = b := by unfold bitsB; split <;> omega
      rw [e1, e2]
      clear e1 e2
      rcases hdg with hd | ⟨hd1, hd2⟩
      · have hd' : (d == 0) = true := by simpa using hd
        clear hd
        rcases hbg with hb | ⟨hb1, hb2⟩
        · have hb' : (b == 0) = true := by simpa using hb
          clear hb
          go_wp2_with fail
          refine (spoil9_above A4 m4 c4 (w3.alloc (zR r1 r2)).heap.size xs w4 _ HM4.out (by omega) (by exact size_ext) (by rw [← HM4.out]; exact HO4.out)).mono ?_
          rintro e we ⟨rfl, hbe, hae⟩
          have hbe' : Below (w3.alloc (zR r1 r2)).heap.size (w3.alloc (zR r1 r2)) we := (Ext.out).trans hbe
          have HO5e := Lib.hid (OptsOwn.above (HO5.out.ext) hae (size_ext))
          have Se : Step we (w3.alloc (zR r1 r2)) := ⟨hbe'⟩
          clear hbe hbe' hae
          go_wp2_with
            (refine wpList_load_row rfl 34 (.tmp 3) rfl w.heap.size rfl 34 #[.int .i64 d, .int .i64 b] (0, 0) _ (at_ext HG0.out) Try.underlying34 rfl (by kernel_rfl) ?_)
          refine (options22_any d b _).mono ?_
          rintro e wf ⟨vf, zs, rfl, hof, huf, hbf⟩
          have Sf : Step wf _ := ⟨hbf⟩
          obtain ⟨Af, cf', rfl, _⟩ := own_slice hof.1
          have hmf : zs.length = m4 := by have h1 := congrArg List.length (huf.trans HU4.out.symm); rw [List.length_map, List.length_map, HM4.out] at h1; exact h1
          rw [hmf]
          have HMf := Lib.hid hmf
          have HOf := Lib.hid hof
          have HUf := Lib.hid huf
          clear hof huf hbf hmf
          go_wp2_with fail
          refine (same9_any Af A5 m4 m4 cf' c5 zs ys HMf.out HM5.out (by omega) (by omega) _ (by exact (own_cells HOf.out.1).ext) (by exact (own_cells HO5e.out.1).ext) (by exact HOf.out.good.ext) (by exact HO5e.out.good.ext)).mono ?_
          rintro e wg ⟨rfl, hbg⟩
          rw [HUf.out, HU5.out, sameB22]
          have Sg : Step wg _ := ⟨hbg⟩
          clear hbg
          go_wp2_with fail
          refine (awake22_any _).mono ?_
          rintro e wh ⟨rfl, hbh⟩
          have Sh : Step wh _ := ⟨hbh⟩
          clear hbh
          go_wp2
          go_ret
          exact ⟨rfl, Ext.out⟩
        · have hb' : (b == 0) = false := by rw [beq_eq_false_iff_ne]; omega
          go_wp2_with fail
          refine (spoil9_above A4 m4 c4 (w3.alloc (zR r1 r2)).heap.size xs w4 _ HM4.out (by omega) (by exact size_ext) (by rw [← HM4.out]; exact HO4.out)).mono ?_
          rintro e we ⟨rfl, hbe, hae⟩
          have hbe' : Below (w3.alloc (zR r1 r2)).heap.size (w3.alloc (zR r1 r2)) we := (Ext.out).trans hbe
          have HO5e := Lib.hid (OptsOwn.above (HO5.out.ext) hae (size_ext))
          have Se : Step we (w3.alloc (zR r1 r2)) := ⟨hbe'⟩
          clear hbe hbe' hae
          go_wp2_with
            (refine wpList_load_row rfl 34 (.tmp 3) rfl w.heap.size rfl 34 #[.int .i64 d, .int .i64 b] (0, 0) _ (at_ext HG0.out) Try.underlying34 rfl (by kernel_rfl) ?_)
          refine (options22_any d b _).mono ?_
          rintro e wf ⟨vf, zs, rfl, hof, huf, hbf⟩
          have Sf : Step wf _ := ⟨hbf⟩
          obtain ⟨Af, cf', rfl, _⟩ := own_slice hof.1
          have hmf : zs.length = m4 := by have h1 := congrArg List.length (huf.trans HU4.out.symm); rw [List.length_map, List.length_map, HM4.out] at h1; exact h1
          rw [hmf]
          have HMf := Lib.hid hmf
          have HOf := Lib.hid hof
          have HUf := Lib.hid huf
          clear hof huf hbf hmf
          go_wp2_with fail
          refine (same9_any Af A5 m4 m4 cf' c5 zs ys HMf.out HM5.out (by omega) (by omega) _ (by exact (own_cells HOf.out.1).ext) (by exact (own_cells HO5e.out.1).ext) (by exact HOf.out.good.ext) (by exact HO5e.out.good.ext)).mono ?_
          rintro e wg ⟨rfl, hbg⟩
          rw [HUf.out, HU5.out, sameB22]
          have Sg : Step wg _ := ⟨hbg⟩
          clear hbg
          go_wp2_with fail
          refine (awake22_any _).mono ?_
          rintro e wh ⟨rfl, hbh⟩
          have Sh : Step wh _ := ⟨hbh⟩
          clear hbh
          go_wp2
          go_ret
          exact ⟨rfl, Ext.out⟩
      · have hd' : (d == 0) = false := by rw [beq_eq_false_iff_ne]; omega
        rcases hbg with hb | ⟨hb1, hb2⟩
        · have hb' : (b == 0) = true := by simpa using hb
          clear hb
          go_wp2_with fail
          refine (spoil9_above A4 m4 c4 (w3.alloc (zR r1 r2)).heap.size xs w4 _ HM4.out (by omega) (by exact size_ext) (by rw [← HM4.out]; exact HO4.out)).mono ?_
          rintro e we ⟨rfl, hbe, hae⟩
          have hbe' : Below (w3.alloc (zR r1 r2)).heap.size (w3.alloc (zR r1 r2)) we := (Ext.out).trans hbe
          have HO5e := Lib.hid (OptsOwn.above (HO5.out.ext) hae (size_ext))
          have Se : Step we (w3.alloc (zR r1 r2)) := ⟨hbe'⟩
          clear hbe hbe' hae
          go_wp2_with
            (refine wpList_load_row rfl 34 (.tmp 3) rfl w.heap.size rfl 34 #[.int .i64 d, .int .i64 b] (0, 0) _ (at_ext HG0.out) Try.underlying34 rfl (by kernel_rfl) ?_)
          refine (options22_any d b _).mono ?_
          rintro e wf ⟨vf, zs, rfl, hof, huf, hbf⟩
          have Sf : Step wf _ := ⟨hbf⟩
          obtain ⟨Af, cf', rfl, _⟩ := own_slice hof.1
          have hmf : zs.length = m4 := by have h1 := congrArg List.length (huf.trans HU4.out.symm); rw [List.length_map, List.length_map, HM4.out] at h1; exact h1
          rw [hmf]
          have HMf := Lib.hid hmf
          have HOf := Lib.hid hof
          have HUf := Lib.hid huf
          clear hof huf hbf hmf
          go_wp2_with fail
          refine (same9_any Af A5 m4 m4 cf' c5 zs ys HMf.out HM5.out (by omega) (by omega) _ (by exact (own_cells HOf.out.1).ext) (by exact (own_cells HO5e.out.1).ext) (by exact HOf.out.good.ext) (by exact HO5e.out.good.ext)).mono ?_
          rintro e wg ⟨rfl, hbg⟩
          rw [HUf.out, HU5.out, sameB22]
          have Sg : Step wg _ := ⟨hbg⟩
          clear hbg
          go_wp2_with fail
          refine (awake22_any _).mono ?_
          rintro e wh ⟨rfl, hbh⟩
          have Sh : Step wh _ := ⟨hbh⟩
          clear hbh
          go_wp2
          go_ret
          exact ⟨rfl, Ext.out⟩
        · have hb' : (b == 0) = false := by rw [beq_eq_false_iff_ne]; omega
          go_wp2_with fail
          refine (spoil9_above A4 m4 c4 (w3.alloc (zR r1 r2)).heap.size xs w4 _ HM4.out (by omega) (by exact size_ext) (by rw [← HM4.out]; exact HO4.out)).mono ?_
          rintro e we ⟨rfl, hbe, hae⟩
          have hbe' : Below (w3.alloc (zR r1 r2)).heap.size (w3.alloc (zR r1 r2)) we := (Ext.out).trans hbe
          have HO5e := Lib.hid (OptsOwn.above (HO5.out.ext) hae (size_ext))
          have Se : Step we (w3.alloc (zR r1 r2)) := ⟨hbe'⟩
          clear hbe hbe' hae
          go_wp2_with
            (refine wpList_load_row rfl 34 (.tmp 3) rfl w.heap.size rfl 34 #[.int .i64 d, .int .i64 b] (0, 0) _ (at_ext HG0.out) Try.underlying34 rfl (by kernel_rfl) ?_)
          refine (options22_any d b _).mono ?_
          rintro e wf ⟨vf, zs, rfl, hof, huf, hbf⟩
          have Sf : Step wf _ := ⟨hbf⟩
          obtain ⟨Af, cf', rfl, _⟩ := own_slice hof.1
          have hmf : zs.length = m4 := by have h1 := congrArg List.length (huf.trans HU4.out.symm); rw [List.length_map, List.length_map, HM4.out] at h1; exact h1
          rw [hmf]
          have HMf := Lib.hid hmf
          have HOf := Lib.hid hof
          have HUf := Lib.hid huf
          clear hof huf hbf hmf
          go_wp2_with fail
          refine (same9_any Af A5 m4 m4 cf' c5 zs ys HMf.out HM5.out (by omega) (by omega) _ (by exact (own_cells HOf.out.1).ext) (by exact (own_cells HO5e.out.1).ext) (by exact HOf.out.good.ext) (by exact HO5e.out.good.ext)).mono ?_
          rintro e wg ⟨rfl, hbg⟩
          rw [HUf.out, HU5.out, sameB22]
          have Sg : Step wg _ := ⟨hbg⟩
          clear hbg
          go_wp2_with fail
          refine (awake22_any _).mono ?_
          rintro e wh ⟨rfl, hbh⟩
          have Sh : Step wh _ := ⟨hbh⟩
          clear hbh
          go_wp2
          go_ret
          exact ⟨rfl, Ext.out⟩
    · generalize bitsD d = d1
      generalize bitsB b = b1
      have hb' : (b == 0) = false := by rw [beq_eq_false_iff_ne]; omega
      rcases hdg with hd | ⟨hd1, hd2⟩
      · have hd' : (d == 0) = true := by simpa using hd
        clear hd
        by_cases hb1 : 9 ≤ b
        · have hb2 : ¬ b ≤ 15 := by omega
          clear hbg
          go_wp2_with fail
          refine (spoil9_above A4 m4 c4 (w3.alloc (zR r1 r2)).heap.size xs w4 _ HM4.out (by omega) (by exact size_ext) (by rw [← HM4.out]; exact HO4.out)).mono ?_
          rintro e we ⟨rfl, hbe, hae⟩
          have hbe' : Below (w3.alloc (zR r1 r2)).heap.size (w3.alloc (zR r1 r2)) we := (Ext.out).trans hbe
          have HO5e := Lib.hid (OptsOwn.above (HO5.out.ext) hae (size_ext))
          have Se : Step we (w3.alloc (zR r1 r2)) := ⟨hbe'⟩
          clear hbe hbe' hae
          go_wp2_with
            (refine wpList_load_row rfl 34 (.tmp 3) rfl w.heap.size rfl 34 #[.int .i64 d, .int .i64 b] (0, 0) _ (at_ext HG0.out) Try.underlying34 rfl (by kernel_rfl) ?_)
          refine (options22_any d b _).mono ?_
          rintro e wf ⟨vf, zs, rfl, hof, huf, hbf⟩
          have Sf : Step wf _ := ⟨hbf⟩
          obtain ⟨Af, cf', rfl, _⟩ := own_slice hof.1
          have hmf : zs.length = m4 := by have h1 := congrArg List.length (huf.trans HU4.out.symm); rw [List.length_map, List.length_map, HM4.out] at h1; exact h1
          rw [hmf]
          have HMf := Lib.hid hmf
          have HOf := Lib.hid hof
          have HUf := Lib.hid huf
          clear hof huf hbf hmf
          go_wp2_with fail
          refine (same9_any Af A5 m4 m4 cf' c5 zs ys HMf.out HM5.out (by omega) (by omega) _ (by exact (own_cells HOf.out.1).ext) (by exact (own_cells HO5e.out.1).ext) (by exact HOf.out.good.ext) (by exact HO5e.out.good.ext)).mono ?_
          rintro e wg ⟨rfl, hbg⟩
          rw [HUf.out, HU5.out, sameB22]
          have Sg : Step wg _ := ⟨hbg⟩
          clear hbg
          go_wp2_with fail
          refine (awake22_any _).mono ?_
          rintro e wh ⟨rfl, hbh⟩
          have Sh : Step wh _ := ⟨hbh⟩
          clear hbh
          go_wp2
          go_ret
          exact ⟨rfl, Ext.out⟩
        · clear hbg
          go_wp2_with fail
          refine (spoil9_above A4 m4 c4 (w3.alloc (zR r1 r2)).heap.size xs w4 _ HM4.out (by omega) (by exact size_ext) (by rw [← HM4.out]; exact HO4.out)).mono ?_
          rintro e we ⟨rfl, hbe, hae⟩
          have hbe' : Below (w3.alloc (zR r1 r2)).heap.size (w3.alloc (zR r1 r2)) we := (Ext.out).trans hbe
          have HO5e := Lib.hid (OptsOwn.above (HO5.out.ext) hae (size_ext))
          have Se : Step we (w3.alloc (zR r1 r2)) := ⟨hbe'⟩
          clear hbe hbe' hae
          go_wp2_with
            (refine wpList_load_row rfl 34 (.tmp 3) rfl w.heap.size rfl 34 #[.int .i64 d, .int .i64 b] (0, 0) _ (at_ext HG0.out) Try.underlying34 rfl (by kernel_rfl) ?_)
          refine (options22_any d b _).mono ?_
          rintro e wf ⟨vf, zs, rfl, hof, huf, hbf⟩
          have Sf : Step wf _ := ⟨hbf⟩
          obtain ⟨Af, cf', rfl, _⟩ := own_slice hof.1
          have hmf : zs.length = m4 := by have h1 := congrArg List.length (huf.trans HU4.out.symm); rw [List.length_map, List.length_map, HM4.out] at h1; exact h1
          rw [hmf]
          have HMf := Lib.hid hmf
          have HOf := Lib.hid hof
          have HUf := Lib.hid huf
          clear hof huf hbf hmf
          go_wp2_with fail
          refine (same9_any Af A5 m4 m4 cf' c5 zs ys HMf.out HM5.out (by omega) (by omega) _ (by exact (own_cells HOf.out.1).ext) (by exact (own_cells HO5e.out.1).ext) (by exact HOf.out.good.ext) (by exact HO5e.out.good.ext)).mono ?_
          rintro e wg ⟨rfl, hbg⟩
          rw [HUf.out, HU5.out, sameB22]
          have Sg : Step wg _ := ⟨hbg⟩
          clear hbg
          go_wp2_with fail
          refine (awake22_any _).mono ?_
          rintro e wh ⟨rfl, hbh⟩
          have Sh : Step wh _ := ⟨hbh⟩
          clear hbh
          go_wp2
          go_ret
          exact ⟨rfl, Ext.out⟩
      · have hd' : (d == 0) = false := by rw [beq_eq_false_iff_ne]; omega
        by_cases hb1 : 9 ≤ b
        · have hb2 : ¬ b ≤ 15 := by omega
          clear hbg
          go_wp2_with fail
          refine (spoil9_above A4 m4 c4 (w3.alloc (zR r1 r2)).heap.size xs w4 _ HM4.out (by omega) (by exact size_ext) (by rw [← HM4.out]; exact HO4.out)).mono ?_
          rintro e we ⟨rfl, hbe, hae⟩
          have hbe' : Below (w3.alloc (zR r1 r2)).heap.size (w3.alloc (zR r1 r2)) we := (Ext.out).trans hbe
          have HO5e := Lib.hid (OptsOwn.above (HO5.out.ext) hae (size_ext))
          have Se : Step we (w3.alloc (zR r1 r2)) := ⟨hbe'⟩
          clear hbe hbe' hae
          go_wp2_with
            (refine wpList_load_row rfl 34 (.tmp 3) rfl w.heap.size rfl 34 #[.int .i64 d, .int .i64 b] (0, 0) _ (at_ext HG0.out) Try.underlying34 rfl (by kernel_rfl) ?_)
          refine (options22_any d b _).mono ?_
          rintro e wf ⟨vf, zs, rfl, hof, huf, hbf⟩
          have Sf : Step wf _ := ⟨hbf⟩
          obtain ⟨Af, cf', rfl, _⟩ := own_slice hof.1
          have hmf : zs.length = m4 := by have h1 := congrArg List.length (huf.trans HU4.out.symm); rw [List.length_map, List.length_map, HM4.out] at h1; exact h1
          rw [hmf]
          have HMf := Lib.hid hmf
          have HOf := Lib.hid hof
          have HUf := Lib.hid huf
          clear hof huf hbf hmf
          go_wp2_with fail
          refine (same9_any Af A5 m4 m4 cf' c5 zs ys HMf.out HM5.out (by omega) (by omega) _ (by exact (own_cells HOf.out.1).ext) (by exact (own_cells HO5e.out.1).ext) (by exact HOf.out.good.ext) (by exact HO5e.out.good.ext)).mono ?_
          rintro e wg ⟨rfl, hbg⟩
          rw [HUf.out, HU5.out, sameB22]
          have Sg : Step wg _ := ⟨hbg⟩
          clear hbg
          go_wp2_with fail
          refine (awake22_any _).mono ?_
          rintro e wh ⟨rfl, hbh⟩
          have Sh : Step wh _ := ⟨hbh⟩
          clear hbh
          go_wp2
          go_ret
          exact ⟨rfl, Ext.out⟩
        · clear hbg
          go_wp2_with fail
          refine (spoil9_above A4 m4 c4 (w3.alloc (zR r1 r2)).heap.size xs w4 _ HM4.out (by omega) (by exact size_ext) (by rw [← HM4.out]; exact HO4.out)).mono ?_
          rintro e we ⟨rfl, hbe, hae⟩
          have hbe' : Below (w3.alloc (zR r1 r2)).heap.size (w3.alloc (zR r1 r2)) we := (Ext.out).trans hbe
          have HO5e := Lib.hid (OptsOwn.above (HO5.out.ext) hae (size_ext))
          have Se : Step we (w3.alloc (zR r1 r2)) := ⟨hbe'⟩
          clear hbe hbe' hae
          go_wp2_with
            (refine wpList_load_row rfl 34 (.tmp 3) rfl w.heap.size rfl 34 #[.int .i64 d, .int .i64 b] (0, 0) _ (at_ext HG0.out) Try.underlying34 rfl (by kernel_rfl) ?_)
          refine (options22_any d b _).mono ?_
          rintro e wf ⟨vf, zs, rfl, hof, huf, hbf⟩
          have Sf : Step wf _ := ⟨hbf⟩
          obtain ⟨Af, cf', rfl, _⟩ := own_slice hof.1
          have hmf : zs.length = m4 := by have h1 := congrArg List.length (huf.trans HU4.out.symm); rw [List.length_map, List.length_map, HM4.out] at h1; exact h1
          rw [hmf]
          have HMf := Lib.hid hmf
          have HOf := Lib.hid hof
          have HUf := Lib.hid huf
          clear hof huf hbf hmf
          go_wp2_with fail
          refine (same9_any Af A5 m4 m4 cf' c5 zs ys HMf.out HM5.out (by omega) (by omega) _ (by exact (own_cells HOf.out.1).ext) (by exact (own_cells HO5e.out.1).ext) (by exact HOf.out.good.ext) (by exact HO5e.out.good.ext)).mono ?_
          rintro e wg ⟨rfl, hbg⟩
          rw [HUf.out, HU5.out, sameB22]
          have Sg : Step wg _ := ⟨hbg⟩
          clear hbg
          go_wp2_with fail
          refine (awake22_any _).mono ?_
          rintro e wh ⟨rfl, hbh⟩
          have Sh : Step wh _ := ⟨hbh⟩
          clear hbh
          go_wp2
          go_ret
          exact ⟨rfl, Ext.out⟩
  · generalize bitsD d = d1
    generalize bitsB b = b1
    have hd' : (d == 0) = false := by rw [beq_eq_false_iff_ne]; omega
    by_cases hd1 : 8 ≤ d
    · have hd2 : ¬ d ≤ 15 := by omega
      clear hdg
      go_wp2_with fail
      refine (spoil9_above A4 m4 c4 (w3.alloc (zR r1 r2)).heap.size xs w4 _ HM4.out (by omega) (by exact size_ext) (by rw [← HM4.out]; exact HO4.out)).mono ?_
      rintro e we ⟨rfl, hbe, hae⟩
      have hbe' : Below (w3.alloc (zR r1 r2)).heap.size (w3.alloc (zR r1 r2)) we := (Ext.out).trans hbe
      have HO5e := Lib.hid (OptsOwn.above (HO5.out.ext) hae (size_ext))
      have Se : Step we (w3.alloc (zR r1 r2)) := ⟨hbe'⟩
      clear hbe hbe' hae
      go_wp2_with
        (refine wpList_load_row rfl 34 (.tmp 3) rfl w.heap.size rfl 34 #[.int .i64 d, .int .i64 b] (0, 0) _ (at_ext HG0.out) Try.underlying34 rfl (by kernel_rfl) ?_)
      refine (options22_any d b _).mono ?_
      rintro e wf ⟨vf, zs, rfl, hof, huf, hbf⟩
      have Sf : Step wf _ := ⟨hbf⟩
      obtain ⟨Af, cf', rfl, _⟩ := own_slice hof.1
      have hmf : zs.length = m4 := by have h1 := congrArg List.length (huf.trans HU4.out.symm); rw [List.length_map, List.length_map, HM4.out] at h1; exact h1
      rw [hmf]
      have HMf := Lib.hid hmf
      have HOf := Lib.hid hof
      have HUf := Lib.hid huf
      clear hof huf hbf hmf
      go_wp2_with fail
      refine (same9_any Af A5 m4 m4 cf' c5 zs ys HMf.out HM5.out (by omega) (by omega) _ (by exact (own_cells HOf.out.1).ext) (by exact (own_cells HO5e.out.1).ext) (by exact HOf.out.good.ext) (by exact HO5e.out.good.ext)).mono ?_
      rintro e wg ⟨rfl, hbg⟩
      rw [HUf.out, HU5.out, sameB22]
      have Sg : Step wg _ := ⟨hbg⟩
      clear hbg
      go_wp2_with fail
      refine (awake22_any _).mono ?_
      rintro e wh ⟨rfl, hbh⟩
      have Sh : Step wh _ := ⟨hbh⟩
      clear hbh
      go_wp2
      go_ret
      exact ⟨rfl, Ext.out⟩
    · clear hdg
      go_wp2_with fail
      refine (spoil9_above A4 m4 c4 (w3.alloc (zR r1 r2)).heap.size xs w4 _ HM4.out (by omega) (by exact size_ext) (by rw [← HM4.out]; exact HO4.out)).mono ?_
      rintro e we ⟨rfl, hbe, hae⟩
      have hbe' : Below (w3.alloc (zR r1 r2)).heap.size (w3.alloc (zR r1 r2)) we := (Ext.out).trans hbe
      have HO5e := Lib.hid (OptsOwn.above (HO5.out.ext) hae (size_ext))
      have Se : Step we (w3.alloc (zR r1 r2)) := ⟨hbe'⟩
      clear hbe hbe' hae
      go_wp2_with
        (refine wpList_load_row rfl 34 (.tmp 3) rfl w.heap.size rfl 34 #[.int .i64 d, .int .i64 b] (0, 0) _ (at_ext HG0.out) Try.underlying34 rfl (by kernel_rfl) ?_)
      refine (options22_any d b _).mono ?_
      rintro e wf ⟨vf, zs, rfl, hof, huf, hbf⟩
      have Sf : Step wf _ := ⟨hbf⟩
      obtain ⟨Af, cf', rfl, _⟩ := own_slice hof.1
      have hmf : zs.length = m4 := by have h1 := congrArg List.length (huf.trans HU4.out.symm); rw [List.length_map, List.length_map, HM4.out] at h1; exact h1
      rw [hmf]
      have HMf := Lib.hid hmf
      have HOf := Lib.hid hof
      have HUf := Lib.hid huf
      clear hof huf hbf hmf
      go_wp2_with fail
      refine (same9_any Af A5 m4 m4 cf' c5 zs ys HMf.out HM5.out (by omega) (by omega) _ (by exact (own_cells HOf.out.1).ext) (by exact (own_cells HO5e.out.1).ext) (by exact HOf.out.good.ext) (by exact HO5e.out.good.ext)).mono ?_
      rintro e wg ⟨rfl, hbg⟩
      rw [HUf.out, HU5.out, sameB22]
      have Sg : Step wg _ := ⟨hbg⟩
      clear hbg
      go_wp2_with fail
      refine (awake22_any _).mono ?_
      rintro e wh ⟨rfl, hbh⟩
      have Sh : Step wh _ := ⟨hbh⟩
      clear hbh
      go_wp2
      go_ret
      exact ⟨rfl, Ext.out⟩

set_option maxRecDepth 100000 in
theorem arg_opts22 {U : Nat} {W : World} {v : Value} (h : Arg U Try.prog W 34 v) : ∃ d b, v = .agg #[.int .i64 d, .int .i64 b] ∧ (-9223372036854775808 ≤ d ∧ d ≤ 9223372036854775807) ∧ (-9223372036854775808 ≤ b ∧ b ≤ 9223372036854775807) := by
  obtain ⟨cs, rfl, h'⟩ := Arg.struct Try.underlying34 h
  have hl := h'.len Try.underlying34
  have hs : Try.prog.cellsOf 34 = 2 := by kernel_rfl
  rw [hs] at hl
  match cs, hl with
  | [x, y], _ =>
    have h0 : ArgC U Try.prog W 3 (([x, y].drop 0).take (Try.prog.cellsOf 3)) := h'.field Try.underlying34 (i := 0) rfl
    have h1 : ArgC U Try.prog W 3 (([x, y].drop 1).take (Try.prog.cellsOf 3)) := h'.field Try.underlying34 (i := 1) rfl
    rw [sz_int] at h0 h1
    obtain ⟨a, e0, w0⟩ := h0.int Try.underlying3
    obtain ⟨b, e1, w1⟩ := h1.int Try.underlying3
    simp at e0 e1
    subst e0 e1
    exact ⟨_, _, rfl, wf_i64 w0, wf_i64 w1⟩
namespace CcpOptions
set_option maxRecDepth 100000 in
theorem walk (U : Nat) (W : World) (vs : List Value) (h : Args U Try.prog W Try.f4.params.toList vs) : Calls Try.prog 4 vs.toArray W fun e W' => e = .returned (.bool true) ∧ Below W.heap.size W W' := by
  rw [Try.params4] at h
  match vs, h with
  | [v0, v1, v2], ⟨h0, h1, h2, _⟩ =>
    obtain ⟨d, b, rfl, _, _⟩ := arg_opts22 h0
    obtain ⟨A, n, c, vs, rfl, hl, hnc, _, hn, hC, hG, _⟩ := h1.options
    obtain ⟨cf, df, bs, maxf, rfl, hsz, hdf, hbs, _⟩ := arg_conf22 h2
    exact options22_law d b A n c vs cf df bs hsz hdf hbs hl hn hnc W hC hG

set_option maxRecDepth 100000 in
theorem lifted (os : Os) (started : os.Started) (H : Type) (enc : TypeId × Value → H) :
    ReturnsInHanded {} Try.checked os 4 .any (Rows.ccpOptionsSpec.pre6 enc Try.prog Try.f4 Rows.ccpOptionsRow.domain false) (Rows.ccpOptionsSpec.post enc Try.prog Try.f4 false true false false) :=
  law_lifted (C := Try.checked) laid_out own_knob started (by kernel_rfl) Try.func4 H enc rfl
    (fun ds hd => by
      have : ds.length = 3 := hd
      match ds, this with
      | [_, _, _], _ => exact ⟨rfl, rfl, rfl⟩) rfl Try.underlying4 (by
      have : (Try.f4.params.toList.all fun t => Try.prog.readableRec t && decide (t < Try.prog.types.size)) = true := by kernel_rfl
      intro t ht
      have h := List.all_eq_true.1 this t ht
      rw [Bool.and_eq_true, decide_eq_true_eq] at h
      exact h)
    (ChangeSpec.witness6 (enc := enc) (C := Try.checked) false ⟨#[], #[.agg #[.int .i64 0, .int .i64 0], .slice none 0 0, .agg #[.string ⟨#[]⟩, .string ⟨#[]⟩, .int .i64 0, .slice none 0 0, .int .i64 0, .int .i64 0, .bool false, .bool false, .bool false, .int .i64 0, .int .i64 0, .int .i64 0, .int .i64 0, .bool false, .bool false, .int .u64 0, .int .i64 0, .int .i64 0, .int .i64 0, .int .i64 0, .int .i64 0, .int .i64 0, .int .i64 0, .int .i64 0, .int .i64 0, .int .i64 0, .int .i64 0, .int .i64 0, .bool false, .bool false, .int .i64 0, .string ⟨#[]⟩, .string ⟨#[]⟩]], []⟩ 8 (by kernel_rfl) (by kernel_rfl) (by kernel_rfl) (by kernel_rfl)) walk

theorem over : Rows.ccpOptionsRow.holds Try.pinned (OpenSpec.ofChange Rows.ccpOptionsSpec) :=
  OpenClaim.holds_of_wide 4 Try.f4 rfl rfl rfl rfl rfl rfl rfl ⟨rfl, rfl, rfl, rfl, rfl⟩ rfl rfl rfl rfl rfl (by kernel_rfl) Try.func4 (by kernel_rfl)
    (of_decide_eq_true (by kernel_rfl)) (by unfold Func.isWrapper; first | (rw [if_pos (by decide +kernel)]; kernel_rfl) | (rw [if_neg (by decide +kernel)]; exact ⟨rfl, rfl⟩))
    (fun os started H enc _ => lifted os started H enc)

/-- The statement. -/
theorem proved : Rows.CcpOptionsSaid := over
#print axioms proved
end CcpOptions
end Go.Proofs.Ytnhmpmibkpoipaa
