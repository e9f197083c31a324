/-
  tetherlaw22.CcpJudges: what is asked is borne, turned down, or told with another value, as the chapter says, and so is what is asked behind that: for every input the call answers true. No condition.
-/
import Derived.Test.YtnhmpmibkpoipaaCcT
import Derived.Test.YtnhmpmibkpoipaaCcV
import Derived.Test.YtnhmpmibkpoipaaCcW
import Derived.Test.YtnhmpmibkpoipaaCcQ
namespace Go.Proofs.Ytnhmpmibkpoipaa
open Go.RowKit
set_option linter.unusedVariables false
set_option linter.unusedSimpArgs false

set_option maxRecDepth 100000 in
set_option maxHeartbeats 8000000 in
theorem judges22_law (cf : Array Value) (df bs maxf d b naks : Int) (A : Option Addr) (n c : Nat) (vs : List OV) (hsz : (Try.prog.info? 39).map (·.size) = some cf.size) (hdf : cf[16]? = some (.int .i64 df)) (hbs : cf[17]? = some (.int .i64 bs)) (hmf : cf[21]? = some (.int .i64 maxf)) (hn : vs.length = n) (hn' : n ≤ 4398046511104) (hnc : n ≤ c)
    (w : World) (hx : Cells w A (flat vs)) (gx : Good w vs) :
    Calls Try.prog 5 #[.agg cf, .agg #[.int .i64 d, .int .i64 b], .slice A n c, .int .i64 naks] w fun e w' => e = .returned (.bool true) ∧ Below w.heap.size w w' := by
  have Hn := Lib.hid hn
  have HX := Lib.hid hx
  have GX := Lib.hid gx
  have HSZ := Lib.hid hsz
  have HDF := Lib.hid hdf
  have HBS := Lib.hid hbs
  have HMF := Lib.hid hmf
  have HG0 : Hid (((w.alloc (.cells cf 39)).alloc (cP d b)).heap[w.heap.size]? = some (.cells cf 39)) := at_ext (at_new w (.cells cf 39))
  have HG1 : Hid (((w.alloc (.cells cf 39)).alloc (cP d b)).heap[w.heap.size + 1]? = some (cP d b)) := at_new1 (by simp)
  clear hn hx gx hsz hdf hbs hmf
  go_enter Try.func5, Try.ntmps5
  go_wp2_with fail
  refine (lent9_any A n c vs Hn.out hn' _ (by exact HX.out.ext) (by exact GX.out.ext)).mono ?_
  rintro e w1 ⟨v1, us, rfl, ho1, hu1, hb1⟩
  have S1 : Step w1 _ := ⟨hb1⟩
  obtain ⟨A1, c1, rfl, hnc1⟩ := own_slice ho1.1
  have hul : us.length = n := by have h1 := congrArg List.length hu1; rw [List.length_map, List.length_map, Hn.out] at h1; exact h1
  have HO1 := Lib.hid ho1
  have HU1 := Lib.hid hu1
  rw [hul] at hnc1 ⊢
  have HUL := Lib.hid hul
  have G1 : Hid (Good w1 us) := HO1.out.good
  have C1 : Hid (Cells w1 A1 (flat us)) := own_cells HO1.out.1
  clear ho1 hu1 hb1 hul
  go_wp2_with
    (refine wpList_load_row rfl 39 (.tmp 4) rfl w.heap.size rfl 39 cf (0, 0) _ (at_ext HG0.out) Try.underlying39 rfl HSZ.out ?_)
  refine (judge22_any cf df bs maxf naks A1 n c1 us HSZ.out HDF.out HBS.out HMF.out HUL.out hn' hnc1 _ (by exact C1.out.ext) (by exact G1.out.ext)).mono ?_
  rintro e w2 ⟨v2, xs, rfl, ho2, hx2, hb2⟩
  have S2 : Step w2 _ := ⟨hb2⟩
  rw [HU1.out] at hx2 ⊢
  obtain ⟨A2, c2, rfl, hnc2⟩ := own_slice ho2.1
  have hml : xs.length ≤ 4398046511104 := by
    have h1 := judgeC_len df bs maxf naks (vs.map OV.opt)
    rw [← hx2, List.length_map, List.length_map, Hn.out] at h1
    omega
  obtain ⟨m, hm⟩ : ∃ m, xs.length = m := ⟨_, rfl⟩
  rw [hm] at hml ho2 ⊢
  have HO2 := Lib.hid ho2
  have HX2 := Lib.hid hx2
  have HXM := Lib.hid hm
  clear ho2 hx2 hb2 hm
  go_wp2_with
    (refine wpList_load_row rfl 39 (.tmp 4) rfl w.heap.size rfl 39 cf (0, 0) _ (at_ext HG0.out) Try.underlying39 rfl HSZ.out ?_)
  refine (rjudge22_any cf df bs maxf naks A n c vs HSZ.out HDF.out HBS.out HMF.out Hn.out hn' hnc _ (by exact HX.out.ext) (by exact GX.out.ext)).mono ?_
  rintro e w3 ⟨v3, ys, rfl, hr3, hx3, hb3⟩
  have S3 : Step w3 _ := ⟨hb3⟩
  have JF := Lib.hid (judgeC_fits df bs maxf naks (vs.map OV.opt))
  obtain ⟨A3, c3, rfl, hC3, hG3⟩ := hr3.tells Hn.out (by exact HX.out.ext) (by exact GX.out.ext)
  have hyl : ys.length = m := by have h1 := congrArg List.length (hx3.trans HX2.out.symm); rw [List.length_map, List.length_map, HXM.out] at h1; exact h1
  rw [hyl] at hr3 ⊢
  have HYL := Lib.hid hyl
  have HR3 := Lib.hid hr3
  have HX3 := Lib.hid hx3
  have C3 := Lib.hid hC3
  have G3 := Lib.hid hG3
  clear hr3 hx3 hC3 hG3 hb3 hyl
  obtain ⟨J, hJ⟩ : ∃ J, judgeC df bs maxf naks (vs.map OV.opt) = J := ⟨_, rfl⟩
  rw [hJ] at HX2 HX3 JF ⊢
  clear hJ
  obtain ⟨K, os⟩ := J
  simp only at HX2 HX3 JF
  simp only
  go_wp2_with fail
  refine (same9_any A2 A3 m m c2 c3 xs ys HXM.out HYL.out (by omega) (by omega) _ (by exact (own_cells HO2.out.1).ext) (by exact C3.out.ext) (by exact HO2.out.good.ext) (by exact G3.out.ext)).mono ?_
  rintro e w4 ⟨rfl, hb4⟩
  rw [HX2.out, HX3.out, sameB22]
  have S4 : Step w4 _ := ⟨hb4⟩
  clear hb4
  go_wp2_with fail
  refine (same9_any A1 A n n c1 c us vs HUL.out Hn.out (by omega) (by omega) _ (by exact C1.out.ext) (by exact HX.out.ext) (by exact G1.out.ext) (by exact GX.out.ext)).mono ?_
  rintro e w5 ⟨rfl, hb5⟩
  rw [HU1.out, sameB22]
  have S5 : Step w5 _ := ⟨hb5⟩
  clear hb5
  go_wp2_with fail
  refine (spoil9_above A2 m c2 w1.heap.size xs w2 _ HXM.out hml (by exact size_ext) HO2.out).mono ?_
  rintro e we ⟨rfl, hbe, hae⟩
  have hbe' : Below w1.heap.size w1 we := (Ext.out).trans hbe
  have HR3e := Lib.hid (RList.above (HR3.out.ext) hae (by exact Nat.le_refl _))
  have Se : Step we w1 := ⟨hbe'⟩
  clear hbe hbe' hae
  have hce : Cells we A3 (flat ys) ∧ Good we ys := by
    obtain ⟨A', c', he, h1, h2⟩ := HR3e.out.tells Hn.out (by exact HX.out.ext) (by exact GX.out.ext)
    injection he with he _ _
    subst he
    exact ⟨h1, h2⟩
  have C3e := Lib.hid hce.1
  have G3e := Lib.hid hce.2
  clear hce HR3 HR3e C3 G3
  go_wp2_with
    (first
     | (refine wpList_load_row rfl 39 (.tmp 4) rfl w.heap.size rfl 39 cf (0, 0) _ (at_ext HG0.out) Try.underlying39 rfl HSZ.out ?_)
     | (refine wpList_load_row rfl 34 (.tmp 5) rfl (w.heap.size + 1) rfl 34 #[.int .i64 d, .int .i64 b] (0, 0) _ (at_ext HG1.out) Try.underlying34 rfl (by kernel_rfl) ?_))
  refine (nak22_any cf d b A1 n c1 us HUL.out hn' _ (by exact C1.out.ext) (by exact G1.out.ext)).mono ?_
  rintro e w6 ⟨rfl, hb6⟩
  rw [HU1.out]
  have S6 : Step w6 _ := ⟨hb6⟩
  clear hb6
  obtain ⟨N, hN⟩ : ∃ N, nakF22 d b ((vs.map OV.opt).foldl nakU (0, 0)) = N := ⟨_, rfl⟩
  rw [hN]
  have HN := Lib.hid hN
  clear hN
  obtain ⟨⟨p1, p2⟩, pc⟩ := N
  have HA6 := Lib.hid (at_new w6 (cP p1 p2))
  simp only
  go_wp2_with
    (refine wpList_load_row rfl 34 (.tmp 5) rfl (w.heap.size + 1) rfl 34 #[.int .i64 d, .int .i64 b] (0, 0) _ (at_ext HG1.out) Try.underlying34 rfl (by kernel_rfl) ?_)
  refine (own22L_any d b _).mono ?_
  rintro e wo ⟨rfl, hbo⟩
  have So : Step wo _ := ⟨hbo⟩
  clear hbo
  go_wp2_with fail
  refine (rnak22_any d b A n c vs Hn.out hn' _ (by exact HX.out.ext) (by exact GX.out.ext)).mono ?_
  rintro e w7 ⟨rfl, hb7⟩
  rw [HN.out]
  have S7 : Step w7 _ := ⟨hb7⟩
  have HA7 := Lib.hid (at_new w7 (cQ p1 p2))
  clear hb7
  simp only
  go_wp2_with
    (first
     | (refine wpList_load_row rfl 39 (.tmp 4) rfl w.heap.size rfl 39 cf (0, 0) _ (at_ext HG0.out) Try.underlying39 rfl HSZ.out ?_)
     | (refine wpList_load_row rfl 34 (.tmp 5) rfl (w.heap.size + 1) rfl 34 #[.int .i64 d, .int .i64 b] (0, 0) _ (at_ext HG1.out) Try.underlying34 rfl (by kernel_rfl) ?_))
  refine (reject22_any cf d b A1 n c1 us HUL.out hn' _ (by exact C1.out.ext)).mono ?_
  rintro e w8 ⟨rfl, hb8⟩
  rw [HU1.out]
  have S8 : Step w8 _ := ⟨hb8⟩
  clear hb8
  obtain ⟨RJ, hRJ⟩ : ∃ RJ, (vs.map OV.opt).foldl rejU (d, b) = RJ := ⟨_, rfl⟩
  rw [hRJ]
  have HRJ := Lib.hid hRJ
  clear hRJ
  obtain ⟨r1, r2⟩ := RJ
  have HA8 := Lib.hid (at_new w8 (cP r1 r2))
  simp only
  go_wp2
  refine wp_region_held_drew (S := fun W => Ext (w8.alloc (cP r1 r2)) W) (by kernel_rfl) (by exact inferInstance) (fun hHeld => ?_)
  refine wpAnyH_take (i := 0) (v := .agg #[.int .i64 p1, .int .i64 p2]) rfl (by kernel_rfl) (by kernel_rfl) (by kernel_rfl) (fun _ _ _ h => h) (yields_row_S (by rfl) 34 (.tmp 14) rfl w6.heap.size rfl 34 #[.int .i64 p1, .int .i64 p2] (0, 0) _ Try.underlying34 rfl (by kernel_rfl) (fun W hW => at_ext (h := hW) (at_ext (w' := w8.alloc (cP r1 r2)) HA6.out))) hHeld ?_
  simp only [List.getElem_toArray, List.getElem_cons_succ, List.getElem_cons_zero, Act.put, List.setIfInBounds_toArray, List.set_cons_zero, List.set_cons_succ]
  refine wpAnyH_take (i := 2) (v := .agg #[.int .i64 p1, .int .i64 p2]) rfl (by kernel_rfl) (by kernel_rfl) (by kernel_rfl) (fun _ _ _ h => h) (yields_row_S (by rfl) 43 (.tmp 16) rfl w7.heap.size rfl 43 #[.int .i64 p1, .int .i64 p2] (0, 0) _ Try.underlying43 rfl (by kernel_rfl) (fun W hW => at_ext (h := hW) (at_ext (w' := w8.alloc (cP r1 r2)) HA7.out))) hHeld ?_
  simp only [List.getElem_toArray, List.getElem_cons_succ, List.getElem_cons_zero, Act.put, List.setIfInBounds_toArray, List.set_cons_zero, List.set_cons_succ]
  refine wpAnyH_ready (rs := [1]) (by kernel_rfl) (by simp) ?_
  refine AllReadyH.cons rfl (fun K hK => ?_) AllReadyH.nil
  refine step_call_w (by rfl) Try.func25 (by kernel_rfl) (by kernel_rfl) #[.tmp 76] #[34] rfl #[.agg #[.int .i64 p1, .int .i64 p2]] ?hv (own22L_any p1 p2 _) ?_
  case hv => go_simp
  rintro e w9 ⟨rfl, hbb⟩
  refine ⟨_, rfl, ?_⟩
  skip
  have S9 : Step w9 _ := ⟨hbb⟩
  clear hbb hHeld
  refine hK.out _ _ (by exact inferInstance) (fun hHeld => ?_)
  clear hK K
  simp only [List.getElem_toArray, List.getElem_cons_succ, List.getElem_cons_zero, Act.put, List.setIfInBounds_toArray, List.set_cons_zero, List.set_cons_succ]
  refine wpAnyH_take (i := 3) (v := ?_) rfl (by kernel_rfl) (by kernel_rfl) (by kernel_rfl) (fun _ _ _ h => h) (Yields.yieldsIf (Or.inl ⟨by rfl, ?_⟩)) hHeld ?_
  rotate_left
  · intro W
    go_simp
    try with_reducible rfl
  simp only [List.getElem_toArray, List.getElem_cons_succ, List.getElem_cons_zero, Act.put, List.setIfInBounds_toArray, List.set_cons_zero, List.set_cons_succ]
  refine wpAnyH_take (i := 4) (v := ?_) rfl (by kernel_rfl) (by kernel_rfl) (by kernel_rfl) (fun _ _ _ h => h) (Yields.yieldsIf (Or.inl ⟨by rfl, ?_⟩)) hHeld ?_
  rotate_left
  · intro W
    go_simp
    try with_reducible rfl
  simp only [List.getElem_toArray, List.getElem_cons_succ, List.getElem_cons_zero, Act.put, List.setIfInBounds_toArray, List.set_cons_zero, List.set_cons_succ]
  refine wpAnyH_take (i := 5) (v := ?_) rfl (by kernel_rfl) (by kernel_rfl) (by kernel_rfl) (fun _ _ _ h => h) (Yields.yieldsIf (Or.inl ⟨by rfl, ?_⟩)) hHeld ?_
  rotate_left
  · intro W
    go_simp
    try with_reducible rfl
  simp only [List.getElem_toArray, List.getElem_cons_succ, List.getElem_cons_zero, Act.put, List.setIfInBounds_toArray, List.set_cons_zero, List.set_cons_succ]
  refine wpAnyH_take (i := 6) (v := ?_) rfl (by kernel_rfl) (by kernel_rfl) (by kernel_rfl) (fun _ _ _ h => h) (Yields.yieldsIf (Or.inl ⟨by rfl, ?_⟩)) hHeld ?_
  rotate_left
  · intro W
    go_simp
    try with_reducible rfl
  simp only [List.getElem_toArray, List.getElem_cons_succ, List.getElem_cons_zero, Act.put, List.setIfInBounds_toArray, List.set_cons_zero, List.set_cons_succ]
  refine wpAnyH_take (i := 7) (v := ?_) rfl (by kernel_rfl) (by kernel_rfl) (by kernel_rfl) (fun _ _ _ h => h) (Yields.yieldsIf (Or.inl ⟨by rfl, ?_⟩)) hHeld ?_
  rotate_left
  · intro W
    go_simp
    try with_reducible rfl
  simp only [List.getElem_toArray, List.getElem_cons_succ, List.getElem_cons_zero, Act.put, List.setIfInBounds_toArray, List.set_cons_zero, List.set_cons_succ]
  refine wpAnyH_take (i := 8) (v := ?_) rfl (by kernel_rfl) (by kernel_rfl) (by kernel_rfl) (fun _ _ _ h => h) (Yields.yieldsIf (Or.inl ⟨by rfl, ?_⟩)) hHeld ?_
  rotate_left
  · intro W
    go_simp
    try with_reducible rfl
  simp only [List.getElem_toArray, List.getElem_cons_succ, List.getElem_cons_zero, Act.put, List.setIfInBounds_toArray, List.set_cons_zero, List.set_cons_succ]
  refine wpAnyH_take (i := 9) (v := ?_) rfl (by kernel_rfl) (by kernel_rfl) (by kernel_rfl) (fun _ _ _ h => h) (Yields.yieldsIf (Or.inl ⟨by rfl, ?_⟩)) hHeld ?_
  rotate_left
  · intro W
    go_simp
    try with_reducible rfl
  simp only [List.getElem_toArray, List.getElem_cons_succ, List.getElem_cons_zero, Act.put, List.setIfInBounds_toArray, List.set_cons_zero, List.set_cons_succ]
  refine wpAnyH_take (i := 10) (v := .agg #[.int .i64 r1, .int .i64 r2]) rfl (by kernel_rfl) (by kernel_rfl) (by kernel_rfl) (fun _ _ _ h => h) (yields_row_S (by rfl) 34 (.tmp 18) rfl w8.heap.size rfl 34 #[.int .i64 r1, .int .i64 r2] (0, 0) _ Try.underlying34 rfl (by kernel_rfl) (fun W hW => at_ext (h := hW) HA8.out)) hHeld ?_
  simp only [List.getElem_toArray, List.getElem_cons_succ, List.getElem_cons_zero, Act.put, List.setIfInBounds_toArray, List.set_cons_zero, List.set_cons_succ]
  refine wpAnyH_take (i := 12) (v := .agg #[.int .i64 d, .int .i64 b]) rfl (by kernel_rfl) (by kernel_rfl) (by kernel_rfl) (fun _ _ _ h => h) (yields_row_S (by rfl) 34 (.tmp 5) rfl (w.heap.size + 1) rfl 34 #[.int .i64 d, .int .i64 b] (0, 0) _ Try.underlying34 rfl (by kernel_rfl) (fun W hW => at_ext (h := hW) (at_ext (w' := w8.alloc (cP r1 r2)) HG1.out))) hHeld ?_
  simp only [List.getElem_toArray, List.getElem_cons_succ, List.getElem_cons_zero, Act.put, List.setIfInBounds_toArray, List.set_cons_zero, List.set_cons_succ]
  refine wpAnyH_take (i := 14) (v := ?_) rfl (by kernel_rfl) (by kernel_rfl) (by kernel_rfl) (fun _ _ _ h => h) (Yields.yieldsIf (Or.inl ⟨by rfl, ?_⟩)) hHeld ?_
  rotate_left
  · intro W
    go_simp
    try with_reducible rfl
  simp only [List.getElem_toArray, List.getElem_cons_succ, List.getElem_cons_zero, Act.put, List.setIfInBounds_toArray, List.set_cons_zero, List.set_cons_succ]
  refine wpAnyH_ready (rs := [11]) (by kernel_rfl) (by simp) ?_
  refine AllReadyH.cons rfl (fun K hK => ?_) AllReadyH.nil
  refine step_call_w (by rfl) Try.func25 (by kernel_rfl) (by kernel_rfl) #[.tmp 86] #[34] rfl #[.agg #[.int .i64 r1, .int .i64 r2]] ?hv (own22L_any r1 r2 _) ?_
  case hv => go_simp
  rintro e wa ⟨rfl, hbb⟩
  refine ⟨_, rfl, ?_⟩
  skip
  have Sa : Step wa _ := ⟨hbb⟩
  clear hbb hHeld
  refine hK.out _ _ (by exact inferInstance) (fun hHeld => ?_)
  clear hK K
  simp only [List.getElem_toArray, List.getElem_cons_succ, List.getElem_cons_zero, Act.put, List.setIfInBounds_toArray, List.set_cons_zero, List.set_cons_succ]
  refine wpAnyH_ready (rs := [13]) (by kernel_rfl) (by simp) ?_
  refine AllReadyH.cons rfl (fun K hK => ?_) AllReadyH.nil
  refine step_call_w (by rfl) Try.func25 (by kernel_rfl) (by kernel_rfl) #[.tmp 88] #[34] rfl #[.agg #[.int .i64 d, .int .i64 b]] ?hv (own22L_any d b _) ?_
  case hv => go_simp
  rintro e wb ⟨rfl, hbb⟩
  refine ⟨_, rfl, ?_⟩
  skip
  have Sb : Step wb _ := ⟨hbb⟩
  clear hbb hHeld
  refine hK.out _ _ (by exact inferInstance) (fun hHeld => ?_)
  clear hK K
  simp only [List.getElem_toArray, List.getElem_cons_succ, List.getElem_cons_zero, Act.put, List.setIfInBounds_toArray, List.set_cons_zero, List.set_cons_succ]
  refine wpAnyH_ready (rs := [15]) (by kernel_rfl) (by simp) ?_
  refine AllReadyH.cons rfl (fun K hK => ?_) AllReadyH.nil
  refine step_call_w (by rfl) Try.func36 (by kernel_rfl) (by kernel_rfl) #[.tmp 89, .tmp 90] #[43, 35] rfl #[.agg #[.int .i64 d, .int .i64 b], .slice A n c] ?hv (rreject22_any d b A n c vs Hn.out hn' _ HX.out.ext) ?_
  case hv => go_simp
  rintro e wc ⟨rfl, hbb⟩
  refine ⟨_, rfl, ?_⟩
  rw [HRJ.out]
  have Sc : Step wc _ := ⟨hbb⟩
  clear hbb hHeld
  refine hK.out _ _ (by exact inferInstance) (fun hHeld => ?_)
  clear hK K
  simp only [List.getElem_toArray, List.getElem_cons_succ, List.getElem_cons_zero, Act.put, List.setIfInBounds_toArray, List.set_cons_zero, List.set_cons_succ]
  refine wpAnyH_take (i := 16) (v := ?_) rfl (by kernel_rfl) (by kernel_rfl) (by kernel_rfl) (fun _ _ _ h => h) (Yields.yieldsIf (Or.inl ⟨by rfl, ?_⟩)) hHeld ?_
  rotate_left
  · intro W
    go_simp
    try with_reducible rfl
  simp only [List.getElem_toArray, List.getElem_cons_succ, List.getElem_cons_zero, Act.put, List.setIfInBounds_toArray, List.set_cons_zero, List.set_cons_succ]
  refine wpAnyH_take (i := 17) (v := ?_) rfl (by kernel_rfl) (by kernel_rfl) (by kernel_rfl) (fun _ _ _ h => h) (Yields.yieldsIf (Or.inl ⟨by rfl, ?_⟩)) hHeld ?_
  rotate_left
  · intro W
    go_simp
    try with_reducible rfl
  simp only [List.getElem_toArray, List.getElem_cons_succ, List.getElem_cons_zero, Act.put, List.setIfInBounds_toArray, List.set_cons_zero, List.set_cons_succ]
  refine wpAnyH_take (i := 18) (v := ?_) rfl (by kernel_rfl) (by kernel_rfl) (by kernel_rfl) (fun _ _ _ h => h) (Yields.yieldsIf (Or.inl ⟨by rfl, ?_⟩)) hHeld ?_
  rotate_left
  · intro W
    go_simp
    try with_reducible rfl
  simp only [List.getElem_toArray, List.getElem_cons_succ, List.getElem_cons_zero, Act.put, List.setIfInBounds_toArray, List.set_cons_zero, List.set_cons_succ]
  refine wpAnyH_take (i := 19) (v := ?_) rfl (by kernel_rfl) (by kernel_rfl) (by kernel_rfl) (fun _ _ _ h => h) (Yields.yieldsIf (Or.inl ⟨by rfl, ?_⟩)) hHeld ?_
  rotate_left
  · intro W
    go_simp
    try with_reducible rfl
  simp only [List.getElem_toArray, List.getElem_cons_succ, List.getElem_cons_zero, Act.put, List.setIfInBounds_toArray, List.set_cons_zero, List.set_cons_succ]
  refine wpAnyH_take (i := 20) (v := ?_) rfl (by kernel_rfl) (by kernel_rfl) (by kernel_rfl) (fun _ _ _ h => h) (Yields.yieldsIf (Or.inl ⟨by rfl, ?_⟩)) hHeld ?_
  rotate_left
  · intro W
    go_simp
    try with_reducible rfl
  simp only [List.getElem_toArray, List.getElem_cons_succ, List.getElem_cons_zero, Act.put, List.setIfInBounds_toArray, List.set_cons_zero, List.set_cons_succ]
  refine wpAnyH_take (i := 21) (v := ?_) rfl (by kernel_rfl) (by kernel_rfl) (by kernel_rfl) (fun _ _ _ h => h) (Yields.yieldsIf (Or.inl ⟨by rfl, ?_⟩)) hHeld ?_
  rotate_left
  · intro W
    go_simp
    try with_reducible rfl
  simp only [List.getElem_toArray, List.getElem_cons_succ, List.getElem_cons_zero, Act.put, List.setIfInBounds_toArray, List.set_cons_zero, List.set_cons_succ]
  refine wpAnyH_take (i := 22) (v := ?_) rfl (by kernel_rfl) (by kernel_rfl) (by kernel_rfl) (fun _ _ _ h => h) (Yields.yieldsIf (Or.inl ⟨by rfl, ?_⟩)) hHeld ?_
  rotate_left
  · intro W
    go_simp
    try with_reducible rfl
  simp only [List.getElem_toArray, List.getElem_cons_succ, List.getElem_cons_zero, Act.put, List.setIfInBounds_toArray, List.set_cons_zero, List.set_cons_succ]
  refine wpAnyH_take (i := 23) (v := ?_) rfl (by kernel_rfl) (by kernel_rfl) (by kernel_rfl) (fun _ _ _ h => h) (Yields.yieldsIf (Or.inl ⟨by rfl, ?_⟩)) hHeld ?_
  rotate_left
  · intro W
    go_simp
    try with_reducible rfl
  simp only [List.getElem_toArray, List.getElem_cons_succ, List.getElem_cons_zero, Act.put, List.setIfInBounds_toArray, List.set_cons_zero, List.set_cons_succ]
  refine wpAnyH_take (i := 24) (v := ?_) rfl (by kernel_rfl) (by kernel_rfl) (by kernel_rfl) (fun _ _ _ h => h) (Yields.yieldsIf (Or.inl ⟨by rfl, ?_⟩)) hHeld ?_
  rotate_left
  · intro W
    go_simp
    try with_reducible rfl
  simp only [List.getElem_toArray, List.getElem_cons_succ, List.getElem_cons_zero, Act.put, List.setIfInBounds_toArray, List.set_cons_zero, List.set_cons_succ]
  refine wpAnyH_ready (rs := [25]) (by kernel_rfl) (by simp) ?_
  refine AllReadyH.cons rfl (fun K hK => ?_) AllReadyH.nil
  refine step_call_w (by rfl) Try.func26 (by kernel_rfl) (by kernel_rfl) #[.tmp 99, .tmp 100] #[35, 35] rfl #[.slice A1 n c1, .slice A n c] ?hv (same9_any A1 A n n c1 c us vs HUL.out Hn.out (by omega) (by omega) _ C1.out.ext HX.out.ext G1.out.ext GX.out.ext) ?_
  case hv => go_simp
  rintro e wd ⟨rfl, hbb⟩
  refine ⟨_, rfl, ?_⟩
  rw [HU1.out, sameB22]
  have Sd : Step wd _ := ⟨hbb⟩
  clear hbb hHeld
  refine hK.out _ _ (by exact inferInstance) (fun hHeld => ?_)
  clear hK K
  simp only [List.getElem_toArray, List.getElem_cons_succ, List.getElem_cons_zero, Act.put, List.setIfInBounds_toArray, List.set_cons_zero, List.set_cons_succ]
  refine wpAnyH_take (i := 26) (v := ?_) rfl (by kernel_rfl) (by kernel_rfl) (by kernel_rfl) (fun _ _ _ h => h) (Yields.yieldsIf (Or.inl ⟨by rfl, ?_⟩)) hHeld ?_
  rotate_left
  · intro W
    go_simp
    try with_reducible rfl
  simp only [List.getElem_toArray, List.getElem_cons_succ, List.getElem_cons_zero, Act.put, List.setIfInBounds_toArray, List.set_cons_zero, List.set_cons_succ]
  refine wpAnyH_take (i := 27) (v := ?_) rfl (by kernel_rfl) (by kernel_rfl) (by kernel_rfl) (fun _ _ _ h => h) (Yields.yieldsIf (Or.inl ⟨by rfl, ?_⟩)) hHeld ?_
  rotate_left
  · intro W
    go_simp
    try with_reducible rfl
  simp only [List.getElem_toArray, List.getElem_cons_succ, List.getElem_cons_zero, Act.put, List.setIfInBounds_toArray, List.set_cons_zero, List.set_cons_succ]
  refine wpAnyH_done (by kernel_rfl) ?_ _
  clear hHeld
  go_wp2_with fail
  refine (fits9_any K A A3 n c m c3 vs ys Hn.out HYL.out hn' (by omega) _ (by exact HX.out.ext) (by exact C3e.out.ext) (by exact GX.out.ext) (by exact G3e.out.ext)).mono ?_
  rintro e wf ⟨rfl, hbf⟩
  rw [HX3.out, JF.out]
  have Sf : Step wf _ := ⟨hbf⟩
  clear hbf
  simp only
  go_wp2_with fail
  refine (awake22_any _).mono ?_
  rintro e wg ⟨rfl, hbg⟩
  have Sg : Step wg _ := ⟨hbg⟩
  clear hbg
  go_wp2
  go_ret
  exact ⟨rfl, Ext.out⟩

namespace CcpJudges
set_option maxRecDepth 100000 in
theorem walk (U : Nat) (W : World) (vs : List Value) (h : Args U Try.prog W Try.f5.params.toList vs) : Calls Try.prog 5 vs.toArray W fun e W' => e = .returned (.bool true) ∧ Below W.heap.size W W' := by
  rw [Try.params5] at h
  match vs, h with
  | [v0, v1, v2, v3], ⟨h0, h1, h2, h3, _⟩ =>
    obtain ⟨cf, df, bs, maxf, rfl, hsz, hdf, hbs, hmf, _⟩ := arg_conf22 h0
    obtain ⟨d, b, rfl, _, _⟩ := arg_opts22 h1
    obtain ⟨A, n, c, vs, rfl, hl, hnc, _, hn, hC, hG, _⟩ := h2.options
    obtain ⟨naks, rfl, hw3⟩ := h3.int Try.underlying3
    exact judges22_law cf df bs maxf d b naks A n c vs hsz hdf hbs hmf hl hn hnc W hC hG

set_option maxRecDepth 100000 in
theorem lifted (os : Os) (started : os.Started) (H : Type) (enc : TypeId × Value → H) :
    ReturnsInHanded {} Try.checked os 5 .any (Rows.ccpJudgesSpec.pre6 enc Try.prog Try.f5 Rows.ccpJudgesRow.domain false) (Rows.ccpJudgesSpec.post enc Try.prog Try.f5 false true false false) :=
  law_lifted (C := Try.checked) laid_out own_knob started (by kernel_rfl) Try.func5 H enc rfl
    (fun ds hd => by
      have : ds.length = 4 := hd
      match ds, this with
      | [_, _, _, _], _ => exact ⟨rfl, rfl, rfl⟩) rfl Try.underlying4 (by
      have : (Try.f5.params.toList.all fun t => Try.prog.readableRec t && decide (t < Try.prog.types.size)) = true := by kernel_rfl
      intro t ht
      have h := List.all_eq_true.1 this t ht
      rw [Bool.and_eq_true, decide_eq_true_eq] at h
      exact h)
    (ChangeSpec.witness6 (enc := enc) (C := Try.checked) false ⟨#[], #[.agg #[.string ⟨#[]⟩, .string ⟨#[]⟩, .int .i64 0, .slice none 0 0, .int .i64 0, .int .i64 0, .bool false, .bool false, .bool false, .int .i64 0, .int .i64 0, .int .i64 0, .int .i64 0, .bool false, .bool false, .int .u64 0, .int .i64 0, .int .i64 0, .int .i64 0, .int .i64 0, .int .i64 0, .int .i64 0, .int .i64 0, .int .i64 0, .int .i64 0, .int .i64 0, .int .i64 0, .int .i64 0, .bool false, .bool false, .int .i64 0, .string ⟨#[]⟩, .string ⟨#[]⟩], .agg #[.int .i64 0, .int .i64 0], .slice none 0 0, .int .i64 0], []⟩ 8 (by kernel_rfl) (by kernel_rfl) (by kernel_rfl) (by kernel_rfl)) walk

theorem over : Rows.ccpJudgesRow.holds Try.pinned (OpenSpec.ofChange Rows.ccpJudgesSpec) :=
  OpenClaim.holds_of_wide 5 Try.f5 rfl rfl rfl rfl rfl rfl rfl ⟨rfl, rfl, rfl, rfl, rfl⟩ rfl rfl rfl rfl rfl (by kernel_rfl) Try.func5 (by kernel_rfl)
    (of_decide_eq_true (by kernel_rfl)) (by unfold Func.isWrapper; first | (rw [if_pos (by decide +kernel)]; kernel_rfl) | (rw [if_neg (by decide +kernel)]; exact ⟨rfl, rfl⟩))
    (fun os started H enc _ => lifted os started H enc)

/-- The statement. -/
theorem proved : Rows.CcpJudgesSaid := over
#print axioms proved
end CcpJudges
end Go.Proofs.Ytnhmpmibkpoipaa
