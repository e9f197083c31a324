/-
  tetherlaw11.LcpFits: every answer fits its request, and nothing is acknowledged that the configuration does not bear: for every input the call answers true. No condition.
-/
import Derived.Test.YtodibldfolognaaLcP
namespace Go.Proofs.Ytodibldfolognaa
open Go.RowKit
set_option linter.unusedVariables false
set_option linter.unusedSimpArgs false

theorem hasK_none {acc : List Int} {k : Nat} {x a : Int} (h : hasK (acc.take k) x = false) (hk : acc[k]? = some a) (hne : ¬ a = x) : hasK (acc.take (k + 1)) x = false := by
  unfold hasK at h ⊢
  rw [decide_eq_false_iff_not] at h ⊢
  rw [List.take_add_one, hk, List.mem_append]
  rintro (h1 | h1)
  · exact h h1
  · simp at h1
    exact hne h1.symm
abbrev oT (o0 o1 o2 o3 : Int) (o4 o5 : Bool) : Obj := .cells #[.int .i64 o0, .int .i64 o1, .int .i64 o2, .int .u32 o3, .bool o4, .bool o5] 28
set_option maxRecDepth 100000 in
set_option maxHeartbeats 8000000 in
theorem fits11_law (cf : Array Value) (acc : List Int) (pf af mg : Bool) (AA : Option Addr) (ac : Nat) (req cmru caccm maxf : Int) (mru accm auth mm naks magic : Int) (b1 b2 : Bool) (A : Option Addr) (n c : Nat) (vs : List OV) (hm0 : 0 ≤ mm) (hm1 : mm < 4294967296) (hg0 : 0 ≤ magic) (hg1 : magic < 4294967296) (hn : vs.length = n) (hn' : n ≤ 4398046511104) (hnc : n ≤ c)
    (w : World) (hc : CConf w cf acc pf af mg AA ac req cmru caccm maxf) (hx : Cells w A (flat vs)) (gx : Good w vs) :
    Calls Try.prog 3 #[.agg cf, .agg #[.int .i64 mru, .int .i64 accm, .int .i64 auth, .int .u32 mm, .bool b1, .bool b2], .slice A n c, .int .i64 naks, .int .u32 magic] w fun e w' => e = .returned (.bool true) ∧ Below w.heap.size w w' := by
  have Hn := Lib.hid hn
  have HX := Lib.hid hx
  have GX := Lib.hid gx
  have HSZ := Lib.hid hc.size
  have HLC := Lib.hid hc.conf
  have HMF := Lib.hid hc.hmaxf
  have HAN := Lib.hid hc.len
  have HACC := Lib.hid hc.cells
  have HG0 : Hid (((w.alloc (.cells cf 25)).alloc (oT mru accm auth mm b1 b2)).heap[w.heap.size]? = some (.cells cf 25 (0, 0))) := at_ext (at_new w (.cells cf 25))
  have HG1 : Hid (((w.alloc (.cells cf 25)).alloc (oT mru accm auth mm b1 b2)).heap[w.heap.size + 1]? = some (oT mru accm auth mm b1 b2)) := at_new1 (by simp)
  have HBY : Hid (∀ x ∈ vs.map OV.opt, Byt x.2) := fun x hx => by
    obtain ⟨v, hv, rfl⟩ := List.mem_map.1 hx
    exact (gx v hv).2.2.2.1
  clear hn hx gx hc
  by_cases h300 : 300 < n
  · go_enter Try.func3, Try.ntmps3
    go_wp2_with fail
    refine (known11_any _).mono ?_
    rintro e wz ⟨rfl, hbz⟩
    have Sz : Step wz _ := ⟨hbz⟩
    clear hbz
    go_wp2_with fail
    go_ret
    exact ⟨rfl, Ext.out⟩
  go_enter Try.func3, Try.ntmps3
  go_wp2_with fail
  obtain ⟨wq, hwq⟩ : ∃ wq, (w.alloc (.cells cf 25)).alloc (oT mru accm auth mm b1 b2) = wq := ⟨_, rfl⟩
  have Sq : Step wq w := ⟨by rw [← hwq]; exact Ext.out⟩
  rw [hwq] at HG0 HG1
  rw [hwq]
  clear hwq
  refine wp_region_held_drew (S := fun W => Ext wq W) (by kernel_rfl) (by exact inferInstance) (fun hHeld => ?_)
  refine wpAnyH_take (i := 0) (v := .agg cf) rfl (by kernel_rfl) (by kernel_rfl) (by kernel_rfl) (fun _ _ _ h => h) (yields_row_S (by rfl) 25 (.tmp 5) rfl w.heap.size rfl 25 cf (0, 0) _ Try.underlying25 rfl HSZ.out (fun W hW => at_ext (h := hW) HG0.out)) hHeld ?_
  simp only [List.getElem_toArray, List.getElem_cons_succ, List.getElem_cons_zero, Act.put, List.setIfInBounds_toArray, List.set_cons_zero, List.set_cons_succ]
  refine wpAnyH_take (i := 1) (v := .agg #[.int .i64 mru, .int .i64 accm, .int .i64 auth, .int .u32 mm, .bool b1, .bool b2]) rfl (by kernel_rfl) (by kernel_rfl) (by kernel_rfl) (fun _ _ _ h => h) (yields_row_S (by rfl) 28 (.tmp 6) rfl (w.heap.size + 1) rfl 28 #[.int .i64 mru, .int .i64 accm, .int .i64 auth, .int .u32 mm, .bool b1, .bool b2] (0, 0) _ Try.underlying28 rfl (by kernel_rfl) (fun W hW => at_ext (h := hW) HG1.out)) hHeld ?_
  simp only [List.getElem_toArray, List.getElem_cons_succ, List.getElem_cons_zero, Act.put, List.setIfInBounds_toArray, List.set_cons_zero, List.set_cons_succ]
  refine wpAnyH_take (i := 3) (v := ?_) rfl (by kernel_rfl) (by kernel_rfl) (by kernel_rfl) (fun _ _ _ h => h) (Yields.yieldsIf (Or.inl ⟨by rfl, ?_⟩)) hHeld ?_
  rotate_left
  · intro W
    go_simp
    try with_reducible rfl
  simp only [List.getElem_toArray, List.getElem_cons_succ, List.getElem_cons_zero, Act.put, List.setIfInBounds_toArray, List.set_cons_zero, List.set_cons_succ]
  refine wpAnyH_take (i := 4) (v := ?_) rfl (by kernel_rfl) (by kernel_rfl) (by kernel_rfl) (fun _ _ _ h => h) (Yields.yieldsIf (Or.inl ⟨by rfl, ?_⟩)) hHeld ?_
  rotate_left
  · intro W
    go_simp
    try with_reducible rfl
  simp only [List.getElem_toArray, List.getElem_cons_succ, List.getElem_cons_zero, Act.put, List.setIfInBounds_toArray, List.set_cons_zero, List.set_cons_succ]
  refine wpAnyH_take (i := 5) (v := ?_) rfl (by kernel_rfl) (by kernel_rfl) (by kernel_rfl) (fun _ _ _ h => h) (Yields.yieldsIf (Or.inl ⟨by rfl, ?_⟩)) hHeld ?_
  rotate_left
  · intro W
    go_simp
    try with_reducible rfl
  simp only [List.getElem_toArray, List.getElem_cons_succ, List.getElem_cons_zero, Act.put, List.setIfInBounds_toArray, List.set_cons_zero, List.set_cons_succ]
  refine wpAnyH_ready (rs := [2]) (by kernel_rfl) (by simp) ?_
  refine AllReadyH.cons rfl (fun K hK => ?_) AllReadyH.nil
  refine step_call_w (by rfl) Try.func15 (by kernel_rfl) (by kernel_rfl) #[.tmp 25] #[28] rfl #[.agg #[.int .i64 mru, .int .i64 accm, .int .i64 auth, .int .u32 mm, .bool b1, .bool b2]] ?hv (given_any mru accm auth mm b1 b2 _) ?_
  case hv => go_simp
  rintro e wg ⟨rfl, hbb⟩
  refine ⟨_, rfl, ?_⟩
  have Sg : Step wg _ := ⟨hbb⟩
  clear hbb hHeld
  refine hK.out _ _ (by exact inferInstance) (fun hHeld => ?_)
  clear hK K
  simp only [List.getElem_toArray, List.getElem_cons_succ, List.getElem_cons_zero, Act.put, List.setIfInBounds_toArray, List.set_cons_zero, List.set_cons_succ]
  refine wpAnyH_ready (rs := [6]) (by kernel_rfl) (by simp) ?_
  refine AllReadyH.cons rfl (fun K hK => ?_) AllReadyH.nil
  refine step_call_w (by rfl) Try.func14 (by kernel_rfl) (by kernel_rfl) #[.tmp 24, .tmp 26, .tmp 27, .tmp 28, .tmp 29] #[25, 33, 29, 3, 26] rfl #[.agg cf, .agg #[.int .i64 mru, .int .i64 accm, .int .i64 auth, .int .u32 mm, .bool b1, .bool b2], .slice A n c, .int .i64 naks, .int .u32 magic] ?hv (ljudge_any cf acc pf af mg AA ac maxf naks magic mm mru accm auth b1 b2 A n c vs HLC.out HMF.out hg0 hg1 HAN.out Hn.out hn' hnc _ (by exact HX.out.ext) (by exact GX.out.ext) (by exact HACC.out.ext)) ?_
  case hv => go_simp
  rintro e w2 ⟨v2, xs, rfl, ho2, hx2, hb2⟩
  refine ⟨_, rfl, ?_⟩
  have S2 : Step w2 _ := ⟨hb2⟩
  obtain ⟨A2, c2, rfl, hnc2⟩ := own_slice ho2.1
  have hml : xs.length ≤ 4398046511104 := by
    have h1 := ljudge_len ⟨acc.length, pf, af, mg⟩ acc mm magic maxf naks (vs.map OV.opt)
    rw [← hx2, List.length_map, List.length_map, Hn.out] at h1
    omega
  obtain ⟨m, hm⟩ : ∃ m, xs.length = m := ⟨_, rfl⟩
  rw [hm] at hml ho2 ⊢
  have C2 : Hid (Cells w2 A2 (flat xs)) := own_cells ho2.1
  have G2 : Hid (Good w2 xs) := ho2.good
  have HX2 := Lib.hid hx2
  have HXM := Lib.hid hm
  have HFT := Lib.hid (ljudge_fits ⟨acc.length, pf, af, mg⟩ acc mm magic maxf naks (vs.map OV.opt))
  have HAK : Hid ((ljudgeF ⟨acc.length, pf, af, mg⟩ acc mm magic maxf naks (vs.map OV.opt)).1 = 2 → ∃ o, readF (vs.map OV.opt) = (o, 0) ∧ AInv ⟨acc.length, pf, af, mg⟩ acc mm o) := fun h => ack_reads HBY.out h
  clear ho2 hx2 hb2 hm hHeld
  obtain ⟨J, hJ⟩ : ∃ J, ljudgeF ⟨acc.length, pf, af, mg⟩ acc mm magic maxf naks (vs.map OV.opt) = J := ⟨_, rfl⟩
  rw [hJ] at HX2 HFT HAK ⊢
  clear hJ
  obtain ⟨kk, os⟩ := J
  simp only at HX2 HFT HAK
  simp only
  refine hK.out _ _ (by exact inferInstance) (fun hHeld => ?_)
  clear hK K
  simp only [List.getElem_toArray, List.getElem_cons_succ, List.getElem_cons_zero, Act.put, List.setIfInBounds_toArray, List.set_cons_zero, List.set_cons_succ]
  refine wpAnyH_take (i := 7) (v := ?_) rfl (by kernel_rfl) (by kernel_rfl) (by kernel_rfl) (fun _ _ _ h => h) (Yields.yieldsIf (Or.inl ⟨by rfl, ?_⟩)) hHeld ?_
  rotate_left
  · intro W
    go_simp
    try with_reducible rfl
  simp only [List.getElem_toArray, List.getElem_cons_succ, List.getElem_cons_zero, Act.put, List.setIfInBounds_toArray, List.set_cons_zero, List.set_cons_succ]
  refine wpAnyH_take (i := 8) (v := ?_) rfl (by kernel_rfl) (by kernel_rfl) (by kernel_rfl) (fun _ _ _ h => h) (Yields.yieldsIf (Or.inl ⟨by rfl, ?_⟩)) hHeld ?_
  rotate_left
  · intro W
    go_simp
    try with_reducible rfl
  simp only [List.getElem_toArray, List.getElem_cons_succ, List.getElem_cons_zero, Act.put, List.setIfInBounds_toArray, List.set_cons_zero, List.set_cons_succ]
  refine wpAnyH_take (i := 9) (v := ?_) rfl (by kernel_rfl) (by kernel_rfl) (by kernel_rfl) (fun _ _ _ h => h) (Yields.yieldsIf (Or.inl ⟨by rfl, ?_⟩)) hHeld ?_
  rotate_left
  · intro W
    go_simp
    try with_reducible rfl
  simp only [List.getElem_toArray, List.getElem_cons_succ, List.getElem_cons_zero, Act.put, List.setIfInBounds_toArray, List.set_cons_zero, List.set_cons_succ]
  refine wpAnyH_take (i := 10) (v := ?_) rfl (by kernel_rfl) (by kernel_rfl) (by kernel_rfl) (fun _ _ _ h => h) (Yields.yieldsIf (Or.inl ⟨by rfl, ?_⟩)) hHeld ?_
  rotate_left
  · intro W
    go_simp
    try with_reducible rfl
  simp only [List.getElem_toArray, List.getElem_cons_succ, List.getElem_cons_zero, Act.put, List.setIfInBounds_toArray, List.set_cons_zero, List.set_cons_succ]
  refine wpAnyH_take (i := 11) (v := ?_) rfl (by kernel_rfl) (by kernel_rfl) (by kernel_rfl) (fun _ _ _ h => h) (Yields.yieldsIf (Or.inl ⟨by rfl, ?_⟩)) hHeld ?_
  rotate_left
  · intro W
    go_simp
    try with_reducible rfl
  simp only [List.getElem_toArray, List.getElem_cons_succ, List.getElem_cons_zero, Act.put, List.setIfInBounds_toArray, List.set_cons_zero, List.set_cons_succ]
  refine wpAnyH_done (by kernel_rfl) ?_ _
  clear hHeld
  go_wp2_with fail
  refine (fits9_any kk A A2 n c m c2 vs xs Hn.out HXM.out hn' hml _ (by exact HX.out.ext) (by exact C2.out.ext) (by exact GX.out.ext) (by exact G2.out.ext)).mono ?_
  rintro e w3 ⟨rfl, hb3⟩
  rw [HX2.out, HFT.out]
  have S3 : Step w3 _ := ⟨hb3⟩
  clear hb3
  simp only
  by_cases hk2 : kk = 2
  · subst hk2
    obtain ⟨o, ho, ha⟩ := HAK.out rfl
    have HRD := Lib.hid ho
    clear ho HAK
    go_wp2_with fail
    refine (rread_any A n c vs Hn.out hn' _ (by exact HX.out.ext) (by exact GX.out.ext)).mono ?_
    rintro e w4 ⟨rfl, hb4⟩
    rw [HRD.out]
    have S4 : Step w4 _ := ⟨hb4⟩
    clear hb4 HRD
    obtain ⟨o0, o1, o2, o3, o4, o5⟩ := o
    obtain ⟨a1, a2, a3, a4⟩ := ha
    simp only at a1 a2 a3 a4
    simp only
    have q6 : ∀ o, (w4.alloc o).cell? ⟨w.heap.size, 6, none⟩ = some (.bool pf) := fun o => (at_cell (at_ext (w' := w4.alloc o) HG0.out) 6).trans HLC.out.pf
    have q7 : ∀ o, (w4.alloc o).cell? ⟨w.heap.size, 7, none⟩ = some (.bool af) := fun o => (at_cell (at_ext (w' := w4.alloc o) HG0.out) 7).trans HLC.out.af
    have q8 : ∀ o, (w4.alloc o).cell? ⟨w.heap.size, 8, none⟩ = some (.bool mg) := fun o => (at_cell (at_ext (w' := w4.alloc o) HG0.out) 8).trans HLC.out.mg
    have m3 : ∀ o, (w4.alloc o).cell? ⟨w.heap.size + 1, 3, none⟩ = some (.int .u32 mm) := fun o => at_cell (at_ext (w' := w4.alloc o) HG1.out) 3
    have hp : o4 = false ∨ (o4 = true ∧ pf = true) := by
      rcases o4 with _ | _
      · exact .inl rfl
      · exact .inr ⟨rfl, a1 rfl⟩
    have hf : o5 = false ∨ (o5 = true ∧ af = true) := by
      rcases o5 with _ | _
      · exact .inl rfl
      · exact .inr ⟨rfl, a2 rfl⟩
    have hg : o3 = 0 ∨ ((o3 != 0) = true ∧ mg = true ∧ (o3 == mm) = false) := by
      by_cases h : o3 = 0
      · exact .inl h
      · exact .inr ⟨by simpa using h, (a3 h).1, by simpa using (a3 h).2⟩
    have HA4 := Lib.hid a4
    clear a1 a2 a3 a4
    rcases hp with rfl | ⟨rfl, rfl⟩
    · rcases hf with rfl | ⟨rfl, rfl⟩
      · rcases hg with rfl | ⟨hg1, rfl, hg2⟩
        · skip
          go_wp2
          clear q6 q7 q8 m3
          go_loopw [17, 18] (fun b i wr => ∃ (k : Nat) (q : Bool), b = .bool q ∧ i = .int .i64 k ∧ k ≤ acc.length ∧ Hid (q = false → ¬ o2 = 0 ∧ hasK (acc.take k) o2 = false) ∧ Hid (wr.cell? ⟨w4.heap.size, 2, none⟩ = some (.int .i64 o2)) ∧ Hid (Ext w4 wr)) (fun _ i _ => acc.length - (intOf i).toNat)
          case atStart => exact ⟨0, _, rfl, rfl, by omega, (fun h => ⟨by simpa using h, by simp [hasK]⟩), at_cell (at_new w4 _) 2, (inferInstance : Ext w4 (w4.alloc _))⟩
          case round =>
            obtain ⟨k, q, rfl, rfl, hk, HQ, HC2, HE⟩ := hrel
            have Sr : Step wr w4 := ⟨HE.out.out⟩
            have q3 : wr.cell? ⟨w.heap.size, 3, none⟩ = some (.slice AA acc.length ac) := (at_cell (at_ext (w' := wr) HG0.out) 3).trans HLC.out.acc
            have r2 := HC2.out
            by_cases hlt : k < acc.length
            · have HLT := Lib.hid hlt
              have hanb : acc.length ≤ 9223372036854775807 := HAN.out
              have hkI : (k : Int) < (acc.length : Int) := by omega
              obtain ⟨aa, rfl, hca⟩ := (HACC.out.ext (w' := wr)).num hlt
              rcases q with _ | _
              · have HQ2 := Lib.hid (HQ.out rfl)
                have hge : acc[k]? = some (acc.getD k 0) := by rw [List.getD_eq_getElem?_getD, List.getElem?_eq_getElem hlt]; rfl
                have HGE := Lib.hid hge
                clear hge
                obtain ⟨a0, ha0⟩ : ∃ a0, acc.getD k 0 = a0 := ⟨_, rfl⟩
                rw [ha0] at hca HGE
                clear ha0
                by_cases he : a0 = o2
                · have he' : (a0 == o2) = true := by simpa using he
                  clear he
                  go_wp2
                  go_quiet (fail)
                  go_wp2
                  go_roundw
                  case rel => exact ⟨k + 1, true, rfl, by go_num, HLT.out, (fun h => by cases h), cell_ext HC2.out, (inferInstance : Ext w4 _)⟩
                  case measure => have := HLT.out; simp [intOf]; omega
                · have he' : (a0 == o2) = false := by simpa using he
                  have HNE := Lib.hid he
                  clear he
                  go_wp2
                  go_quiet (fail)
                  go_wp2
                  go_roundw
                  case rel => exact ⟨k + 1, false, rfl, by go_num, HLT.out, (fun _ => ⟨HQ2.out.1, hasK_none HQ2.out.2 HGE.out HNE.out⟩), cell_ext HC2.out, (inferInstance : Ext w4 _)⟩
                  case measure => have := HLT.out; simp [intOf]; omega
              · go_wp2
                go_quiet (fail)
                go_wp2
                go_roundw
                case rel => exact ⟨k + 1, true, rfl, by go_num, HLT.out, (fun h => by cases h), cell_ext HC2.out, (inferInstance : Ext w4 _)⟩
                case measure => have := HLT.out; simp [intOf]; omega
            · obtain rfl : k = acc.length := by omega
              rcases q with _ | _
              · exfalso
                have h1 := HQ.out rfl
                rw [List.take_length] at h1
                rcases HA4.out with h2 | h2
                · exact h1.1 h2
                · rw [h1.2] at h2
                  cases h2
              · skip
                go_wp2_with fail
                refine (known11_any _).mono ?_
                rintro e wz ⟨rfl, hbz⟩
                have Sz : Step wz _ := ⟨hbz⟩
                clear hbz
                go_wp2_with fail
                go_ret
                exact ⟨rfl, Ext.out⟩
        · skip
          go_wp2
          clear q6 q7 q8 m3
          go_loopw [17, 18] (fun b i wr => ∃ (k : Nat) (q : Bool), b = .bool q ∧ i = .int .i64 k ∧ k ≤ acc.length ∧ Hid (q = false → ¬ o2 = 0 ∧ hasK (acc.take k) o2 = false) ∧ Hid (wr.cell? ⟨w4.heap.size, 2, none⟩ = some (.int .i64 o2)) ∧ Hid (Ext w4 wr)) (fun _ i _ => acc.length - (intOf i).toNat)
          case atStart => exact ⟨0, _, rfl, rfl, by omega, (fun h => ⟨by simpa using h, by simp [hasK]⟩), at_cell (at_new w4 _) 2, (inferInstance : Ext w4 (w4.alloc _))⟩
          case round =>
            obtain ⟨k, q, rfl, rfl, hk, HQ, HC2, HE⟩ := hrel
            have Sr : Step wr w4 := ⟨HE.out.out⟩
            have q3 : wr.cell? ⟨w.heap.size, 3, none⟩ = some (.slice AA acc.length ac) := (at_cell (at_ext (w' := wr) HG0.out) 3).trans HLC.out.acc
            have r2 := HC2.out
            by_cases hlt : k < acc.length
            · have HLT := Lib.hid hlt
              have hanb : acc.length ≤ 9223372036854775807 := HAN.out
              have hkI : (k : Int) < (acc.length : Int) := by omega
              obtain ⟨aa, rfl, hca⟩ := (HACC.out.ext (w' := wr)).num hlt
              rcases q with _ | _
              · have HQ2 := Lib.hid (HQ.out rfl)
                have hge : acc[k]? = some (acc.getD k 0) := by rw [List.getD_eq_getElem?_getD, List.getElem?_eq_getElem hlt]; rfl
                have HGE := Lib.hid hge
                clear hge
                obtain ⟨a0, ha0⟩ : ∃ a0, acc.getD k 0 = a0 := ⟨_, rfl⟩
                rw [ha0] at hca HGE
                clear ha0
                by_cases he : a0 = o2
                · have he' : (a0 == o2) = true := by simpa using he
                  clear he
                  go_wp2
                  go_quiet (fail)
                  go_wp2
                  go_roundw
                  case rel => exact ⟨k + 1, true, rfl, by go_num, HLT.out, (fun h => by cases h), cell_ext HC2.out, (inferInstance : Ext w4 _)⟩
                  case measure => have := HLT.out; simp [intOf]; omega
                · have he' : (a0 == o2) = false := by simpa using he
                  have HNE := Lib.hid he
                  clear he
                  go_wp2
                  go_quiet (fail)
                  go_wp2
                  go_roundw
                  case rel => exact ⟨k + 1, false, rfl, by go_num, HLT.out, (fun _ => ⟨HQ2.out.1, hasK_none HQ2.out.2 HGE.out HNE.out⟩), cell_ext HC2.out, (inferInstance : Ext w4 _)⟩
                  case measure => have := HLT.out; simp [intOf]; omega
              · go_wp2
                go_quiet (fail)
                go_wp2
                go_roundw
                case rel => exact ⟨k + 1, true, rfl, by go_num, HLT.out, (fun h => by cases h), cell_ext HC2.out, (inferInstance : Ext w4 _)⟩
                case measure => have := HLT.out; simp [intOf]; omega
            · obtain rfl : k = acc.length := by omega
              rcases q with _ | _
              · exfalso
                have h1 := HQ.out rfl
                rw [List.take_length] at h1
                rcases HA4.out with h2 | h2
                · exact h1.1 h2
                · rw [h1.2] at h2
                  cases h2
              · skip
                go_wp2_with fail
                refine (known11_any _).mono ?_
                rintro e wz ⟨rfl, hbz⟩
                have Sz : Step wz _ := ⟨hbz⟩
                clear hbz
                go_wp2_with fail
                go_ret
                exact ⟨rfl, Ext.out⟩
      · rcases hg with rfl | ⟨hg1, rfl, hg2⟩
        · skip
          go_wp2
          clear q6 q7 q8 m3
          go_loopw [17, 18] (fun b i wr => ∃ (k : Nat) (q : Bool), b = .bool q ∧ i = .int .i64 k ∧ k ≤ acc.length ∧ Hid (q = false → ¬ o2 = 0 ∧ hasK (acc.take k) o2 = false) ∧ Hid (wr.cell? ⟨w4.heap.size, 2, none⟩ = some (.int .i64 o2)) ∧ Hid (Ext w4 wr)) (fun _ i _ => acc.length - (intOf i).toNat)
          case atStart => exact ⟨0, _, rfl, rfl, by omega, (fun h => ⟨by simpa using h, by simp [hasK]⟩), at_cell (at_new w4 _) 2, (inferInstance : Ext w4 (w4.alloc _))⟩
          case round =>
            obtain ⟨k, q, rfl, rfl, hk, HQ, HC2, HE⟩ := hrel
            have Sr : Step wr w4 := ⟨HE.out.out⟩
            have q3 : wr.cell? ⟨w.heap.size, 3, none⟩ = some (.slice AA acc.length ac) := (at_cell (at_ext (w' := wr) HG0.out) 3).trans HLC.out.acc
            have r2 := HC2.out
            by_cases hlt : k < acc.length
            · have HLT := Lib.hid hlt
              have hanb : acc.length ≤ 9223372036854775807 := HAN.out
              have hkI : (k : Int) < (acc.length : Int) := by omega
              obtain ⟨aa, rfl, hca⟩ := (HACC.out.ext (w' := wr)).num hlt
              rcases q with _ | _
              · have HQ2 := Lib.hid (HQ.out rfl)
                have hge : acc[k]? = some (acc.getD k 0) := by rw [List.getD_eq_getElem?_getD, List.getElem?_eq_getElem hlt]; rfl
                have HGE := Lib.hid hge
                clear hge
                obtain ⟨a0, ha0⟩ : ∃ a0, acc.getD k 0 = a0 := ⟨_, rfl⟩
                rw [ha0] at hca HGE
                clear ha0
                by_cases he : a0 = o2
                · have he' : (a0 == o2) = true := by simpa using he
                  clear he
                  go_wp2
                  go_quiet (fail)
                  go_wp2
                  go_roundw
                  case rel => exact ⟨k + 1, true, rfl, by go_num, HLT.out, (fun h => by cases h), cell_ext HC2.out, (inferInstance : Ext w4 _)⟩
                  case measure => have := HLT.out; simp [intOf]; omega
                · have he' : (a0 == o2) = false := by simpa using he
                  have HNE := Lib.hid he
                  clear he
                  go_wp2
                  go_quiet (fail)
                  go_wp2
                  go_roundw
                  case rel => exact ⟨k + 1, false, rfl, by go_num, HLT.out, (fun _ => ⟨HQ2.out.1, hasK_none HQ2.out.2 HGE.out HNE.out⟩), cell_ext HC2.out, (inferInstance : Ext w4 _)⟩
                  case measure => have := HLT.out; simp [intOf]; omega
              · go_wp2
                go_quiet (fail)
                go_wp2
                go_roundw
                case rel => exact ⟨k + 1, true, rfl, by go_num, HLT.out, (fun h => by cases h), cell_ext HC2.out, (inferInstance : Ext w4 _)⟩
                case measure => have := HLT.out; simp [intOf]; omega
            · obtain rfl : k = acc.length := by omega
              rcases q with _ | _
              · exfalso
                have h1 := HQ.out rfl
                rw [List.take_length] at h1
                rcases HA4.out with h2 | h2
                · exact h1.1 h2
                · rw [h1.2] at h2
                  cases h2
              · skip
                go_wp2_with fail
                refine (known11_any _).mono ?_
                rintro e wz ⟨rfl, hbz⟩
                have Sz : Step wz _ := ⟨hbz⟩
                clear hbz
                go_wp2_with fail
                go_ret
                exact ⟨rfl, Ext.out⟩
        · skip
          go_wp2
          clear q6 q7 q8 m3
          go_loopw [17, 18] (fun b i wr => ∃ (k : Nat) (q : Bool), b = .bool q ∧ i = .int .i64 k ∧ k ≤ acc.length ∧ Hid (q = false → ¬ o2 = 0 ∧ hasK (acc.take k) o2 = false) ∧ Hid (wr.cell? ⟨w4.heap.size, 2, none⟩ = some (.int .i64 o2)) ∧ Hid (Ext w4 wr)) (fun _ i _ => acc.length - (intOf i).toNat)
          case atStart => exact ⟨0, _, rfl, rfl, by omega, (fun h => ⟨by simpa using h, by simp [hasK]⟩), at_cell (at_new w4 _) 2, (inferInstance : Ext w4 (w4.alloc _))⟩
          case round =>
            obtain ⟨k, q, rfl, rfl, hk, HQ, HC2, HE⟩ := hrel
            have Sr : Step wr w4 := ⟨HE.out.out⟩
            have q3 : wr.cell? ⟨w.heap.size, 3, none⟩ = some (.slice AA acc.length ac) := (at_cell (at_ext (w' := wr) HG0.out) 3).trans HLC.out.acc
            have r2 := HC2.out
            by_cases hlt : k < acc.length
            · have HLT := Lib.hid hlt
              have hanb : acc.length ≤ 9223372036854775807 := HAN.out
              have hkI : (k : Int) < (acc.length : Int) := by omega
              obtain ⟨aa, rfl, hca⟩ := (HACC.out.ext (w' := wr)).num hlt
              rcases q with _ | _
              · have HQ2 := Lib.hid (HQ.out rfl)
                have hge : acc[k]? = some (acc.getD k 0) := by rw [List.getD_eq_getElem?_getD, List.getElem?_eq_getElem hlt]; rfl
                have HGE := Lib.hid hge
                clear hge
                obtain ⟨a0, ha0⟩ : ∃ a0, acc.getD k 0 = a0 := ⟨_, rfl⟩
                rw [ha0] at hca HGE
                clear ha0
                by_cases he : a0 = o2
                · have he' : (a0 == o2) = true := by simpa using he
                  clear he
                  go_wp2
                  go_quiet (fail)
                  go_wp2
                  go_roundw
                  case rel => exact ⟨k + 1, true, rfl, by go_num, HLT.out, (fun h => by cases h), cell_ext HC2.out, (inferInstance : Ext w4 _)⟩
                  case measure => have := HLT.out; simp [intOf]; omega
                · have he' : (a0 == o2) = false := by simpa using he
                  have HNE := Lib.hid he
                  clear he
                  go_wp2
                  go_quiet (fail)
                  go_wp2
                  go_roundw
                  case rel => exact ⟨k + 1, false, rfl, by go_num, HLT.out, (fun _ => ⟨HQ2.out.1, hasK_none HQ2.out.2 HGE.out HNE.out⟩), cell_ext HC2.out, (inferInstance : Ext w4 _)⟩
                  case measure => have := HLT.out; simp [intOf]; omega
              · go_wp2
                go_quiet (fail)
                go_wp2
                go_roundw
                case rel => exact ⟨k + 1, true, rfl, by go_num, HLT.out, (fun h => by cases h), cell_ext HC2.out, (inferInstance : Ext w4 _)⟩
                case measure => have := HLT.out; simp [intOf]; omega
            · obtain rfl : k = acc.length := by omega
              rcases q with _ | _
              · exfalso
                have h1 := HQ.out rfl
                rw [List.take_length] at h1
                rcases HA4.out with h2 | h2
                · exact h1.1 h2
                · rw [h1.2] at h2
                  cases h2
              · skip
                go_wp2_with fail
                refine (known11_any _).mono ?_
                rintro e wz ⟨rfl, hbz⟩
                have Sz : Step wz _ := ⟨hbz⟩
                clear hbz
                go_wp2_with fail
                go_ret
                exact ⟨rfl, Ext.out⟩
    · rcases hf with rfl | ⟨rfl, rfl⟩
      · rcases hg with rfl | ⟨hg1, rfl, hg2⟩
        · skip
          go_wp2
          clear q6 q7 q8 m3
          go_loopw [17, 18] (fun b i wr => ∃ (k : Nat) (q : Bool), b = .bool q ∧ i = .int .i64 k ∧ k ≤ acc.length ∧ Hid (q = false → ¬ o2 = 0 ∧ hasK (acc.take k) o2 = false) ∧ Hid (wr.cell? ⟨w4.heap.size, 2, none⟩ = some (.int .i64 o2)) ∧ Hid (Ext w4 wr)) (fun _ i _ => acc.length - (intOf i).toNat)
          case atStart => exact ⟨0, _, rfl, rfl, by omega, (fun h => ⟨by simpa using h, by simp [hasK]⟩), at_cell (at_new w4 _) 2, (inferInstance : Ext w4 (w4.alloc _))⟩
          case round =>
            obtain ⟨k, q, rfl, rfl, hk, HQ, HC2, HE⟩ := hrel
            have Sr : Step wr w4 := ⟨HE.out.out⟩
            have q3 : wr.cell? ⟨w.heap.size, 3, none⟩ = some (.slice AA acc.length ac) := (at_cell (at_ext (w' := wr) HG0.out) 3).trans HLC.out.acc
            have r2 := HC2.out
            by_cases hlt : k < acc.length
            · have HLT := Lib.hid hlt
              have hanb : acc.length ≤ 9223372036854775807 := HAN.out
              have hkI : (k : Int) < (acc.length : Int) := by omega
              obtain ⟨aa, rfl, hca⟩ := (HACC.out.ext (w' := wr)).num hlt
              rcases q with _ | _
              · have HQ2 := Lib.hid (HQ.out rfl)
                have hge : acc[k]? = some (acc.getD k 0) := by rw [List.getD_eq_getElem?_getD, List.getElem?_eq_getElem hlt]; rfl
                have HGE := Lib.hid hge
                clear hge
                obtain ⟨a0, ha0⟩ : ∃ a0, acc.getD k 0 = a0 := ⟨_, rfl⟩
                rw [ha0] at hca HGE
                clear ha0
                by_cases he : a0 = o2
                · have he' : (a0 == o2) = true := by simpa using he
                  clear he
                  go_wp2
                  go_quiet (fail)
                  go_wp2
                  go_roundw
                  case rel => exact ⟨k + 1, true, rfl, by go_num, HLT.out, (fun h => by cases h), cell_ext HC2.out, (inferInstance : Ext w4 _)⟩
                  case measure => have := HLT.out; simp [intOf]; omega
                · have he' : (a0 == o2) = false := by simpa using he
                  have HNE := Lib.hid he
                  clear he
                  go_wp2
                  go_quiet (fail)
                  go_wp2
                  go_roundw
                  case rel => exact ⟨k + 1, false, rfl, by go_num, HLT.out, (fun _ => ⟨HQ2.out.1, hasK_none HQ2.out.2 HGE.out HNE.out⟩), cell_ext HC2.out, (inferInstance : Ext w4 _)⟩
                  case measure => have := HLT.out; simp [intOf]; omega
              · go_wp2
                go_quiet (fail)
                go_wp2
                go_roundw
                case rel => exact ⟨k + 1, true, rfl, by go_num, HLT.out, (fun h => by cases h), cell_ext HC2.out, (inferInstance : Ext w4 _)⟩
                case measure => have := HLT.out; simp [intOf]; omega
            · obtain rfl : k = acc.length := by omega
              rcases q with _ | _
              · exfalso
                have h1 := HQ.out rfl
                rw [List.take_length] at h1
                rcases HA4.out with h2 | h2
                · exact h1.1 h2
                · rw [h1.2] at h2
                  cases h2
              · skip
                go_wp2_with fail
                refine (known11_any _).mono ?_
                rintro e wz ⟨rfl, hbz⟩
                have Sz : Step wz _ := ⟨hbz⟩
                clear hbz
                go_wp2_with fail
                go_ret
                exact ⟨rfl, Ext.out⟩
        · skip
          go_wp2
          clear q6 q7 q8 m3
          go_loopw [17, 18] (fun b i wr => ∃ (k : Nat) (q : Bool), b = .bool q ∧ i = .int .i64 k ∧ k ≤ acc.length ∧ Hid (q = false → ¬ o2 = 0 ∧ hasK (acc.take k) o2 = false) ∧ Hid (wr.cell? ⟨w4.heap.size, 2, none⟩ = some (.int .i64 o2)) ∧ Hid (Ext w4 wr)) (fun _ i _ => acc.length - (intOf i).toNat)
          case atStart => exact ⟨0, _, rfl, rfl, by omega, (fun h => ⟨by simpa using h, by simp [hasK]⟩), at_cell (at_new w4 _) 2, (inferInstance : Ext w4 (w4.alloc _))⟩
          case round =>
            obtain ⟨k, q, rfl, rfl, hk, HQ, HC2, HE⟩ := hrel
            have Sr : Step wr w4 := ⟨HE.out.out⟩
            have q3 : wr.cell? ⟨w.heap.size, 3, none⟩ = some (.slice AA acc.length ac) := (at_cell (at_ext (w' := wr) HG0.out) 3).trans HLC.out.acc
            have r2 := HC2.out
            by_cases hlt : k < acc.length
            · have HLT := Lib.hid hlt
              have hanb : acc.length ≤ 9223372036854775807 := HAN.out
              have hkI : (k : Int) < (acc.length : Int) := by omega
              obtain ⟨aa, rfl, hca⟩ := (HACC.out.ext (w' := wr)).num hlt
              rcases q with _ | _
              · have HQ2 := Lib.hid (HQ.out rfl)
                have hge : acc[k]? = some (acc.getD k 0) := by rw [List.getD_eq_getElem?_getD, List.getElem?_eq_getElem hlt]; rfl
                have HGE := Lib.hid hge
                clear hge
                obtain ⟨a0, ha0⟩ : ∃ a0, acc.getD k 0 = a0 := ⟨_, rfl⟩
                rw [ha0] at hca HGE
                clear ha0
                by_cases he : a0 = o2
                · have he' : (a0 == o2) = true := by simpa using he
                  clear he
                  go_wp2
                  go_quiet (fail)
                  go_wp2
                  go_roundw
                  case rel => exact ⟨k + 1, true, rfl, by go_num, HLT.out, (fun h => by cases h), cell_ext HC2.out, (inferInstance : Ext w4 _)⟩
                  case measure => have := HLT.out; simp [intOf]; omega
                · have he' : (a0 == o2) = false := by simpa using he
                  have HNE := Lib.hid he
                  clear he
                  go_wp2
                  go_quiet (fail)
                  go_wp2
                  go_roundw
                  case rel => exact ⟨k + 1, false, rfl, by go_num, HLT.out, (fun _ => ⟨HQ2.out.1, hasK_none HQ2.out.2 HGE.out HNE.out⟩), cell_ext HC2.out, (inferInstance : Ext w4 _)⟩
                  case measure => have := HLT.out; simp [intOf]; omega
              · go_wp2
                go_quiet (fail)
                go_wp2
                go_roundw
                case rel => exact ⟨k + 1, true, rfl, by go_num, HLT.out, (fun h => by cases h), cell_ext HC2.out, (inferInstance : Ext w4 _)⟩
                case measure => have := HLT.out; simp [intOf]; omega
            · obtain rfl : k = acc.length := by omega
              rcases q with _ | _
              · exfalso
                have h1 := HQ.out rfl
                rw [List.take_length] at h1
                rcases HA4.out with h2 | h2
                · exact h1.1 h2
                · rw [h1.2] at h2
                  cases h2
              · skip
                go_wp2_with fail
                refine (known11_any _).mono ?_
                rintro e wz ⟨rfl, hbz⟩
                have Sz : Step wz _ := ⟨hbz⟩
                clear hbz
                go_wp2_with fail
                go_ret
                exact ⟨rfl, Ext.out⟩
      · rcases hg with rfl | ⟨hg1, rfl, hg2⟩
        · skip
          go_wp2
          clear q6 q7 q8 m3
          go_loopw [17, 18] (fun b i wr => ∃ (k : Nat) (q : Bool), b = .bool q ∧ i = .int .i64 k ∧ k ≤ acc.length ∧ Hid (q = false → ¬ o2 = 0 ∧ hasK (acc.take k) o2 = false) ∧ Hid (wr.cell? ⟨w4.heap.size, 2, none⟩ = some (.int .i64 o2)) ∧ Hid (Ext w4 wr)) (fun _ i _ => acc.length - (intOf i).toNat)
          case atStart => exact ⟨0, _, rfl, rfl, by omega, (fun h => ⟨by simpa using h, by simp [hasK]⟩), at_cell (at_new w4 _) 2, (inferInstance : Ext w4 (w4.alloc _))⟩
          case round =>
            obtain ⟨k, q, rfl, rfl, hk, HQ, HC2, HE⟩ := hrel
            have Sr : Step wr w4 := ⟨HE.out.out⟩
            have q3 : wr.cell? ⟨w.heap.size, 3, none⟩ = some (.slice AA acc.length ac) := (at_cell (at_ext (w' := wr) HG0.out) 3).trans HLC.out.acc
            have r2 := HC2.out
            by_cases hlt : k < acc.length
            · have HLT := Lib.hid hlt
              have hanb : acc.length ≤ 9223372036854775807 := HAN.out
              have hkI : (k : Int) < (acc.length : Int) := by omega
              obtain ⟨aa, rfl, hca⟩ := (HACC.out.ext (w' := wr)).num hlt
              rcases q with _ | _
              · have HQ2 := Lib.hid (HQ.out rfl)
                have hge : acc[k]? = some (acc.getD k 0) := by rw [List.getD_eq_getElem?_getD, List.getElem?_eq_getElem hlt]; rfl
                have HGE := Lib.hid hge
                clear hge
                obtain ⟨a0, ha0⟩ : ∃ a0, acc.getD k 0 = a0 := ⟨_, rfl⟩
                rw [ha0] at hca HGE
                clear ha0
                by_cases he : a0 = o2
                · have he' : (a0 == o2) = true := by simpa using he
                  clear he
                  go_wp2
                  go_quiet (fail)
                  go_wp2
                  go_roundw
                  case rel => exact ⟨k + 1, true, rfl, by go_num, HLT.out, (fun h => by cases h), cell_ext HC2.out, (inferInstance : Ext w4 _)⟩
                  case measure => have := HLT.out; simp [intOf]; omega
                · have he' : (a0 == o2) = false := by simpa using he
                  have HNE := Lib.hid he
                  clear he
                  go_wp2
                  go_quiet (fail)
                  go_wp2
                  go_roundw
                  case rel => exact ⟨k + 1, false, rfl, by go_num, HLT.out, (fun _ => ⟨HQ2.out.1, hasK_none HQ2.out.2 HGE.out HNE.out⟩), cell_ext HC2.out, (inferInstance : Ext w4 _)⟩
                  case measure => have := HLT.out; simp [intOf]; omega
              · go_wp2
                go_quiet (fail)
                go_wp2
                go_roundw
                case rel => exact ⟨k + 1, true, rfl, by go_num, HLT.out, (fun h => by cases h), cell_ext HC2.out, (inferInstance : Ext w4 _)⟩
                case measure => have := HLT.out; simp [intOf]; omega
            · obtain rfl : k = acc.length := by omega
              rcases q with _ | _
              · exfalso
                have h1 := HQ.out rfl
                rw [List.take_length] at h1
                rcases HA4.out with h2 | h2
                · exact h1.1 h2
                · rw [h1.2] at h2
                  cases h2
              · skip
                go_wp2_with fail
                refine (known11_any _).mono ?_
                rintro e wz ⟨rfl, hbz⟩
                have Sz : Step wz _ := ⟨hbz⟩
                clear hbz
                go_wp2_with fail
                go_ret
                exact ⟨rfl, Ext.out⟩
        · skip
          go_wp2
          clear q6 q7 q8 m3
          go_loopw [17, 18] (fun b i wr => ∃ (k : Nat) (q : Bool), b = .bool q ∧ i = .int .i64 k ∧ k ≤ acc.length ∧ Hid (q = false → ¬ o2 = 0 ∧ hasK (acc.take k) o2 = false) ∧ Hid (wr.cell? ⟨w4.heap.size, 2, none⟩ = some (.int .i64 o2)) ∧ Hid (Ext w4 wr)) (fun _ i _ => acc.length - (intOf i).toNat)
          case atStart => exact ⟨0, _, rfl, rfl, by omega, (fun h => ⟨by simpa using h, by simp [hasK]⟩), at_cell (at_new w4 _) 2, (inferInstance : Ext w4 (w4.alloc _))⟩
          case round =>
            obtain ⟨k, q, rfl, rfl, hk, HQ, HC2, HE⟩ := hrel
            have Sr : Step wr w4 := ⟨HE.out.out⟩
            have q3 : wr.cell? ⟨w.heap.size, 3, none⟩ = some (.slice AA acc.length ac) := (at_cell (at_ext (w' := wr) HG0.out) 3).trans HLC.out.acc
            have r2 := HC2.out
            by_cases hlt : k < acc.length
            · have HLT := Lib.hid hlt
              have hanb : acc.length ≤ 9223372036854775807 := HAN.out
              have hkI : (k : Int) < (acc.length : Int) := by omega
              obtain ⟨aa, rfl, hca⟩ := (HACC.out.ext (w' := wr)).num hlt
              rcases q with _ | _
              · have HQ2 := Lib.hid (HQ.out rfl)
                have hge : acc[k]? = some (acc.getD k 0) := by rw [List.getD_eq_getElem?_getD, List.getElem?_eq_getElem hlt]; rfl
                have HGE := Lib.hid hge
                clear hge
                obtain ⟨a0, ha0⟩ : ∃ a0, acc.getD k 0 = a0 := ⟨_, rfl⟩
                rw [ha0] at hca HGE
                clear ha0
                by_cases he : a0 = o2
                · have he' : (a0 == o2) = true := by simpa using he
                  clear he
                  go_wp2
                  go_quiet (fail)
                  go_wp2
                  go_roundw
                  case rel => exact ⟨k + 1, true, rfl, by go_num, HLT.out, (fun h => by cases h), cell_ext HC2.out, (inferInstance : Ext w4 _)⟩
                  case measure => have := HLT.out; simp [intOf]; omega
                · have he' : (a0 == o2) = false := by simpa using he
                  have HNE := Lib.hid he
                  clear he
                  go_wp2
                  go_quiet (fail)
                  go_wp2
                  go_roundw
                  case rel => exact ⟨k + 1, false, rfl, by go_num, HLT.out, (fun _ => ⟨HQ2.out.1, hasK_none HQ2.out.2 HGE.out HNE.out⟩), cell_ext HC2.out, (inferInstance : Ext w4 _)⟩
                  case measure => have := HLT.out; simp [intOf]; omega
              · go_wp2
                go_quiet (fail)
                go_wp2
                go_roundw
                case rel => exact ⟨k + 1, true, rfl, by go_num, HLT.out, (fun h => by cases h), cell_ext HC2.out, (inferInstance : Ext w4 _)⟩
                case measure => have := HLT.out; simp [intOf]; omega
            · obtain rfl : k = acc.length := by omega
              rcases q with _ | _
              · exfalso
                have h1 := HQ.out rfl
                rw [List.take_length] at h1
                rcases HA4.out with h2 | h2
                · exact h1.1 h2
                · rw [h1.2] at h2
                  cases h2
              · skip
                go_wp2_with fail
                refine (known11_any _).mono ?_
                rintro e wz ⟨rfl, hbz⟩
                have Sz : Step wz _ := ⟨hbz⟩
                clear hbz
                go_wp2_with fail
                go_ret
                exact ⟨rfl, Ext.out⟩
  · have hk2' : (kk != 2) = true := by simpa using hk2
    clear HAK
    go_wp2_with fail
    refine (known11_any _).mono ?_
    rintro e wz ⟨rfl, hbz⟩
    have Sz : Step wz _ := ⟨hbz⟩
    clear hbz
    go_wp2_with fail
    go_ret
    exact ⟨rfl, Ext.out⟩
namespace LcpFits
set_option maxRecDepth 100000 in
theorem walk (U : Nat) (W : World) (vs : List Value) (h : Args U Try.prog W Try.f3.params.toList vs) : Calls Try.prog 3 vs.toArray W fun e W' => e = .returned (.bool true) ∧ Below W.heap.size W W' := by
  rw [Try.params3] at h
  match vs, h with
  | [v0, v1, v2, v3, v4], ⟨h0, h1, h2, h3, h4, _⟩ =>
    obtain ⟨cf, acc, pf, af, mg, AA, ac, req, mru, accm, maxf, rfl, hC⟩ := arg_conf11 h0
    obtain ⟨mru2, accm2, auth, mm, b1, b2, rfl, hm0, hm1, _⟩ := arg_opts11 h1
    obtain ⟨A, n, c, vs, rfl, hl, hnc, _, hn, hC2, hG, _⟩ := h2.options
    obtain ⟨naks, rfl, _⟩ := h3.int Try.underlying3
    obtain ⟨mgc, rfl, w4⟩ := h4.int Try.underlying26
    exact fits11_law cf acc pf af mg AA ac req mru accm maxf mru2 accm2 auth mm naks mgc b1 b2 A n c vs hm0 hm1 (wf_u32 w4).1 (wf_u32 w4).2 hl hn hnc W hC hC2 hG

set_option maxRecDepth 100000 in
theorem lifted (os : Os) (started : os.Started) (H : Type) (enc : TypeId × Value → H) :
    ReturnsInHanded {} Try.checked os 3 .any (Rows.lcpFitsSpec.pre6 enc Try.prog Try.f3 Rows.lcpFitsRow.domain false) (Rows.lcpFitsSpec.post enc Try.prog Try.f3 false true false false) :=
  law_lifted (C := Try.checked) laid_out own_knob started (by kernel_rfl) Try.func3 H enc rfl
    (fun ds hd => by
      have : ds.length = 5 := hd
      match ds, this with
      | [_, _, _, _, _], _ => exact ⟨rfl, rfl, rfl⟩) rfl Try.underlying4 (by
      have : (Try.f3.params.toList.all fun t => Try.prog.readableRec t && decide (t < Try.prog.types.size)) = true := by kernel_rfl
      intro t ht
      have h := List.all_eq_true.1 this t ht
      rw [Bool.and_eq_true, decide_eq_true_eq] at h
      exact h)
    (ChangeSpec.witness6 (enc := enc) (C := Try.checked) false ⟨#[], #[.agg #[.string ⟨#[]⟩, .string ⟨#[]⟩, .int .i64 0, .slice none 0 0, .int .i64 0, .int .i64 0, .bool false, .bool false, .bool false, .int .i64 0, .int .i64 0, .int .i64 0, .int .i64 0, .bool false, .bool false, .int .u64 0, .int .i64 0, .int .i64 0, .int .i64 0, .int .i64 0, .int .i64 0, .int .i64 0, .int .i64 0, .int .i64 0, .int .i64 0, .int .i64 0, .int .i64 0, .int .i64 0, .bool false, .bool false, .int .i64 0, .string ⟨#[]⟩, .string ⟨#[]⟩], .agg #[.int .i64 0, .int .i64 0, .int .i64 0, .int .u32 0, .bool false, .bool false], .slice none 0 0, .int .i64 0, .int .u32 0], []⟩ 8 (by kernel_rfl) (by kernel_rfl) (by kernel_rfl) (by kernel_rfl)) walk

theorem over : Rows.lcpFitsRow.holds Try.pinned (OpenSpec.ofChange Rows.lcpFitsSpec) :=
  OpenClaim.holds_of_wide 3 Try.f3 rfl rfl rfl rfl rfl rfl rfl ⟨rfl, rfl, rfl, rfl, rfl⟩ rfl rfl rfl rfl rfl (by kernel_rfl) Try.func3 (by kernel_rfl)
    (of_decide_eq_true (by kernel_rfl)) (by unfold Func.isWrapper; first | (rw [if_pos (by decide +kernel)]; kernel_rfl) | (rw [if_neg (by decide +kernel)]; exact ⟨rfl, rfl⟩))
    (fun os started H enc _ => lifted os started H enc)

/-- The statement. -/
theorem proved : Rows.LcpFitsSaid := over
#print axioms proved
end LcpFits
end Go.Proofs.Ytodibldfolognaa
