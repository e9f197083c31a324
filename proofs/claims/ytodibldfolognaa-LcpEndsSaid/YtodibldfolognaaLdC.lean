/-
  tetherlaw11.LcpEnds: two ends come to an agreement within a few rounds: for every input the call answers true. No condition.
-/
import Derived.Test.YtodibldfolognaaLdB
import Derived.Test.YtodibldfolognaaLcK
namespace Go.Proofs.Ytodibldfolognaa
open Go.RowKit
set_option linter.unusedVariables false
set_option linter.unusedSimpArgs false

theorem badF_len (D : LC) (o : OS) : (badF D o).length ≤ 3 := by
  have h : ∀ (b : Bool) (t : Int) (d : List Int), (addF b t d).length ≤ 1 := by
    intro b t d
    rcases b with _ | _ <;> simp [addF]
  unfold badF
  simp only [List.length_append]
  have h1 := h (o.magic != 0 && !D.mg) 5 (be o.magic 4)
  have h2 := h (o.pfc && !D.pf) 7 []
  have h3 := h (o.acfc && !D.af) 8 []
  omega
theorem hasK_mem {acc : List Int} {k : Nat} {x : Int} (hk : acc[k]? = some x) : hasK acc x = true := decide_eq_true (List.mem_of_getElem? hk)
set_option maxRecDepth 100000 in
set_option maxHeartbeats 16000000 in
theorem ends11_law (cf dg : Array Value) (acc acc2 : List Int) (pf af mg pf2 af2 mg2 : Bool) (AA AA2 : Option Addr) (ac ac2 : Nat) (req mru accm maxf req2 mru2 accm2 maxf2 mine theirs : Int) (hm0 : 0 ≤ mine) (hm1 : mine < 4294967296) (ht0 : 0 ≤ theirs) (ht1 : theirs < 4294967296)
    (w : World) (hc : CConf w cf acc pf af mg AA ac req mru accm maxf) (hd : CConf w dg acc2 pf2 af2 mg2 AA2 ac2 req2 mru2 accm2 maxf2) :
    Calls Try.prog 7 #[.agg cf, .agg dg, .int .u32 mine, .int .u32 theirs] w fun e w' => e = .returned (.bool true) ∧ Below w.heap.size w w' := by
  have HC := Lib.hid hc
  have HD := Lib.hid hd
  have HSZ := Lib.hid hc.size
  have HDZ := Lib.hid hd.size
  have HG0 : Hid (((w.alloc (.cells cf 25)).alloc (.cells dg 25)).heap[w.heap.size]? = some (.cells cf 25 (0, 0))) := at_ext (at_new w (.cells cf 25))
  have HG1 : Hid (((w.alloc (.cells cf 25)).alloc (.cells dg 25)).heap[w.heap.size + 1]? = some (.cells dg 25 (0, 0))) := at_new1 (by simp)
  clear hc hd
  go_enter Try.func7, Try.ntmps7
  go_upto_region 1 with fail
  obtain ⟨wq, hwq⟩ : ∃ wq, (w.alloc (.cells cf 25)).alloc (.cells dg 25) = wq := ⟨_, rfl⟩
  have Sq : Step wq w := ⟨by rw [← hwq]; exact Ext.out⟩
  rw [hwq] at HG0 HG1 ⊢
  clear hwq
  have q4 : wq.cell? ⟨w.heap.size, 4, none⟩ = some (.int .i64 mru) := (at_cell HG0.out 4).trans HC.out.hmru
  have q5 : wq.cell? ⟨w.heap.size, 5, none⟩ = some (.int .i64 accm) := (at_cell HG0.out 5).trans HC.out.haccm
  have d21 : wq.cell? ⟨w.heap.size + 1, 21, none⟩ = some (.int .i64 maxf2) := (at_cell HG1.out 21).trans HD.out.hmaxf
  have q2 : wq.cell? ⟨w.heap.size, 2, none⟩ = some (.int .i64 req) := (at_cell HG0.out 2).trans HC.out.hreq
  by_cases h1 : mru < 64
  · skip
    go_wp2_with fail
    refine (known11_any _).mono ?_
    rintro e wz ⟨rfl, hbz⟩
    have Sz : Step wz _ := ⟨hbz⟩
    clear hbz
    go_wp2_with fail
    go_ret
    exact ⟨rfl, Ext.out⟩
  by_cases h2 : 16384 < mru
  · skip
    go_wp2_with fail
    refine (known11_any _).mono ?_
    rintro e wz ⟨rfl, hbz⟩
    have Sz : Step wz _ := ⟨hbz⟩
    clear hbz
    go_wp2_with fail
    go_ret
    exact ⟨rfl, Ext.out⟩
  by_cases h3 : accm < 0
  · skip
    go_wp2_with fail
    refine (known11_any _).mono ?_
    rintro e wz ⟨rfl, hbz⟩
    have Sz : Step wz _ := ⟨hbz⟩
    clear hbz
    go_wp2_with fail
    go_ret
    exact ⟨rfl, Ext.out⟩
  by_cases h4 : 4294967295 < accm
  · skip
    go_wp2_with fail
    refine (known11_any _).mono ?_
    rintro e wz ⟨rfl, hbz⟩
    have Sz : Step wz _ := ⟨hbz⟩
    clear hbz
    go_wp2_with fail
    go_ret
    exact ⟨rfl, Ext.out⟩
  by_cases h5 : maxf2 < 3
  · skip
    go_wp2_with fail
    refine (known11_any _).mono ?_
    rintro e wz ⟨rfl, hbz⟩
    have Sz : Step wz _ := ⟨hbz⟩
    clear hbz
    go_wp2_with fail
    go_ret
    exact ⟨rfl, Ext.out⟩
  by_cases h6 : 1000 < maxf2
  · skip
    go_wp2_with fail
    refine (known11_any _).mono ?_
    rintro e wz ⟨rfl, hbz⟩
    have Sz : Step wz _ := ⟨hbz⟩
    clear hbz
    go_wp2_with fail
    go_ret
    exact ⟨rfl, Ext.out⟩
  by_cases h7 : mine = 0
  · subst h7
    go_wp2_with fail
    refine (known11_any _).mono ?_
    rintro e wz ⟨rfl, hbz⟩
    have Sz : Step wz _ := ⟨hbz⟩
    clear hbz
    go_wp2_with fail
    go_ret
    exact ⟨rfl, Ext.out⟩
  by_cases h8 : theirs = 0
  · subst h8
    have h7' : (mine == 0) = false := by simpa using h7
    go_wp2_with fail
    refine (known11_any _).mono ?_
    rintro e wz ⟨rfl, hbz⟩
    have Sz : Step wz _ := ⟨hbz⟩
    clear hbz
    go_wp2_with fail
    go_ret
    exact ⟨rfl, Ext.out⟩
  have h7' : (mine == 0) = false := by simpa using h7
  have h8' : (theirs == 0) = false := by simpa using h8
  by_cases h9 : mine = theirs
  · subst h9
    go_wp2_with fail
    refine (known11_any _).mono ?_
    rintro e wz ⟨rfl, hbz⟩
    have Sz : Step wz _ := ⟨hbz⟩
    clear hbz
    go_wp2_with fail
    go_ret
    exact ⟨rfl, Ext.out⟩
  have h9' : (mine == theirs) = false := by simpa using h9
  have HMN := Lib.hid h7
  have HMT := Lib.hid h9
  have HMR := Lib.hid (show 64 ≤ mru ∧ mru ≤ 16384 from ⟨by omega, by omega⟩)
  have HAM := Lib.hid (show 0 ≤ accm ∧ accm ≤ 4294967295 from ⟨by omega, by omega⟩)
  clear h7 h8 h9
  go_wp2
  clear q4 q5 d21
  go_loopw [9, 10] (fun b i wr => ∃ (k : Nat) (q : Bool), b = .bool q ∧ i = .int .i64 k ∧ k ≤ acc2.length ∧ Hid (q = true → req = 0 ∨ hasK acc2 req = true) ∧ Hid (Ext wq wr)) (fun _ i _ => acc2.length - (intOf i).toNat)
  case atStart => exact ⟨0, _, rfl, rfl, by omega, (fun h => .inl (by simpa using h)), (inferInstance : Ext wq wq)⟩
  case round =>
    obtain ⟨k, q, rfl, rfl, hk, HQ, HE⟩ := hrel
    have Sr : Step wr wq := ⟨HE.out.out⟩
    have d3 : wr.cell? ⟨w.heap.size + 1, 3, none⟩ = some (.slice AA2 acc2.length ac2) := (at_cell (at_ext (w' := wr) HG1.out) 3).trans HD.out.conf.acc
    have r2 : wr.cell? ⟨w.heap.size, 2, none⟩ = some (.int .i64 req) := cell_ext q2
    by_cases hlt : k < acc2.length
    · have HLT := Lib.hid hlt
      have hanb : acc2.length ≤ 9223372036854775807 := HD.out.len
      have hkI : (k : Int) < (acc2.length : Int) := by omega
      obtain ⟨aa, rfl, hca⟩ := (HD.out.cells.ext (w' := wr)).num hlt
      rcases q with _ | _
      · have hge : acc2[k]? = some (acc2.getD k 0) := by rw [List.getD_eq_getElem?_getD, List.getElem?_eq_getElem hlt]; rfl
        have HGE := Lib.hid hge
        clear hge
        obtain ⟨a0, ha0⟩ : ∃ a0, acc2.getD k 0 = a0 := ⟨_, rfl⟩
        rw [ha0] at hca HGE
        clear ha0
        by_cases he : a0 = req
        · have he' : (a0 == req) = true := by simpa using he
          have HEQ := Lib.hid he
          clear he
          go_wp2
          go_quiet (fail)
          go_wp2
          go_roundw
          case rel => exact ⟨k + 1, true, rfl, by go_num, HLT.out, (fun _ => .inr (hasK_mem (by rw [← HEQ.out]; exact HGE.out))), (inferInstance : Ext wq _)⟩
          case measure => have := HLT.out; simp [intOf]; omega
        · have he' : (a0 == req) = false := by simpa using he
          clear he
          go_wp2
          go_quiet (fail)
          go_wp2
          go_roundw
          case rel => exact ⟨k + 1, false, rfl, by go_num, HLT.out, (fun h => by cases h), (inferInstance : Ext wq _)⟩
          case measure => have := HLT.out; simp [intOf]; omega
      · have HQ1 := Lib.hid (HQ.out rfl)
        clear HQ
        go_wp2
        go_quiet (fail)
        go_wp2
        go_roundw
        case rel => exact ⟨k + 1, true, rfl, by go_num, HLT.out, (fun _ => HQ1.out), (inferInstance : Ext wq _)⟩
        case measure => have := HLT.out; simp [intOf]; omega
    · obtain rfl : k = acc2.length := by omega
      rcases q with _ | _
      · skip
        go_wp2_with fail
        refine (known11_any _).mono ?_
        rintro e wz ⟨rfl, hbz⟩
        have Sz : Step wz _ := ⟨hbz⟩
        clear hbz
        go_wp2_with fail
        go_ret
        exact ⟨rfl, Ext.out⟩
      by_cases h1 : req < 0
      · skip
        go_wp2_with fail
        refine (known11_any _).mono ?_
        rintro e wz ⟨rfl, hbz⟩
        have Sz : Step wz _ := ⟨hbz⟩
        clear hbz
        go_wp2_with fail
        go_ret
        exact ⟨rfl, Ext.out⟩
      by_cases h2 : 3 < req
      · skip
        go_wp2_with fail
        refine (known11_any _).mono ?_
        rintro e wz ⟨rfl, hbz⟩
        have Sz : Step wz _ := ⟨hbz⟩
        clear hbz
        go_wp2_with fail
        go_ret
        exact ⟨rfl, Ext.out⟩
      have HRQ := Lib.hid (show 0 ≤ req ∧ req ≤ 3 from ⟨by omega, by omega⟩)
      have HBE := Lib.hid (HQ.out rfl)
      have HCR : Hid (cf[2]? = some (.int .i64 req)) := HC.out.hreq
      clear HQ hlt hk
      obtain ⟨m1, hm1⟩ : ∃ m1, (if mg = true then mine else 0) = m1 := ⟨_, rfl⟩
      obtain ⟨mm, hmm⟩ : ∃ mm, (if mg2 = true then theirs else 0) = mm := ⟨_, rfl⟩
      have HEE : Hid (Ends ⟨mru, accm, req, m1, pf, af⟩ acc2 mm) := by
        refine ⟨HMR.out, HAM.out, HRQ.out, ?_, ?_, HBE.out⟩
        · show 0 ≤ m1 ∧ m1 < 4294967296
          rw [← hm1]
          split <;> omega
        · show m1 ≠ 0 → m1 ≠ mm
          have e1 := HMN.out
          have e2 := HMT.out
          rw [← hm1, ← hmm]
          split <;> split <;> omega
      have HM1 := Lib.hid hm1
      have HMM := Lib.hid hmm
      clear hm1 hmm
      go_wp2_with
        (first
         | (refine wpList_load_row rfl 25 (.tmp 4) rfl w.heap.size rfl 25 cf (0, 0) _ (at_ext HG0.out) Try.underlying25 rfl HSZ.out ?_)
         | (refine wpList_load_row rfl 25 (.tmp 5) rfl (w.heap.size + 1) rfl 25 dg (0, 0) _ (at_ext HG1.out) Try.underlying25 rfl HDZ.out ?_))
      refine (lwant_any cf pf af mg req mru accm mine HSZ.out HC.out.hreq HC.out.hmru HC.out.haccm HC.out.conf.pf HC.out.conf.af HC.out.conf.mg _).mono ?_
      rintro e w3 ⟨rfl, hb3⟩
      rw [HM1.out]
      have S3 : Step w3 _ := ⟨hb3⟩
      clear hb3 r2 q2 d3 h1 h2
      have HO3 := Lib.hid (at_new w3 (.cells #[.int .i64 mru, .int .i64 accm, .int .i64 req, .int .u32 m1, .bool pf, .bool af] 33))
      go_wp2_with
        (first
         | (refine wpList_load_row rfl 25 (.tmp 4) rfl w.heap.size rfl 25 cf (0, 0) _ (at_ext HG0.out) Try.underlying25 rfl HSZ.out ?_)
         | (refine wpList_load_row rfl 25 (.tmp 5) rfl (w.heap.size + 1) rfl 25 dg (0, 0) _ (at_ext HG1.out) Try.underlying25 rfl HDZ.out ?_))
      refine (lwant_any dg pf2 af2 mg2 req2 mru2 accm2 theirs HDZ.out HD.out.hreq HD.out.hmru HD.out.haccm HD.out.conf.pf HD.out.conf.af HD.out.conf.mg _).mono ?_
      rintro e w5 ⟨rfl, hb5⟩
      rw [HMM.out]
      have S5 : Step w5 _ := ⟨hb5⟩
      clear hb5
      have HT5 := Lib.hid (at_new w5 (.cells #[.int .i64 mru2, .int .i64 accm2, .int .i64 req2, .int .u32 mm, .bool pf2, .bool af2] 33))
      have HO5 := Lib.hid (at_ext (w' := w5.alloc (.cells #[.int .i64 mru2, .int .i64 accm2, .int .i64 req2, .int .u32 mm, .bool pf2, .bool af2] 33)) HO3.out)
      have HW5 : Hid (Ext w3 (w5.alloc (.cells #[.int .i64 mru2, .int .i64 accm2, .int .i64 req2, .int .u32 mm, .bool pf2, .bool af2] 33))) := (inferInstance : Ext w3 (w5.alloc _))
      have hne : w3.heap.size < w5.heap.size := at_lt (at_ext (w' := w5) HO3.out)
      have HNE := Lib.hid hne
      clear HO3 hne
      go_wp2
      go_loopw [13] (fun j wx => ∃ (r : Nat) (o : OS), j = .int .i64 r ∧ r ≤ 1 ∧ Hid (Ends o acc2 mm) ∧ Hid (o.auth = req) ∧ Hid (r = 1 → badF ⟨acc2.length, pf2, af2, mg2⟩ o = []) ∧ Hid (wx.heap[w3.heap.size]? = some (oL o)) ∧ Hid (wx.heap[w5.heap.size]? = some (.cells #[.int .i64 mru2, .int .i64 accm2, .int .i64 req2, .int .u32 mm, .bool pf2, .bool af2] 33 (0, 0))) ∧ Hid (Ext w3 wx)) (fun j _ => 6 - (intOf j).toNat)
      case atStart => exact ⟨0, ⟨mru, accm, req, m1, pf, af⟩, rfl, by omega, HEE.out, rfl, (fun h => by cases h), HO5.out, HT5.out, HW5.out⟩
      case round =>
        clear HEE HT5 HO5 HW5
        obtain ⟨r, o, rfl, hr, HEN, HAU, HR1, HO, HT, HW⟩ := hrel
        obtain ⟨o0, o1, o2, o3, o4, o5⟩ := o
        have hau := HAU.out
        simp only at hau
        subst hau
        have Sw : Step wr w3 := ⟨HW.out.out⟩
        have hr6 : (r : Int) < 6 := by omega
        have hmg := HEN.out.2.2.2.1
        simp only at hmg
        go_wp2_with
          (first
           | (refine wpList_load_row rfl 33 (.tmp 11) rfl w3.heap.size rfl 33 #[.int .i64 o0, .int .i64 o1, .int .i64 o2, .int .u32 o3, .bool o4, .bool o5] (0, 0) _ (at_ext HO.out) Try.underlying33 rfl (by kernel_rfl) ?_)
           | (refine wpList_load_row rfl 25 (.tmp 4) rfl w.heap.size rfl 25 cf (0, 0) _ (at_ext HG0.out) Try.underlying25 rfl HSZ.out ?_)
           | (refine wpList_load_row rfl 25 (.tmp 5) rfl (w.heap.size + 1) rfl 25 dg (0, 0) _ (at_ext HG1.out) Try.underlying25 rfl HDZ.out ?_)
           | (refine wpList_load_row rfl 33 (.tmp 12) rfl w5.heap.size rfl 33 #[.int .i64 mru2, .int .i64 accm2, .int .i64 req2, .int .u32 mm, .bool pf2, .bool af2] (0, 0) _ (at_ext HT.out) Try.underlying33 rfl (by kernel_rfl) ?_))
        refine (loptions_any ⟨o0, o1, o2, o3, o4, o5⟩ hmg.1 hmg.2 _).mono ?_
        rintro e wA ⟨vA, us, rfl, hoA, huA, hbA⟩
        have SA : Step wA _ := ⟨hbA⟩
        obtain ⟨AL, cL, rfl, hncL⟩ := own_slice hoA.1
        have hul : us.length ≤ 6 := by have h1 := congrArg List.length huA; rw [List.length_map] at h1; rw [h1]; exact optionsF_len _
        have CA : Hid (Cells wA AL (flat us)) := own_cells hoA.1
        have GA : Hid (Good wA us) := hoA.good
        have HUA := Lib.hid huA
        obtain ⟨n, hn⟩ : ∃ n, us.length = n := ⟨_, rfl⟩
        rw [hn] at hul hncL ⊢
        have HN := Lib.hid hn
        clear hoA huA hbA hn hmg
        go_wp2_with
          (first
           | (refine wpList_load_row rfl 33 (.tmp 11) rfl w3.heap.size rfl 33 #[.int .i64 o0, .int .i64 o1, .int .i64 o2, .int .u32 o3, .bool o4, .bool o5] (0, 0) _ (at_ext HO.out) Try.underlying33 rfl (by kernel_rfl) ?_)
           | (refine wpList_load_row rfl 25 (.tmp 4) rfl w.heap.size rfl 25 cf (0, 0) _ (at_ext HG0.out) Try.underlying25 rfl HSZ.out ?_)
           | (refine wpList_load_row rfl 25 (.tmp 5) rfl (w.heap.size + 1) rfl 25 dg (0, 0) _ (at_ext HG1.out) Try.underlying25 rfl HDZ.out ?_)
           | (refine wpList_load_row rfl 33 (.tmp 12) rfl w5.heap.size rfl 33 #[.int .i64 mru2, .int .i64 accm2, .int .i64 req2, .int .u32 mm, .bool pf2, .bool af2] (0, 0) _ (at_ext HT.out) Try.underlying33 rfl (by kernel_rfl) ?_))
        have htw : 0 ≤ IntKind.u32.wrap (theirs + 1) ∧ IntKind.u32.wrap (theirs + 1) < 4294967296 := by rw [IntKind.wrap_u32]; omega
        refine (ljudge_any dg acc2 pf2 af2 mg2 AA2 ac2 maxf2 0 (IntKind.u32.wrap (theirs + 1)) mm mru2 accm2 req2 pf2 af2 AL n cL us HD.out.conf HD.out.hmaxf htw.1 htw.2 HD.out.len HN.out (by omega) hncL _ (by exact CA.out.ext) (by exact GA.out.ext) (by exact HD.out.cells.ext)).mono ?_
        rintro e wB ⟨vB, xs, rfl, hoB, hxB, hbB⟩
        have SB : Step wB _ := ⟨hbB⟩
        rw [HUA.out, ends_judge HEN.out] at hxB ⊢
        obtain ⟨AX, cX, rfl, hncX⟩ := own_slice hoB.1
        have CB : Hid (Cells wB AX (flat xs)) := own_cells hoB.1
        have GB : Hid (Good wB xs) := hoB.good
        clear hoB hbB htw
        by_cases hbad : badF ⟨acc2.length, pf2, af2, mg2⟩ ⟨o0, o1, o2, o3, o4, o5⟩ = []
        · rw [if_neg (by simp [hbad])] at hxB ⊢
          simp only at hxB ⊢
          have hxl : xs.length ≤ 6 := by have h1 := congrArg List.length hxB; rw [List.length_map] at h1; rw [h1]; exact optionsF_len _
          have HXB := Lib.hid hxB
          obtain ⟨m, hm⟩ : ∃ m, xs.length = m := ⟨_, rfl⟩
          rw [hm] at hxl hncX ⊢
          have HM := Lib.hid hm
          clear hxB hm hbad
          go_wp2_with fail
          refine (rread_any AX m cX xs HM.out (by omega) _ (by exact CB.out.ext) (by exact GB.out.ext)).mono ?_
          rintro e wC ⟨hrC, hbC⟩
          have SC : Step wC _ := ⟨hbC⟩
          unfold ReadTells at hrC
          subst hrC
          rw [HXB.out, read_back _ HEN.out.1 HEN.out.2.1 HEN.out.2.2.1 HEN.out.2.2.2.1]
          clear hbC
          simp only
          have HA17 := Lib.hid (at_new wC (.cells #[.int .i64 o0, .int .i64 o1, .int .i64 o2, .int .u32 o3, .bool o4, .bool o5] 28))
          go_wp2_with fail
          obtain ⟨wD, hwD⟩ : ∃ wD, wC.alloc (.cells #[.int .i64 o0, .int .i64 o1, .int .i64 o2, .int .u32 o3, .bool o4, .bool o5] 28) = wD := ⟨_, rfl⟩
          have SD : Step wD wC := ⟨by rw [← hwD]; exact Ext.out⟩
          rw [hwD] at HA17 ⊢
          clear hwD
          have p17 : wD.cell? ⟨wC.heap.size, 2, none⟩ = some (.int .i64 o2) := at_cell HA17.out 2
          have r2 : wD.cell? ⟨w.heap.size, 2, none⟩ = some (.int .i64 o2) := (at_cell (at_ext (w' := wD) HG0.out) 2).trans HCR.out
          have HP17 := Lib.hid p17
          have HR2 := Lib.hid r2
          clear p17 r2
          refine wp_region_held_drew (S := fun W => Ext wD W) (by kernel_rfl) (by exact inferInstance) (fun hHeld => ?_)
          refine wpAnyH_take (i := 0) (v := ?_) rfl (by kernel_rfl) (by kernel_rfl) (by kernel_rfl) (fun _ _ _ h => h) (Yields.yieldsIf (Or.inl ⟨by rfl, ?_⟩)) hHeld ?_
          rotate_left
          · intro W
            go_simp
            try with_reducible rfl
          simp only [List.getElem_toArray, List.getElem_cons_succ, List.getElem_cons_zero, Act.put, List.setIfInBounds_toArray, List.set_cons_zero, List.set_cons_succ]
          refine wpAnyH_take (i := 1) (v := ?_) rfl (by kernel_rfl) (by kernel_rfl) (by kernel_rfl) (fun _ _ _ h => h) (Yields.yieldsIf (Or.inl ⟨by rfl, ?_⟩)) hHeld ?_
          rotate_left
          · intro W
            go_simp
            try with_reducible rfl
          simp only [List.getElem_toArray, List.getElem_cons_succ, List.getElem_cons_zero, Act.put, List.setIfInBounds_toArray, List.set_cons_zero, List.set_cons_succ]
          refine wpAnyH_take (i := 2) (v := ?_) rfl (by kernel_rfl) (by kernel_rfl) (by kernel_rfl) (fun _ _ _ h => h) (Yields.yieldsIf (Or.inl ⟨by rfl, ?_⟩)) hHeld ?_
          rotate_left
          · intro W
            go_simp
            try with_reducible rfl
          simp only [List.getElem_toArray, List.getElem_cons_succ, List.getElem_cons_zero, Act.put, List.setIfInBounds_toArray, List.set_cons_zero, List.set_cons_succ]
          refine wpAnyH_take (i := 3) (v := .agg #[.int .i64 o0, .int .i64 o1, .int .i64 o2, .int .u32 o3, .bool o4, .bool o5]) rfl (by kernel_rfl) (by kernel_rfl) (by kernel_rfl) (fun _ _ _ h => h) (yields_row_S (by rfl) 28 (.tmp 17) rfl wC.heap.size rfl 28 #[.int .i64 o0, .int .i64 o1, .int .i64 o2, .int .u32 o3, .bool o4, .bool o5] (0, 0) _ Try.underlying28 rfl (by kernel_rfl) (fun W hW => at_ext (h := hW) HA17.out)) hHeld ?_
          simp only [List.getElem_toArray, List.getElem_cons_succ, List.getElem_cons_zero, Act.put, List.setIfInBounds_toArray, List.set_cons_zero, List.set_cons_succ]
          refine wpAnyH_take (i := 4) (v := .agg #[.int .i64 o0, .int .i64 o1, .int .i64 o2, .int .u32 o3, .bool o4, .bool o5]) rfl (by kernel_rfl) (by kernel_rfl) (by kernel_rfl) (fun _ _ _ h => h) (yields_row_S (by rfl) 33 (.tmp 11) rfl w3.heap.size rfl 33 #[.int .i64 o0, .int .i64 o1, .int .i64 o2, .int .u32 o3, .bool o4, .bool o5] (0, 0) _ Try.underlying33 rfl (by kernel_rfl) (fun W hW => at_ext (h := hW) (at_ext (w' := wD) HO.out))) hHeld ?_
          simp only [List.getElem_toArray, List.getElem_cons_succ, List.getElem_cons_zero, Act.put, List.setIfInBounds_toArray, List.set_cons_zero, List.set_cons_succ]
          refine wpAnyH_ready (rs := [5]) (by kernel_rfl) (by simp) ?_
          refine AllReadyH.cons rfl (fun K hK => ?_) AllReadyH.nil
          refine step_call_w (by rfl) Try.func35 (by kernel_rfl) (by kernel_rfl) #[.tmp 142] #[33] rfl #[.agg #[.int .i64 o0, .int .i64 o1, .int .i64 o2, .int .u32 o3, .bool o4, .bool o5]] ?hv (taken_any o0 o1 o2 o3 o4 o5 _) ?_
          case hv => go_simp
          rintro e we ⟨rfl, hbe⟩
          refine ⟨_, rfl, ?_⟩
          have Se : Step we _ := ⟨hbe⟩; clear hbe
          clear hHeld
          refine hK.out _ _ (by exact inferInstance) (fun hHeld => ?_)
          clear hK K
          simp only [List.getElem_toArray, List.getElem_cons_succ, List.getElem_cons_zero, Act.put, List.setIfInBounds_toArray, List.set_cons_zero, List.set_cons_succ]
          refine wpAnyH_take (i := 6) (v := ?_) rfl (by kernel_rfl) (by kernel_rfl) (by kernel_rfl) (fun _ _ _ h => h) (Yields.yieldsIf (Or.inl ⟨by rfl, ?_⟩)) hHeld ?_
          rotate_left
          · intro W
            go_simp
            try with_reducible rfl
          simp only [List.getElem_toArray, List.getElem_cons_succ, List.getElem_cons_zero, Act.put, List.setIfInBounds_toArray, List.set_cons_zero, List.set_cons_succ]
          refine wpAnyH_take (i := 7) (v := ?_) rfl (by kernel_rfl) (by kernel_rfl) (by kernel_rfl) (fun _ _ _ h => h) (Yields.yieldsIf (Or.inl ⟨by rfl, ?_⟩)) hHeld ?_
          rotate_left
          · intro W
            go_simp
            try with_reducible rfl
          simp only [List.getElem_toArray, List.getElem_cons_succ, List.getElem_cons_zero, Act.put, List.setIfInBounds_toArray, List.set_cons_zero, List.set_cons_succ]
          refine wpAnyH_take (i := 8) (v := ?_) rfl (by kernel_rfl) (by kernel_rfl) (by kernel_rfl) (fun _ _ _ h => h) (Yields.yieldsIf (Or.inl ⟨by rfl, ?_⟩)) hHeld ?_
          rotate_left
          · intro W
            go_simp
            try with_reducible rfl
          simp only [List.getElem_toArray, List.getElem_cons_succ, List.getElem_cons_zero, Act.put, List.setIfInBounds_toArray, List.set_cons_zero, List.set_cons_succ]
          refine wpAnyH_take (i := 9) (v := ?_) rfl (by kernel_rfl) (by kernel_rfl) (by kernel_rfl) (fun _ _ _ h => h) (Yields.yieldsIf (Or.inl ⟨by rfl, ?_⟩)) hHeld ?_
          rotate_left
          · intro W
            go_simp
            try with_reducible rfl
          simp only [List.getElem_toArray, List.getElem_cons_succ, List.getElem_cons_zero, Act.put, List.setIfInBounds_toArray, List.set_cons_zero, List.set_cons_succ]
          refine wpAnyH_take (i := 10) (v := ?_) rfl (by kernel_rfl) (by kernel_rfl) (by kernel_rfl) (fun _ _ _ h => h) (Or.inl ⟨by rfl, ?_⟩) hHeld ?_
          rotate_left
          · intro W hW
            have hcl := (cell_ext (h := hW) HP17.out)
            go_simp
            try with_reducible rfl
          simp only [List.getElem_toArray, List.getElem_cons_succ, List.getElem_cons_zero, Act.put, List.setIfInBounds_toArray, List.set_cons_zero, List.set_cons_succ]
          refine wpAnyH_take (i := 11) (v := ?_) rfl (by kernel_rfl) (by kernel_rfl) (by kernel_rfl) (fun _ _ _ h => h) (Yields.yieldsIf (Or.inl ⟨by rfl, ?_⟩)) hHeld ?_
          rotate_left
          · intro W
            go_simp
            try with_reducible rfl
          simp only [List.getElem_toArray, List.getElem_cons_succ, List.getElem_cons_zero, Act.put, List.setIfInBounds_toArray, List.set_cons_zero, List.set_cons_succ]
          refine wpAnyH_take (i := 12) (v := ?_) rfl (by kernel_rfl) (by kernel_rfl) (by kernel_rfl) (fun _ _ _ h => h) (Or.inl ⟨by rfl, ?_⟩) hHeld ?_
          rotate_left
          · intro W hW
            have hcl := (cell_ext (h := hW) HR2.out)
            go_simp
            try with_reducible rfl
          simp only [List.getElem_toArray, List.getElem_cons_succ, List.getElem_cons_zero, Act.put, List.setIfInBounds_toArray, List.set_cons_zero, List.set_cons_succ]
          refine wpAnyH_take (i := 13) (v := ?_) rfl (by kernel_rfl) (by kernel_rfl) (by kernel_rfl) (fun _ _ _ h => h) (Yields.yieldsIf (Or.inl ⟨by rfl, ?_⟩)) hHeld ?_
          rotate_left
          · intro W
            go_simp
            try with_reducible rfl
          simp only [List.getElem_toArray, List.getElem_cons_succ, List.getElem_cons_zero, Act.put, List.setIfInBounds_toArray, List.set_cons_zero, List.set_cons_succ]
          refine wpAnyH_take (i := 14) (v := ?_) rfl (by kernel_rfl) (by kernel_rfl) (by kernel_rfl) (fun _ _ _ h => h) (Yields.yieldsIf (Or.inl ⟨by rfl, ?_⟩)) hHeld ?_
          rotate_left
          · intro W
            go_simp
            try with_reducible rfl
          simp only [List.getElem_toArray, List.getElem_cons_succ, List.getElem_cons_zero, Act.put, List.setIfInBounds_toArray, List.set_cons_zero, List.set_cons_succ]
          refine wpAnyH_take (i := 15) (v := ?_) rfl (by kernel_rfl) (by kernel_rfl) (by kernel_rfl) (fun _ _ _ h => h) (Yields.yieldsIf (Or.inl ⟨by rfl, ?_⟩)) hHeld ?_
          rotate_left
          · intro W
            go_simp
            try with_reducible rfl
          simp only [List.getElem_toArray, List.getElem_cons_succ, List.getElem_cons_zero, Act.put, List.setIfInBounds_toArray, List.set_cons_zero, List.set_cons_succ]
          refine wpAnyH_ready (rs := [16]) (by kernel_rfl) (by simp) ?_
          refine AllReadyH.cons rfl (fun K hK => ?_) AllReadyH.nil
          refine step_call_w (by rfl) Try.func13 (by kernel_rfl) (by kernel_rfl) #[] #[] rfl #[] ?hv (known11_any _) ?_
          case hv => go_simp
          rintro e wk ⟨rfl, hbk⟩
          refine ⟨_, rfl, ?_⟩
          have Sk : Step wk _ := ⟨hbk⟩; clear hbk
          clear hHeld
          refine hK.out _ _ (by exact inferInstance) (fun hHeld => ?_)
          clear hK K
          simp only [List.getElem_toArray, List.getElem_cons_succ, List.getElem_cons_zero, Act.put, List.setIfInBounds_toArray, List.set_cons_zero, List.set_cons_succ]
          refine wpAnyH_take (i := 17) (v := ?_) rfl (by kernel_rfl) (by kernel_rfl) (by kernel_rfl) (fun _ _ _ h => h) (Yields.yieldsIf (Or.inl ⟨by rfl, ?_⟩)) hHeld ?_
          rotate_left
          · intro W
            go_simp
            try with_reducible rfl
          simp only [List.getElem_toArray, List.getElem_cons_succ, List.getElem_cons_zero, Act.put, List.setIfInBounds_toArray, List.set_cons_zero, List.set_cons_succ]
          refine wpAnyH_take (i := 18) (v := ?_) rfl (by kernel_rfl) (by kernel_rfl) (by kernel_rfl) (fun _ _ _ h => h) (Yields.yieldsIf (Or.inl ⟨by rfl, ?_⟩)) hHeld ?_
          rotate_left
          · intro W
            go_simp
            try with_reducible rfl
          simp only [List.getElem_toArray, List.getElem_cons_succ, List.getElem_cons_zero, Act.put, List.setIfInBounds_toArray, List.set_cons_zero, List.set_cons_succ]
          refine wpAnyH_done (by kernel_rfl) ?_ _
          clear hHeld
          go_wp2
          go_ret
          exact ⟨rfl, Ext.out⟩
        · have hr0 : r = 0 := by
            rcases Nat.eq_zero_or_pos r with h | h
            · exact h
            · exact absurd (HR1.out (by omega)) hbad
          subst hr0
          rw [if_pos hbad] at hxB ⊢
          simp only at hxB ⊢
          have hxl : xs.length ≤ 4398046511104 := by
            have h1 := congrArg List.length hxB
            rw [List.length_map] at h1
            rw [h1]
            have h2 := badF_len ⟨acc2.length, pf2, af2, mg2⟩ ⟨o0, o1, o2, o3, o4, o5⟩
            omega
          have HXB := Lib.hid hxB
          obtain ⟨m, hm⟩ : ∃ m, xs.length = m := ⟨_, rfl⟩
          rw [hm] at hxl hncX ⊢
          have HM := Lib.hid hm
          clear hxB hm hbad
          go_wp2_with
            (first
             | (refine wpList_load_row rfl 33 (.tmp 11) rfl w3.heap.size rfl 33 #[.int .i64 o0, .int .i64 o1, .int .i64 o2, .int .u32 o3, .bool o4, .bool o5] (0, 0) _ (at_ext HO.out) Try.underlying33 rfl (by kernel_rfl) ?_)
             | (refine wpList_load_row rfl 25 (.tmp 4) rfl w.heap.size rfl 25 cf (0, 0) _ (at_ext HG0.out) Try.underlying25 rfl HSZ.out ?_)
             | (refine wpList_load_row rfl 25 (.tmp 5) rfl (w.heap.size + 1) rfl 25 dg (0, 0) _ (at_ext HG1.out) Try.underlying25 rfl HDZ.out ?_)
             | (refine wpList_load_row rfl 33 (.tmp 12) rfl w5.heap.size rfl 33 #[.int .i64 mru2, .int .i64 accm2, .int .i64 req2, .int .u32 mm, .bool pf2, .bool af2] (0, 0) _ (at_ext HT.out) Try.underlying33 rfl (by kernel_rfl) ?_))
          refine (lreject_any cf ⟨o0, o1, o2, o3, o4, o5⟩ AX m cX xs HSZ.out HM.out hxl (vs_types HXB.out) _ (by exact CB.out.ext)).mono ?_
          rintro e wC ⟨hrC, hbC⟩
          have SC : Step wC _ := ⟨hbC⟩
          unfold LReadTells2 at hrC
          subst hrC
          rw [rej_vs HXB.out]
          clear hbC
          obtain ⟨ok, hok⟩ : ∃ ok, keepF ⟨acc2.length, pf2, af2, mg2⟩ ⟨o0, o1, o2, o3, o4, o5⟩ = ok := ⟨_, rfl⟩
          have HEK := Lib.hid (HEN.out.keep (D := ⟨acc2.length, pf2, af2, mg2⟩))
          have HBK := Lib.hid (bad_keep ⟨acc2.length, pf2, af2, mg2⟩ ⟨o0, o1, o2, o3, o4, o5⟩)
          have HUK : Hid ((keepF ⟨acc2.length, pf2, af2, mg2⟩ ⟨o0, o1, o2, o3, o4, o5⟩).auth = o2) := rfl
          rw [hok] at HEK HBK HUK ⊢
          clear hok
          obtain ⟨k0, k1, k2, k3, k4, k5⟩ := ok
          have huk := HUK.out
          simp only at huk
          subst huk
          simp only
          have hne : w3.heap.size ≠ w5.heap.size := Nat.ne_of_lt HNE.out
          go_wp2_with
            (first
             | (refine wpList_load_row rfl 33 (.tmp 21) rfl wC.heap.size rfl 33 #[.int .i64 k0, .int .i64 k1, .int .i64 k2, .int .u32 k3, .bool k4, .bool k5] (0, 0) _ (at_new wC _) Try.underlying33 rfl (by kernel_rfl) ?_)
             | (refine wpList_store_row rfl 33 (.tmp 11) (.tmp 130) rfl w3.heap.size #[.int .i64 k0, .int .i64 k1, .int .i64 k2, .int .u32 k3, .bool k4, .bool k5] rfl rfl 33 #[.int .i64 o0, .int .i64 o1, .int .i64 k2, .int .u32 o3, .bool o4, .bool o5] (at_ext HO.out) (by kernel_rfl) rfl (by simp [Value.oneCell']) ?_))
          go_roundw
          case rel => exact ⟨1, ⟨k0, k1, k2, k3, k4, k5⟩, by go_num, by omega, HEK.out, rfl, (fun _ => HBK.out), setRow_heap _ _ _ _ _ _ (at_ext HO.out), (setRow_other _ _ _ _ (by have := HNE.out; omega)).trans (at_ext HT.out), Ext.setRow_ (inferInstance : Ext w3 _) (Nat.le_refl _) _⟩
          case measure => simp [intOf]
namespace LcpEnds
set_option maxRecDepth 100000 in
theorem walk (U : Nat) (W : World) (vs : List Value) (h : Args U Try.prog W Try.f7.params.toList vs) : Calls Try.prog 7 vs.toArray W fun e W' => e = .returned (.bool true) ∧ Below W.heap.size W W' := by
  rw [Try.params7] at h
  match vs, h with
  | [v0, v1, v2, v3], ⟨h0, h1, h2, h3, _⟩ =>
    obtain ⟨cf, acc, pf, af, mg, AA, ac, req, mru, accm, maxf, rfl, hC⟩ := arg_conf11 h0
    obtain ⟨dg, acc2, pf2, af2, mg2, AA2, ac2, req2, mru2, accm2, maxf2, rfl, hD⟩ := arg_conf11 h1
    obtain ⟨mine, rfl, w2⟩ := h2.int Try.underlying26
    obtain ⟨theirs, rfl, w3⟩ := h3.int Try.underlying26
    exact ends11_law cf dg acc acc2 pf af mg pf2 af2 mg2 AA AA2 ac ac2 req mru accm maxf req2 mru2 accm2 maxf2 mine theirs (wf_u32 w2).1 (wf_u32 w2).2 (wf_u32 w3).1 (wf_u32 w3).2 W hC hD

set_option maxRecDepth 100000 in
theorem lifted (os : Os) (started : os.Started) (H : Type) (enc : TypeId × Value → H) :
    ReturnsInHanded {} Try.checked os 7 .any (Rows.lcpEndsSpec.pre6 enc Try.prog Try.f7 Rows.lcpEndsRow.domain false) (Rows.lcpEndsSpec.post enc Try.prog Try.f7 false true false false) :=
  law_lifted (C := Try.checked) laid_out own_knob started (by kernel_rfl) Try.func7 H enc rfl
    (fun ds hd => by
      have : ds.length = 4 := hd
      match ds, this with
      | [_, _, _, _], _ => exact ⟨rfl, rfl, rfl⟩) rfl Try.underlying4 (by
      have : (Try.f7.params.toList.all fun t => Try.prog.readableRec t && decide (t < Try.prog.types.size)) = true := by kernel_rfl
      intro t ht
      have h := List.all_eq_true.1 this t ht
      rw [Bool.and_eq_true, decide_eq_true_eq] at h
      exact h)
    (ChangeSpec.witness6 (enc := enc) (C := Try.checked) false ⟨#[], #[.agg #[.string ⟨#[]⟩, .string ⟨#[]⟩, .int .i64 0, .slice none 0 0, .int .i64 0, .int .i64 0, .bool false, .bool false, .bool false, .int .i64 0, .int .i64 0, .int .i64 0, .int .i64 0, .bool false, .bool false, .int .u64 0, .int .i64 0, .int .i64 0, .int .i64 0, .int .i64 0, .int .i64 0, .int .i64 0, .int .i64 0, .int .i64 0, .int .i64 0, .int .i64 0, .int .i64 0, .int .i64 0, .bool false, .bool false, .int .i64 0, .string ⟨#[]⟩, .string ⟨#[]⟩], .agg #[.string ⟨#[]⟩, .string ⟨#[]⟩, .int .i64 0, .slice none 0 0, .int .i64 0, .int .i64 0, .bool false, .bool false, .bool false, .int .i64 0, .int .i64 0, .int .i64 0, .int .i64 0, .bool false, .bool false, .int .u64 0, .int .i64 0, .int .i64 0, .int .i64 0, .int .i64 0, .int .i64 0, .int .i64 0, .int .i64 0, .int .i64 0, .int .i64 0, .int .i64 0, .int .i64 0, .int .i64 0, .bool false, .bool false, .int .i64 0, .string ⟨#[]⟩, .string ⟨#[]⟩], .int .u32 0, .int .u32 0], []⟩ 8 (by kernel_rfl) (by kernel_rfl) (by kernel_rfl) (by kernel_rfl)) walk

theorem over : Rows.lcpEndsRow.holds Try.pinned (OpenSpec.ofChange Rows.lcpEndsSpec) :=
  OpenClaim.holds_of_wide 7 Try.f7 rfl rfl rfl rfl rfl rfl rfl ⟨rfl, rfl, rfl, rfl, rfl⟩ rfl rfl rfl rfl rfl (by kernel_rfl) Try.func7 (by kernel_rfl)
    (of_decide_eq_true (by kernel_rfl)) (by unfold Func.isWrapper; first | (rw [if_pos (by decide +kernel)]; kernel_rfl) | (rw [if_neg (by decide +kernel)]; exact ⟨rfl, rfl⟩))
    (fun os started H enc _ => lifted os started H enc)

/-- The statement. -/
theorem proved : Rows.LcpEndsSaid := over
#print axioms proved
end LcpEnds
end Go.Proofs.Ytodibldfolognaa
