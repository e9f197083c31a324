/-
  What ipv6cp.Judge tells. Conditions: the list is no longer than the model's memory.
-/
import Derived.Test.YtmopdimokoogmaaIp6M
namespace Go.Proofs.Ytmopdimokoogmaa
open Go.RowKit
set_option linter.unusedVariables false
set_option linter.unusedSimpArgs false

set_option maxRecDepth 100000 in
set_option maxHeartbeats 8000000 in
theorem judge17_any (cf : Array Value) (mine naks maxf draw : Int) (A : Option Addr) (n c : Nat) (vs : List OV) (hcf : cf[21]? = some (.int .i64 maxf)) (hn : vs.length = n) (hn' : n ≤ 4398046511104) (hm : giv64 mine) (hd : giv64 draw)
    (w : World) (hx : Cells w A (flat vs)) (gx : Good w vs) :
    Calls Try.prog 15 #[.agg cf, .int .u64 mine, .slice A n c, .int .i64 naks, .int .u64 draw] w (JudgeTells (judgeF mine naks maxf draw (vs.map OV.opt)) w) := by
  have Hn := Lib.hid hn
  have HX := Lib.hid hx
  have GX := Lib.hid gx
  have HCF := Lib.hid hcf
  have HM := Lib.hid hm
  have HDr := Lib.hid hd
  clear hn hx gx hcf hm hd
  go_enter Try.func15, Try.ntmps15
  go_wp2
  go_loopw [12, 13, 14, 21] (fun b met id i wr => ∃ (k : Nat) (us : List OV) (M : Bool) (N : Int), i = .int .i64 k ∧ met = .bool M ∧ id = .int .u64 N ∧ k ≤ n ∧ us.length ≤ k ∧ Hid (OptsOwn wr (w.alloc (.cells cf 25)).heap.size b us) ∧ Hid (jF mine ((vs.map OV.opt).take k) = (us.map OV.opt, M, N)) ∧
    Hid (Below (w.alloc (.cells cf 25)).heap.size (w.alloc (.cells cf 25)) wr)) (fun _ _ _ i _ => n - (intOf i).toNat)
  case atStart => exact ⟨0, [], false, 0, rfl, rfl, rfl, by omega, by simp, OptsOwn.nil_ _ _, rfl, Below.refl _ _⟩
  case round =>
    obtain ⟨k, us, M, N, rfl, rfl, rfl, hk, hul, HO, HE, HB⟩ := hrel
    have X0 : Ext (w.alloc (.cells cf 25)) wr := ⟨HB.out⟩
    have Y0 : Ext w wr := Ext.trans_ inferInstance X0
    obtain ⟨L, cl, rfl, hcl⟩ := own_slice HO.out.1
    by_cases hlt : k < n
    · obtain ⟨v, hv, hvm⟩ := optD (vs := vs) (k := k) (by rw [Hn.out]; exact hlt)
      obtain ⟨ad, rfl, hc0, hc1⟩ := opt_at (HX.out.ext (w' := wr)) hv
      have GV := Lib.hid ((GX.out v hvm).ext (w' := wr))
      have HT : Hid ((vs.map OV.opt).take (k + 1) = (vs.map OV.opt).take k ++ [v.opt]) := take_snoc (by rw [List.getElem?_map, hv]; rfl)
      clear hv hvm
      obtain ⟨t, VA, vn, vc, xs⟩ := v
      simp only at hc0 hc1
      rcases hI : idOk (t, xs) with _ | _
      · have HI := Lib.hid hI
        clear hI
        cases M with
        | true =>
          have HBad : Hid (jBad mine true (t, xs) = true) := jBad_met _ _
          have HTT : Hid True := trivial
          have HS : Hid (jF mine ((vs.map OV.opt).take (k + 1)) = (us.map OV.opt ++ [(t, xs)], true, N)) := by
            unfold Hid
            rw [HT.out, jF_snoc, HE.out]
            unfold jStep
            have hg : jBad mine true (t, xs) = true := HBad.out
            have ht := HTT.out
            simp [OV.opt, hg, ht]
          have HARM : Hid (∀ W w1, Ext (wr.alloc (.cells #[.int .i64 t, .slice VA vn vc] 76)) W → W.grownBy w1 (Value.slice L us.length cl).ownBlock → w1.cell? ⟨wr.heap.size, 0, none⟩ = some (.int .i64 t) ∧ Hid (Below (w.alloc (.cells cf 25)).heap.size (w.alloc (.cells cf 25)) w1)) := by
            intro W w1 hW hg
            have h0 := at_ext (w' := W) (at_new wr (.cells #[.int .i64 t, .slice VA vn vc] 76))
            have h1 := (hg.block wr.heap.size (at_lt h0) (fun he => by have := own_lt HO.out.1 _ he.symm; omega)).trans h0
            have hz : Ext (w.alloc (.cells cf 25)) W := Ext.trans_ inferInstance hW
            exact ⟨at_cell h1 0, below_grown hz.out hz.out.size hg (own_base HO.out.1)⟩
          go_wp2_with fail
          refine (askedId_any t VA vn vc xs GV.out.1 GV.out.2.2.2.1 _ (by exact GV.out.2.2.2.2.ext)).mono ?_
          rintro e w1 ⟨rfl, hb1⟩
          have S1 : Step w1 _ := ⟨hb1⟩
          rw [HI.out]
          have P0 := at_ext (w' := w1) (at_new wr (.cells #[.int .i64 t, .slice VA vn vc] 76))
          have p0 : w1.cell? ⟨wr.heap.size, 0, none⟩ = some (.int .i64 t) := at_cell P0 0
          have p1 : w1.cell? ⟨wr.heap.size, 1, none⟩ = some (.slice VA vn vc) := at_cell P0 1
          have X1 : Ext wr w1 := inferInstance
          clear hb1 P0
          skip
          go_wp2
          go_region_law
            (first
             | (refine step_call ?hg Try.func59 (by kernel_rfl) (by kernel_rfl) #[.tmp 48] #[42] ?ho #[.slice VA vn vc] ?hv (clone_any VA vn vc xs GV.out.1 GV.out.2.2.1 _ ?c1) ?_
                (case hg => rfl)
                (case ho => rfl)
                (case hv => go_simp)
                (case c1 => exact Cells.ext GV.out.2.2.2.2)
                rintro e w2 ⟨v1, rfl, ho1, hb1⟩
                refine ⟨v1, rfl, ?_⟩
                have S2 : Step w2 _ := ⟨hb1⟩
                have q0 : w2.cell? ⟨wr.heap.size, 0, none⟩ = some (.int .i64 t) := cell_ext p0
                obtain ⟨A1, c1, rfl, hc1'⟩ := own_slice ho1
                have HO1 := Lib.hid (own_weaken (base' := wr.heap.size) ho1 Ext.out.size)
                have X2 : Ext wr w2 := inferInstance
                have X3 : Ext (wr.alloc (.cells #[.int .i64 t, .slice VA vn vc] 76)) w2 := inferInstance
                clear ho1 hb1 hc1')
             | (refine step_append (w.alloc (.cells cf 25)).heap.size rfl (.tmp 44) (.tmp 51) 26 76 (.agg #[.int .i64 0, .slice none 0 0]) 2 32 rfl Try.underlying26 info_opt rfl (by decide) (by decide) (.slice L us.length cl) us.length (flat us) _ 1 1 [.int .i64 t, .slice A1 vn c1] rfl rfl rfl ?d1 ?d0 ?d2 ?d3 ?d4 ?_
                (case d1 => exact flat_one [⟨t, A1, vn, c1, []⟩])
                (case d0 => exact own_ext HO.out.1)
                (case d2 => exact cells_box w2 _ rfl [.int .i64 t, .slice A1 vn c1] _)
                (case d3 => exact (Ext.out (w := w.alloc (.cells cf 25))).size)
                (case d4 => omega)
                intro v2 w3 ho2 hg2 hat2
                obtain ⟨r0, HB3⟩ := HARM.out _ _ inferInstance hg2
                obtain ⟨A2, c2, rfl, hc2'⟩ := own_slice ho2
                have HO2 := Lib.hid (OptsOwn.push (W := wr) (u := ⟨t, A1, vn, c1, xs⟩) HO.out HB.out.size inferInstance (own_ext HO1.out) ⟨GV.out.1, GV.out.2.2.1, GV.out.2.2.2.1⟩ ho2 hg2 (hat2.imp_right fun h => ⟨_, h, Nat.le_refl _⟩))
                clear ho2 hg2 hat2 hc2'))
          all_goals go_wp2
          all_goals
            refine ⟨⟨k + 1, us ++ [⟨t, A1, vn, c1, xs⟩], true, N, by go_num, rfl, rfl, by omega, by simp; omega, HO2, ?_, HB3.out⟩, by simp [intOf]; omega⟩
            show _ = _
            rw [HS.out, List.map_append]
            rfl
        | false =>
          have HBad : Hid (jBad mine false (t, xs) = true) := by unfold Hid jBad; rw [HI.out]; rfl
          by_cases ht : t = 1
          · subst ht
            have HTT : Hid True := trivial
            have HS : Hid (jF mine ((vs.map OV.opt).take (k + 1)) = (us.map OV.opt ++ [(1, xs)], true, N)) := by
              unfold Hid
              rw [HT.out, jF_snoc, HE.out]
              unfold jStep
              have hg : jBad mine false (1, xs) = true := HBad.out
              have ht := HTT.out
              simp [OV.opt, hg, ht]
            have HARM : Hid (∀ W w1, Ext (wr.alloc (.cells #[.int .i64 1, .slice VA vn vc] 76)) W → W.grownBy w1 (Value.slice L us.length cl).ownBlock → w1.cell? ⟨wr.heap.size, 0, none⟩ = some (.int .i64 1) ∧ Hid (Below (w.alloc (.cells cf 25)).heap.size (w.alloc (.cells cf 25)) w1)) := by
              intro W w1 hW hg
              have h0 := at_ext (w' := W) (at_new wr (.cells #[.int .i64 1, .slice VA vn vc] 76))
              have h1 := (hg.block wr.heap.size (at_lt h0) (fun he => by have := own_lt HO.out.1 _ he.symm; omega)).trans h0
              have hz : Ext (w.alloc (.cells cf 25)) W := Ext.trans_ inferInstance hW
              exact ⟨at_cell h1 0, below_grown hz.out hz.out.size hg (own_base HO.out.1)⟩
            go_wp2_with fail
            refine (askedId_any 1 VA vn vc xs GV.out.1 GV.out.2.2.2.1 _ (by exact GV.out.2.2.2.2.ext)).mono ?_
            rintro e w1 ⟨rfl, hb1⟩
            have S1 : Step w1 _ := ⟨hb1⟩
            rw [HI.out]
            have P0 := at_ext (w' := w1) (at_new wr (.cells #[.int .i64 1, .slice VA vn vc] 76))
            have p0 : w1.cell? ⟨wr.heap.size, 0, none⟩ = some (.int .i64 1) := at_cell P0 0
            have p1 : w1.cell? ⟨wr.heap.size, 1, none⟩ = some (.slice VA vn vc) := at_cell P0 1
            have X1 : Ext wr w1 := inferInstance
            clear hb1 P0
            skip
            go_wp2
            go_region_law
              (first
               | (refine step_call ?hg Try.func59 (by kernel_rfl) (by kernel_rfl) #[.tmp 48] #[42] ?ho #[.slice VA vn vc] ?hv (clone_any VA vn vc xs GV.out.1 GV.out.2.2.1 _ ?c1) ?_
                  (case hg => rfl)
                  (case ho => rfl)
                  (case hv => go_simp)
                  (case c1 => exact Cells.ext GV.out.2.2.2.2)
                  rintro e w2 ⟨v1, rfl, ho1, hb1⟩
                  refine ⟨v1, rfl, ?_⟩
                  have S2 : Step w2 _ := ⟨hb1⟩
                  have q0 : w2.cell? ⟨wr.heap.size, 0, none⟩ = some (.int .i64 1) := cell_ext p0
                  obtain ⟨A1, c1, rfl, hc1'⟩ := own_slice ho1
                  have HO1 := Lib.hid (own_weaken (base' := wr.heap.size) ho1 Ext.out.size)
                  have X2 : Ext wr w2 := inferInstance
                  have X3 : Ext (wr.alloc (.cells #[.int .i64 1, .slice VA vn vc] 76)) w2 := inferInstance
                  clear ho1 hb1 hc1')
               | (refine step_append (w.alloc (.cells cf 25)).heap.size rfl (.tmp 44) (.tmp 51) 26 76 (.agg #[.int .i64 0, .slice none 0 0]) 2 32 rfl Try.underlying26 info_opt rfl (by decide) (by decide) (.slice L us.length cl) us.length (flat us) _ 1 1 [.int .i64 1, .slice A1 vn c1] rfl rfl rfl ?d1 ?d0 ?d2 ?d3 ?d4 ?_
                  (case d1 => exact flat_one [⟨1, A1, vn, c1, []⟩])
                  (case d0 => exact own_ext HO.out.1)
                  (case d2 => exact cells_box w2 _ rfl [.int .i64 1, .slice A1 vn c1] _)
                  (case d3 => exact (Ext.out (w := w.alloc (.cells cf 25))).size)
                  (case d4 => omega)
                  intro v2 w3 ho2 hg2 hat2
                  obtain ⟨r0, HB3⟩ := HARM.out _ _ inferInstance hg2
                  obtain ⟨A2, c2, rfl, hc2'⟩ := own_slice ho2
                  have HO2 := Lib.hid (OptsOwn.push (W := wr) (u := ⟨1, A1, vn, c1, xs⟩) HO.out HB.out.size inferInstance (own_ext HO1.out) ⟨GV.out.1, GV.out.2.2.1, GV.out.2.2.2.1⟩ ho2 hg2 (hat2.imp_right fun h => ⟨_, h, Nat.le_refl _⟩))
                  clear ho2 hg2 hat2 hc2'))
            all_goals go_wp2
            all_goals
              refine ⟨⟨k + 1, us ++ [⟨1, A1, vn, c1, xs⟩], true, N, by go_num, rfl, rfl, by omega, by simp; omega, HO2, ?_, HB3.out⟩, by simp [intOf]; omega⟩
              show _ = _
              rw [HS.out, List.map_append]
              rfl
          · have ht' : (t == 1) = false := by simpa using ht
            have HTT : Hid (t ≠ 1) := ht
            clear ht
            have HS : Hid (jF mine ((vs.map OV.opt).take (k + 1)) = (us.map OV.opt ++ [(t, xs)], false, N)) := by
              unfold Hid
              rw [HT.out, jF_snoc, HE.out]
              unfold jStep
              have hg : jBad mine false (t, xs) = true := HBad.out
              have ht := HTT.out
              simp [OV.opt, hg, ht]
            have HARM : Hid (∀ W w1, Ext (wr.alloc (.cells #[.int .i64 t, .slice VA vn vc] 76)) W → W.grownBy w1 (Value.slice L us.length cl).ownBlock → w1.cell? ⟨wr.heap.size, 0, none⟩ = some (.int .i64 t) ∧ Hid (Below (w.alloc (.cells cf 25)).heap.size (w.alloc (.cells cf 25)) w1)) := by
              intro W w1 hW hg
              have h0 := at_ext (w' := W) (at_new wr (.cells #[.int .i64 t, .slice VA vn vc] 76))
              have h1 := (hg.block wr.heap.size (at_lt h0) (fun he => by have := own_lt HO.out.1 _ he.symm; omega)).trans h0
              have hz : Ext (w.alloc (.cells cf 25)) W := Ext.trans_ inferInstance hW
              exact ⟨at_cell h1 0, below_grown hz.out hz.out.size hg (own_base HO.out.1)⟩
            go_wp2_with fail
            refine (askedId_any t VA vn vc xs GV.out.1 GV.out.2.2.2.1 _ (by exact GV.out.2.2.2.2.ext)).mono ?_
            rintro e w1 ⟨rfl, hb1⟩
            have S1 : Step w1 _ := ⟨hb1⟩
            rw [HI.out]
            have P0 := at_ext (w' := w1) (at_new wr (.cells #[.int .i64 t, .slice VA vn vc] 76))
            have p0 : w1.cell? ⟨wr.heap.size, 0, none⟩ = some (.int .i64 t) := at_cell P0 0
            have p1 : w1.cell? ⟨wr.heap.size, 1, none⟩ = some (.slice VA vn vc) := at_cell P0 1
            have X1 : Ext wr w1 := inferInstance
            clear hb1 P0
            skip
            go_wp2
            go_region_law
              (first
               | (refine step_call ?hg Try.func59 (by kernel_rfl) (by kernel_rfl) #[.tmp 48] #[42] ?ho #[.slice VA vn vc] ?hv (clone_any VA vn vc xs GV.out.1 GV.out.2.2.1 _ ?c1) ?_
                  (case hg => rfl)
                  (case ho => rfl)
                  (case hv => go_simp)
                  (case c1 => exact Cells.ext GV.out.2.2.2.2)
                  rintro e w2 ⟨v1, rfl, ho1, hb1⟩
                  refine ⟨v1, rfl, ?_⟩
                  have S2 : Step w2 _ := ⟨hb1⟩
                  have q0 : w2.cell? ⟨wr.heap.size, 0, none⟩ = some (.int .i64 t) := cell_ext p0
                  obtain ⟨A1, c1, rfl, hc1'⟩ := own_slice ho1
                  have HO1 := Lib.hid (own_weaken (base' := wr.heap.size) ho1 Ext.out.size)
                  have X2 : Ext wr w2 := inferInstance
                  have X3 : Ext (wr.alloc (.cells #[.int .i64 t, .slice VA vn vc] 76)) w2 := inferInstance
                  clear ho1 hb1 hc1')
               | (refine step_append (w.alloc (.cells cf 25)).heap.size rfl (.tmp 44) (.tmp 51) 26 76 (.agg #[.int .i64 0, .slice none 0 0]) 2 32 rfl Try.underlying26 info_opt rfl (by decide) (by decide) (.slice L us.length cl) us.length (flat us) _ 1 1 [.int .i64 t, .slice A1 vn c1] rfl rfl rfl ?d1 ?d0 ?d2 ?d3 ?d4 ?_
                  (case d1 => exact flat_one [⟨t, A1, vn, c1, []⟩])
                  (case d0 => exact own_ext HO.out.1)
                  (case d2 => exact cells_box w2 _ rfl [.int .i64 t, .slice A1 vn c1] _)
                  (case d3 => exact (Ext.out (w := w.alloc (.cells cf 25))).size)
                  (case d4 => omega)
                  intro v2 w3 ho2 hg2 hat2
                  obtain ⟨r0, HB3⟩ := HARM.out _ _ inferInstance hg2
                  obtain ⟨A2, c2, rfl, hc2'⟩ := own_slice ho2
                  have HO2 := Lib.hid (OptsOwn.push (W := wr) (u := ⟨t, A1, vn, c1, xs⟩) HO.out HB.out.size inferInstance (own_ext HO1.out) ⟨GV.out.1, GV.out.2.2.1, GV.out.2.2.2.1⟩ ho2 hg2 (hat2.imp_right fun h => ⟨_, h, Nat.le_refl _⟩))
                  clear ho2 hg2 hat2 hc2'))
            all_goals go_wp2
            all_goals
              refine ⟨⟨k + 1, us ++ [⟨t, A1, vn, c1, xs⟩], false, N, by go_num, rfl, rfl, by omega, by simp; omega, HO2, ?_, HB3.out⟩, by simp [intOf]; omega⟩
              show _ = _
              rw [HS.out, List.map_append]
              rfl
      · have ht : t = 1 := by unfold idOk at hI; simp at hI; exact hI.1
        subst ht
        have HI := Lib.hid hI
        clear hI
        cases M with
        | true =>
          have HBad : Hid (jBad mine true (1, xs) = true) := jBad_met _ _
          have HTT : Hid True := trivial
          have HS : Hid (jF mine ((vs.map OV.opt).take (k + 1)) = (us.map OV.opt ++ [(1, xs)], true, N)) := by
            unfold Hid
            rw [HT.out, jF_snoc, HE.out]
            unfold jStep
            have hg : jBad mine true (1, xs) = true := HBad.out
            have ht := HTT.out
            simp [OV.opt, hg, ht]
          have HARM : Hid (∀ W w1, Ext (wr.alloc (.cells #[.int .i64 1, .slice VA vn vc] 76)) W → W.grownBy w1 (Value.slice L us.length cl).ownBlock → w1.cell? ⟨wr.heap.size, 0, none⟩ = some (.int .i64 1) ∧ Hid (Below (w.alloc (.cells cf 25)).heap.size (w.alloc (.cells cf 25)) w1)) := by
            intro W w1 hW hg
            have h0 := at_ext (w' := W) (at_new wr (.cells #[.int .i64 1, .slice VA vn vc] 76))
            have h1 := (hg.block wr.heap.size (at_lt h0) (fun he => by have := own_lt HO.out.1 _ he.symm; omega)).trans h0
            have hz : Ext (w.alloc (.cells cf 25)) W := Ext.trans_ inferInstance hW
            exact ⟨at_cell h1 0, below_grown hz.out hz.out.size hg (own_base HO.out.1)⟩
          go_wp2_with fail
          refine (askedId_any 1 VA vn vc xs GV.out.1 GV.out.2.2.2.1 _ (by exact GV.out.2.2.2.2.ext)).mono ?_
          rintro e w1 ⟨rfl, hb1⟩
          have S1 : Step w1 _ := ⟨hb1⟩
          rw [HI.out]
          have P0 := at_ext (w' := w1) (at_new wr (.cells #[.int .i64 1, .slice VA vn vc] 76))
          have p0 : w1.cell? ⟨wr.heap.size, 0, none⟩ = some (.int .i64 1) := at_cell P0 0
          have p1 : w1.cell? ⟨wr.heap.size, 1, none⟩ = some (.slice VA vn vc) := at_cell P0 1
          have X1 : Ext wr w1 := inferInstance
          clear hb1 P0
          skip
          go_wp2
          go_region_law
            (first
             | (refine step_call ?hg Try.func59 (by kernel_rfl) (by kernel_rfl) #[.tmp 48] #[42] ?ho #[.slice VA vn vc] ?hv (clone_any VA vn vc xs GV.out.1 GV.out.2.2.1 _ ?c1) ?_
                (case hg => rfl)
                (case ho => rfl)
                (case hv => go_simp)
                (case c1 => exact Cells.ext GV.out.2.2.2.2)
                rintro e w2 ⟨v1, rfl, ho1, hb1⟩
                refine ⟨v1, rfl, ?_⟩
                have S2 : Step w2 _ := ⟨hb1⟩
                have q0 : w2.cell? ⟨wr.heap.size, 0, none⟩ = some (.int .i64 1) := cell_ext p0
                obtain ⟨A1, c1, rfl, hc1'⟩ := own_slice ho1
                have HO1 := Lib.hid (own_weaken (base' := wr.heap.size) ho1 Ext.out.size)
                have X2 : Ext wr w2 := inferInstance
                have X3 : Ext (wr.alloc (.cells #[.int .i64 1, .slice VA vn vc] 76)) w2 := inferInstance
                clear ho1 hb1 hc1')
             | (refine step_append (w.alloc (.cells cf 25)).heap.size rfl (.tmp 44) (.tmp 51) 26 76 (.agg #[.int .i64 0, .slice none 0 0]) 2 32 rfl Try.underlying26 info_opt rfl (by decide) (by decide) (.slice L us.length cl) us.length (flat us) _ 1 1 [.int .i64 1, .slice A1 vn c1] rfl rfl rfl ?d1 ?d0 ?d2 ?d3 ?d4 ?_
                (case d1 => exact flat_one [⟨1, A1, vn, c1, []⟩])
                (case d0 => exact own_ext HO.out.1)
                (case d2 => exact cells_box w2 _ rfl [.int .i64 1, .slice A1 vn c1] _)
                (case d3 => exact (Ext.out (w := w.alloc (.cells cf 25))).size)
                (case d4 => omega)
                intro v2 w3 ho2 hg2 hat2
                obtain ⟨r0, HB3⟩ := HARM.out _ _ inferInstance hg2
                obtain ⟨A2, c2, rfl, hc2'⟩ := own_slice ho2
                have HO2 := Lib.hid (OptsOwn.push (W := wr) (u := ⟨1, A1, vn, c1, xs⟩) HO.out HB.out.size inferInstance (own_ext HO1.out) ⟨GV.out.1, GV.out.2.2.1, GV.out.2.2.2.1⟩ ho2 hg2 (hat2.imp_right fun h => ⟨_, h, Nat.le_refl _⟩))
                clear ho2 hg2 hat2 hc2'))
          all_goals go_wp2
          all_goals
            refine ⟨⟨k + 1, us ++ [⟨1, A1, vn, c1, xs⟩], true, N, by go_num, rfl, rfl, by omega, by simp; omega, HO2, ?_, HB3.out⟩, by simp [intOf]; omega⟩
            show _ = _
            rw [HS.out, List.map_append]
            rfl
        | false =>
          by_cases h0 : idN (1, xs) = 0
          · by_cases hm0 : mine = 0
            · subst hm0
              have HBad : Hid (jBad 0 false (1, xs) = true) := by unfold Hid jBad; rw [h0]; simp
              have H0 := Lib.hid h0
              clear h0
              have HTT : Hid True := trivial
              have HS : Hid (jF 0 ((vs.map OV.opt).take (k + 1)) = (us.map OV.opt ++ [(1, xs)], true, N)) := by
                unfold Hid
                rw [HT.out, jF_snoc, HE.out]
                unfold jStep
                have hg : jBad 0 false (1, xs) = true := HBad.out
                have ht := HTT.out
                simp [OV.opt, hg, ht]
              have HARM : Hid (∀ W w1, Ext (wr.alloc (.cells #[.int .i64 1, .slice VA vn vc] 76)) W → W.grownBy w1 (Value.slice L us.length cl).ownBlock → w1.cell? ⟨wr.heap.size, 0, none⟩ = some (.int .i64 1) ∧ Hid (Below (w.alloc (.cells cf 25)).heap.size (w.alloc (.cells cf 25)) w1)) := by
                intro W w1 hW hg
                have h0 := at_ext (w' := W) (at_new wr (.cells #[.int .i64 1, .slice VA vn vc] 76))
                have h1 := (hg.block wr.heap.size (at_lt h0) (fun he => by have := own_lt HO.out.1 _ he.symm; omega)).trans h0
                have hz : Ext (w.alloc (.cells cf 25)) W := Ext.trans_ inferInstance hW
                exact ⟨at_cell h1 0, below_grown hz.out hz.out.size hg (own_base HO.out.1)⟩
              go_wp2_with fail
              refine (askedId_any 1 VA vn vc xs GV.out.1 GV.out.2.2.2.1 _ (by exact GV.out.2.2.2.2.ext)).mono ?_
              rintro e w1 ⟨rfl, hb1⟩
              have S1 : Step w1 _ := ⟨hb1⟩
              rw [HI.out]
              have P0 := at_ext (w' := w1) (at_new wr (.cells #[.int .i64 1, .slice VA vn vc] 76))
              have p0 : w1.cell? ⟨wr.heap.size, 0, none⟩ = some (.int .i64 1) := at_cell P0 0
              have p1 : w1.cell? ⟨wr.heap.size, 1, none⟩ = some (.slice VA vn vc) := at_cell P0 1
              have X1 : Ext wr w1 := inferInstance
              clear hb1 P0
              rw [H0.out]
              go_wp2
              go_region_law
                (first
                 | (refine step_call ?hg Try.func59 (by kernel_rfl) (by kernel_rfl) #[.tmp 48] #[42] ?ho #[.slice VA vn vc] ?hv (clone_any VA vn vc xs GV.out.1 GV.out.2.2.1 _ ?c1) ?_
                    (case hg => rfl)
                    (case ho => rfl)
                    (case hv => go_simp)
                    (case c1 => exact Cells.ext GV.out.2.2.2.2)
                    rintro e w2 ⟨v1, rfl, ho1, hb1⟩
                    refine ⟨v1, rfl, ?_⟩
                    have S2 : Step w2 _ := ⟨hb1⟩
                    have q0 : w2.cell? ⟨wr.heap.size, 0, none⟩ = some (.int .i64 1) := cell_ext p0
                    obtain ⟨A1, c1, rfl, hc1'⟩ := own_slice ho1
                    have HO1 := Lib.hid (own_weaken (base' := wr.heap.size) ho1 Ext.out.size)
                    have X2 : Ext wr w2 := inferInstance
                    have X3 : Ext (wr.alloc (.cells #[.int .i64 1, .slice VA vn vc] 76)) w2 := inferInstance
                    clear ho1 hb1 hc1')
                 | (refine step_append (w.alloc (.cells cf 25)).heap.size rfl (.tmp 44) (.tmp 51) 26 76 (.agg #[.int .i64 0, .slice none 0 0]) 2 32 rfl Try.underlying26 info_opt rfl (by decide) (by decide) (.slice L us.length cl) us.length (flat us) _ 1 1 [.int .i64 1, .slice A1 vn c1] rfl rfl rfl ?d1 ?d0 ?d2 ?d3 ?d4 ?_
                    (case d1 => exact flat_one [⟨1, A1, vn, c1, []⟩])
                    (case d0 => exact own_ext HO.out.1)
                    (case d2 => exact cells_box w2 _ rfl [.int .i64 1, .slice A1 vn c1] _)
                    (case d3 => exact (Ext.out (w := w.alloc (.cells cf 25))).size)
                    (case d4 => omega)
                    intro v2 w3 ho2 hg2 hat2
                    obtain ⟨r0, HB3⟩ := HARM.out _ _ inferInstance hg2
                    obtain ⟨A2, c2, rfl, hc2'⟩ := own_slice ho2
                    have HO2 := Lib.hid (OptsOwn.push (W := wr) (u := ⟨1, A1, vn, c1, xs⟩) HO.out HB.out.size inferInstance (own_ext HO1.out) ⟨GV.out.1, GV.out.2.2.1, GV.out.2.2.2.1⟩ ho2 hg2 (hat2.imp_right fun h => ⟨_, h, Nat.le_refl _⟩))
                    clear ho2 hg2 hat2 hc2'))
              all_goals go_wp2
              all_goals
                refine ⟨⟨k + 1, us ++ [⟨1, A1, vn, c1, xs⟩], true, N, by go_num, rfl, rfl, by omega, by simp; omega, HO2, ?_, HB3.out⟩, by simp [intOf]; omega⟩
                show _ = _
                rw [HS.out, List.map_append]
                rfl
            · have HG : Hid (jBad mine false (1, xs) = false) := by unfold Hid jBad; rw [HI.out]; simp [hm0]
              have hmm : (mine == 0) = false := by simpa using hm0
              have H0 := Lib.hid h0
              clear h0 hm0
              have HS : Hid (jF mine ((vs.map OV.opt).take (k + 1)) = (us.map OV.opt, true, idN (1, xs))) := by
                unfold Hid
                rw [HT.out, jF_snoc, HE.out]
                unfold jStep
                have hg : jBad mine false (1, xs) = false := HG.out
                have ht : (1 : Int) = 1 := rfl
                simp [OV.opt, hg, ht]
              go_wp2_with fail
              refine (askedId_any 1 VA vn vc xs GV.out.1 GV.out.2.2.2.1 _ (by exact GV.out.2.2.2.2.ext)).mono ?_
              rintro e w1 ⟨rfl, hb1⟩
              have S1 : Step w1 _ := ⟨hb1⟩
              rw [HI.out]
              have P0 := at_ext (w' := w1) (at_new wr (.cells #[.int .i64 1, .slice VA vn vc] 76))
              have p0 : w1.cell? ⟨wr.heap.size, 0, none⟩ = some (.int .i64 1) := at_cell P0 0
              have X1 : Ext wr w1 := inferInstance
              have hy0 : (1 : Int) = 1 := rfl
              clear hb1 P0
              rw [H0.out] at HS ⊢
              go_wp2
              go_roundw
              case rel => exact ⟨k + 1, us, true, _, by go_num, rfl, rfl, by omega, by omega, HO.out.ext, HS.out, Ext.out⟩
              case measure => simp [intOf]; omega
          · have HG : Hid (jBad mine false (1, xs) = false) := by unfold Hid jBad; rw [HI.out]; simp [h0]
            have h00 : (idN (1, xs) == 0) = false := by simpa using h0
            clear h0
            have HS : Hid (jF mine ((vs.map OV.opt).take (k + 1)) = (us.map OV.opt, true, idN (1, xs))) := by
              unfold Hid
              rw [HT.out, jF_snoc, HE.out]
              unfold jStep
              have hg : jBad mine false (1, xs) = false := HG.out
              have ht : (1 : Int) = 1 := rfl
              simp [OV.opt, hg, ht]
            go_wp2_with fail
            refine (askedId_any 1 VA vn vc xs GV.out.1 GV.out.2.2.2.1 _ (by exact GV.out.2.2.2.2.ext)).mono ?_
            rintro e w1 ⟨rfl, hb1⟩
            have S1 : Step w1 _ := ⟨hb1⟩
            rw [HI.out]
            have P0 := at_ext (w' := w1) (at_new wr (.cells #[.int .i64 1, .slice VA vn vc] 76))
            have p0 : w1.cell? ⟨wr.heap.size, 0, none⟩ = some (.int .i64 1) := at_cell P0 0
            have X1 : Ext wr w1 := inferInstance
            have hy0 : (1 : Int) = 1 := rfl
            clear hb1 P0
            generalize idN (1, xs) = N2 at *
            go_wp2
            go_roundw
            case rel => exact ⟨k + 1, us, true, _, by go_num, rfl, rfl, by omega, by omega, HO.out.ext, HS.out, Ext.out⟩
            case measure => simp [intOf]; omega
    · obtain rfl : n = k := by omega
      have hJ := HE.out
      rw [List.take_of_length_le (by rw [List.length_map, Hn.out]; omega)] at hJ
      have hOW : OptsOwn wr w.heap.size (.slice L us.length cl) us := HO.out.weaken (by simp)
      have HOW := Lib.hid hOW
      by_cases hu0 : 0 < us.length
      · have HJ : Hid (judgeF mine naks maxf draw (vs.map OV.opt) = (4, us.map OV.opt)) := by
          unfold Hid judgeF
          rw [hJ]
          have : us.map OV.opt ≠ [] := by intro h; have := congrArg List.length h; simp at this; subst this; simp at hu0
          simp only [ne_eq, this, not_false_iff, if_true]
        have hu1 : (0 : Int) < (us.length : Int) := by omega
        clear hJ hOW
        go_wp2
        go_ret2
        exact judge_of HJ.out HOW.out rfl Ext.out
      · have hus : us = [] := List.eq_nil_of_length_eq_zero (by omega)
        subst hus
        have hfine := jF_fine (mine := mine) (os := vs.map OV.opt) (by rw [hJ]; rfl)
        rw [hJ] at hfine
        clear hu0 hOW
        have hmf : wr.cell? ⟨w.heap.size, 21, none⟩ = some (.int .i64 maxf) := by
          have h1 := at_cell (at_ext (w' := wr) (at_new w (.cells cf 25))) 21
          rw [h1]
          exact HCF.out
        have HGv := Lib.hid (givF_good HDr.out HM.out)
        rcases hfine with ⟨hnil, heq⟩ | ⟨o, hone, hok, hne, heq⟩
        · simp only [Prod.mk.injEq] at heq
          obtain ⟨_, rfl, rfl⟩ := heq
          by_cases hk0 : naks = 0
          · subst hk0
            have HJ : Hid (judgeF mine 0 maxf draw (vs.map OV.opt) = (3, [(1, be (givF draw mine) 8)])) := by unfold Hid judgeF; rw [hJ]; simp
            clear hJ hnil
            go_wp2_with fail
            refine (given_any draw mine HDr.out.1 HDr.out.2 HM.out.1 HM.out.2 _).mono ?_
            rintro e w1 ⟨rfl, rfl⟩
            go_wp2_with fail
            refine (opts17_any _ HGv.out.1.1 HGv.out.1.2 _).mono ?_
            rintro e w2 ⟨v, us2, rfl, ho2, hu2, hb2⟩
            have S2 : Step w2 _ := ⟨hb2⟩
            have HO2 := Lib.hid (OptsOwn.weaken (b' := w.heap.size) Y0.out.size ho2)
            have HU2 := Lib.hid hu2
            clear ho2 hu2 hb2
            go_wp2
            go_ret2
            exact judge_of HJ.out HO2.out HU2.out Ext.out
          · have hk0' : (naks == 0) = false := by simpa using hk0
            have HJ : Hid (judgeF mine naks maxf draw (vs.map OV.opt) = (2, vs.map OV.opt)) := by unfold Hid judgeF; rw [hJ]; simp [hk0]
            clear hJ hnil hk0
            go_wp2_with fail
            refine (without_any A none n c 0 0 vs [] Hn.out rfl hn' (by omega) _ (by exact HX.out.ext) (by exact GX.out.ext) (by exact Cells.nil_ _ _)).mono ?_
            rintro e w2 ⟨v, us2, rfl, ho2, hu2, hb2⟩
            have S2 : Step w2 _ := ⟨hb2⟩
            have HO2 := Lib.hid (OptsOwn.weaken (b' := w.heap.size) Y0.out.size ho2)
            have HU2 : Hid (us2.map OV.opt = vs.map OV.opt) := by unfold Hid; rw [hu2]; simp [withoutF, hasK]
            clear ho2 hu2 hb2
            go_wp2
            go_ret2
            exact judge_of HJ.out HO2.out HU2.out Ext.out
        · simp only [Prod.mk.injEq] at heq
          obtain ⟨_, rfl, rfl⟩ := heq
          generalize idN o = N at *
          clear hone hok
          by_cases h0 : N = 0
          · subst h0
            clear hne
            by_cases hk : naks < maxf
            · have HJ : Hid (judgeF mine naks maxf draw (vs.map OV.opt) = (3, [(1, be (givF draw mine) 8)])) := by unfold Hid judgeF; rw [hJ]; simp [hk]
              clear hJ
              go_wp2_with fail
              refine (given_any draw mine HDr.out.1 HDr.out.2 HM.out.1 HM.out.2 _).mono ?_
              rintro e w1 ⟨rfl, rfl⟩
              go_wp2_with fail
              refine (opts17_any _ HGv.out.1.1 HGv.out.1.2 _).mono ?_
              rintro e w2 ⟨v, us2, rfl, ho2, hu2, hb2⟩
              have S2 : Step w2 _ := ⟨hb2⟩
              have HO2 := Lib.hid (OptsOwn.weaken (b' := w.heap.size) Y0.out.size ho2)
              have HU2 := Lib.hid hu2
              clear ho2 hu2 hb2
              go_wp2
              go_ret2
              exact judge_of HJ.out HO2.out HU2.out Ext.out
            · have HJ : Hid (judgeF mine naks maxf draw (vs.map OV.opt) = (4, vs.map OV.opt)) := by unfold Hid judgeF; rw [hJ]; simp [hk]
              clear hJ
              go_wp2_with fail
              refine (without_any A none n c 0 0 vs [] Hn.out rfl hn' (by omega) _ (by exact HX.out.ext) (by exact GX.out.ext) (by exact Cells.nil_ _ _)).mono ?_
              rintro e w2 ⟨v, us2, rfl, ho2, hu2, hb2⟩
              have S2 : Step w2 _ := ⟨hb2⟩
              have HO2 := Lib.hid (OptsOwn.weaken (b' := w.heap.size) Y0.out.size ho2)
              have HU2 : Hid (us2.map OV.opt = vs.map OV.opt) := by unfold Hid; rw [hu2]; simp [withoutF, hasK]
              clear ho2 hu2 hb2
              go_wp2
              go_ret2
              exact judge_of HJ.out HO2.out HU2.out Ext.out
          · have h00 : (N == 0) = false := by simpa using h0
            by_cases hm0 : N = mine
            · obtain rfl : mine = N := hm0.symm
              clear hne
              by_cases hk : naks < maxf
              · have HJ : Hid (judgeF mine naks maxf draw (vs.map OV.opt) = (3, [(1, be (givF draw mine) 8)])) := by unfold Hid judgeF; rw [hJ]; simp [hk]
                clear hJ
                go_wp2_with fail
                refine (given_any draw mine HDr.out.1 HDr.out.2 HM.out.1 HM.out.2 _).mono ?_
                rintro e w1 ⟨rfl, rfl⟩
                go_wp2_with fail
                refine (opts17_any _ HGv.out.1.1 HGv.out.1.2 _).mono ?_
                rintro e w2 ⟨v, us2, rfl, ho2, hu2, hb2⟩
                have S2 : Step w2 _ := ⟨hb2⟩
                have HO2 := Lib.hid (OptsOwn.weaken (b' := w.heap.size) Y0.out.size ho2)
                have HU2 := Lib.hid hu2
                clear ho2 hu2 hb2
                go_wp2
                go_ret2
                exact judge_of HJ.out HO2.out HU2.out Ext.out
              · have HJ : Hid (judgeF mine naks maxf draw (vs.map OV.opt) = (4, vs.map OV.opt)) := by unfold Hid judgeF; rw [hJ]; simp [hk]
                clear hJ
                go_wp2_with fail
                refine (without_any A none n c 0 0 vs [] Hn.out rfl hn' (by omega) _ (by exact HX.out.ext) (by exact GX.out.ext) (by exact Cells.nil_ _ _)).mono ?_
                rintro e w2 ⟨v, us2, rfl, ho2, hu2, hb2⟩
                have S2 : Step w2 _ := ⟨hb2⟩
                have HO2 := Lib.hid (OptsOwn.weaken (b' := w.heap.size) Y0.out.size ho2)
                have HU2 : Hid (us2.map OV.opt = vs.map OV.opt) := by unfold Hid; rw [hu2]; simp [withoutF, hasK]
                clear ho2 hu2 hb2
                go_wp2
                go_ret2
                exact judge_of HJ.out HO2.out HU2.out Ext.out
            · have hm1 : (N == mine) = false := by simpa using hm0
              have HJ : Hid (judgeF mine naks maxf draw (vs.map OV.opt) = (2, vs.map OV.opt)) := by unfold Hid judgeF; rw [hJ]; simp [h0, hm0]
              clear hJ hne h0 hm0
              go_wp2_with fail
              refine (without_any A none n c 0 0 vs [] Hn.out rfl hn' (by omega) _ (by exact HX.out.ext) (by exact GX.out.ext) (by exact Cells.nil_ _ _)).mono ?_
              rintro e w2 ⟨v, us2, rfl, ho2, hu2, hb2⟩
              have S2 : Step w2 _ := ⟨hb2⟩
              have HO2 := Lib.hid (OptsOwn.weaken (b' := w.heap.size) Y0.out.size ho2)
              have HU2 : Hid (us2.map OV.opt = vs.map OV.opt) := by unfold Hid; rw [hu2]; simp [withoutF, hasK]
              clear ho2 hu2 hb2
              go_wp2
              go_ret2
              exact judge_of HJ.out HO2.out HU2.out Ext.out
end Go.Proofs.Ytmopdimokoogmaa
