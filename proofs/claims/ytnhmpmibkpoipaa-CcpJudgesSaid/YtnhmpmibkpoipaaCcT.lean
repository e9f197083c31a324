/-
  The reference's Judge (ccp). Conditions: the list is no longer than the model's memory.
-/
import Derived.Test.YtnhmpmibkpoipaaCcS
namespace Go.Proofs.Ytnhmpmibkpoipaa
open Go.RowKit
set_option linter.unusedVariables false
set_option linter.unusedSimpArgs false

/-- A list that is handed back: the very list that came in, or one of the call's own whose options came in or are its own. -/
def RList (w : World) (B : Nat) (A : Option Addr) (n c : Nat) (vs : List OV) (v : Value) (us : List OV) : Prop :=
  (v = .slice A n c ∧ us = vs) ∨ (w.ownsRow B 109 2 v us.length (flat us) ∧ ∀ u ∈ us, u ∈ vs ∨ (w.ownsRow B 5 1 (.slice u.A u.n u.c) u.n (nums .u8 u.d) ∧ u.d.length = u.n ∧ u.n ≤ 140737488355300 ∧ Byt u.d))
section
variable {w w' : World} {B E : Nat} {A : Option Addr} {n c : Nat} {vs us : List OV} {v : Value}
theorem RList.ext [h : Ext w w'] (k : RList w B A n c vs v us) : RList w' B A n c vs v us :=
  k.imp id fun ⟨k1, k2⟩ => ⟨own_ext k1, fun u hu => (k2 u hu).imp id fun ⟨k3, k4⟩ => ⟨own_ext k3, k4⟩⟩
theorem RList.above (k : RList w B A n c vs v us) (ha : Above E w w') (hE : E ≤ B) : RList w' B A n c vs v us :=
  k.imp id fun ⟨k1, k2⟩ => ⟨own_above k1 ha hE, fun u hu => (k2 u hu).imp id fun ⟨k3, k4⟩ => ⟨own_above k3 ha hE, k4⟩⟩
theorem RList.tells (k : RList w B A n c vs v us) (hn : vs.length = n) (hx : Cells w A (flat vs)) (gx : Good w vs) : ∃ A' c', v = .slice A' us.length c' ∧ Cells w A' (flat us) ∧ Good w us := by
  rcases k with ⟨rfl, rfl⟩ | ⟨k1, k2⟩
  · exact ⟨A, c, by rw [hn], hx, gx⟩
  · obtain ⟨A', c', rfl, _⟩ := own_slice k1
    refine ⟨A', c', rfl, own_cells k1, fun u hu => ?_⟩
    rcases k2 u hu with h | ⟨h, h1, h2, h3⟩
    · exact gx u h
    · obtain ⟨A2, c2, he, hc⟩ := own_slice h
      injection he with _ _ he
      exact ⟨h1, by omega, h2, h3, own_cells h⟩
end
def RJudge22 (J : Int × OL) (A : Option Addr) (n c : Nat) (vs : List OV) (w : World) (e : Ending) (w' : World) : Prop :=
  ∃ v us, e = .returned (.tuple #[.int .i64 J.1, v]) ∧ RList w' w.heap.size A n c vs v us ∧ us.map OV.opt = J.2 ∧ Below w.heap.size w w'
theorem rjudge22_of {J : Int × OL} {a : Int} {os : OL} {A : Option Addr} {n c : Nat} {vs us : List OV} {w w' : World} {v : Value} (h : J = (a, os)) (hv : RList w' w.heap.size A n c vs v us) (hu : us.map OV.opt = os) (hb : Below w.heap.size w w') : RJudge22 J A n c vs w (.returned (.tuple #[.int .i64 a, v])) w' := by
  subst h
  exact ⟨v, us, rfl, hv, hu, hb⟩
set_option maxRecDepth 100000 in
set_option maxHeartbeats 8000000 in
theorem rjudge22_any (cf : Array Value) (df bs maxf naks : Int) (A : Option Addr) (n c : Nat) (vs : List OV) (hsz : (Try.prog.info? 39).map (·.size) = some cf.size) (hdf : cf[16]? = some (.int .i64 df)) (hbs : cf[17]? = some (.int .i64 bs)) (hmf : cf[21]? = some (.int .i64 maxf)) (hn : vs.length = n) (hn' : n ≤ 4398046511104) (hnc : n ≤ c)
    (w : World) (hx : Cells w A (flat vs)) (gx : Good w vs) :
    Calls Try.prog 32 #[.agg cf, .slice A n c, .int .i64 naks] w (RJudge22 (judgeC df bs maxf naks (vs.map OV.opt)) A n c vs w) := by
  have Hn := Lib.hid hn
  have HX := Lib.hid hx
  have GX := Lib.hid gx
  have HSZ := Lib.hid hsz
  have HDF := Lib.hid hdf
  have HBS := Lib.hid hbs
  have HMF := Lib.hid hmf
  have HG := Lib.hid (at_new w (.cells cf 39))
  obtain ⟨R, hR⟩ : ∃ R, jRun df bs [] (vs.map OV.opt) ([], [], []) = R := ⟨_, rfl⟩
  have HR := Lib.hid hR
  obtain ⟨J, hJ⟩ : ∃ J, judgeC df bs maxf naks (vs.map OV.opt) = J := ⟨_, rfl⟩
  rw [hJ]
  unfold judgeC at hJ
  simp only [hR] at hJ
  have HJ := Lib.hid hJ
  clear hn hx gx hsz hdf hbs hmf hR hJ
  go_enter Try.func32, Try.ntmps32
  go_wp2
  go_loopw [8, 9, 10, 17] (fun b o s i wr => ∃ (k : Nat) (bvs us zs : List OV), i = .int .i64 k ∧ k ≤ n ∧ bvs.length ≤ k ∧ us.length ≤ k ∧ zs.length ≤ k ∧ Hid (Sep3 wr (w.alloc (.cells cf 39)).heap.size b o s bvs us zs) ∧ Hid (jRun df bs ((vs.map OV.opt).take k) ((vs.map OV.opt).drop k) (bvs.map OV.opt, us.map OV.opt, zs.map OV.opt) = R) ∧ Hid ((∀ v ∈ bvs, v ∈ vs) ∧ ∀ v ∈ zs, v ∈ vs) ∧ Hid (Ext (w.alloc (.cells cf 39)) wr)) (fun _ _ _ i _ => n - (intOf i).toNat)
  case atStart => exact ⟨0, [], [], [], rfl, by omega, by simp, by simp, by simp, Sep3.nil_ _ _, HR.out, ⟨by simp, by simp⟩, Ext.refl_ _⟩
  case round =>
    obtain ⟨k, bvs, us, zs, rfl, hk, hlb, hlu, hlz, HS3, HRK, HM, HXR⟩ := hrel
    have XR : Ext (w.alloc (.cells cf 39)) wr := HXR.out
    have YR : Ext w wr := Ext.trans_ inferInstance XR
    obtain ⟨Lb, cb, rfl, hcb⟩ := own_slice HS3.out.1.1
    obtain ⟨Lo, co, rfl, hco⟩ := own_slice HS3.out.1.2.1.1
    obtain ⟨Lz, cz, rfl, hcz⟩ := own_slice HS3.out.1.2.2
    by_cases hlt : k < n
    · obtain ⟨v, hv, hvm⟩ := optD (vs := vs) (k := k) (by rw [Hn.out]; exact hlt)
      obtain ⟨ad, rfl, hc0, hc1⟩ := opt_at (HX.out.ext (w' := wr)) hv
      have GV := Lib.hid (GX.out v hvm)
      have HV : Hid ((vs.map OV.opt)[k]? = some v.opt) := by unfold Hid; rw [List.getElem?_map, hv]; rfl
      have HVK := Lib.hid hv
      have HVM := Lib.hid hvm
      have HRS := Lib.hid (jRun_step HRK.out HV.out)
      clear hv hvm
      obtain ⟨t, VA, vn, vc, xs⟩ := v
      simp only at hc0 hc1
      rcases hbn : borneR df bs (t, xs) with _ | _
      · have hbf : borneF df bs ((vs.map OV.opt).take k) (OV.opt ⟨t, VA, vn, vc, xs⟩) = false := by rw [borneF_R]; show (_ && borneR df bs (t, xs)) = false; rw [hbn]; simp
        have HBN := Lib.hid hbn
        have HRN := HRS.out
        rw [jUpd_bad hbf] at HRN
        have HRN := Lib.hid HRN
        clear hbn hbf HRS
        go_wp2_with
          (first
           | (refine wpList_load_row rfl 39 (.tmp 3) rfl w.heap.size rfl 39 cf (0, 0) _ (at_ext HG.out) Try.underlying39 rfl HSZ.out ?_)
           | (refine wpList_load_row rfl 109 (.tmp 12) rfl wr.heap.size rfl 109 #[.int .i64 t, .slice VA vn vc] (0, 0) _ (at_ext (at_new wr (.cells #[.int .i64 t, .slice VA vn vc] 109))) Try.underlying109 rfl (by kernel_rfl) ?_))
        refine (rborne22_any cf df bs t VA vn vc xs HDF.out HBS.out GV.out.1 _).mono ?_
        rintro e w1 ⟨rfl, hb1⟩
        rw [HBN.out]
        have S1 : Step w1 _ := ⟨hb1⟩
        have HP := Lib.hid (at_ext (w' := w1) (at_new wr (.cells #[.int .i64 t, .slice VA vn vc] 109)))
        have p0 : w1.cell? ⟨wr.heap.size, 0, none⟩ = some (.int .i64 t) := at_cell HP.out 0
        have p1 : w1.cell? ⟨wr.heap.size, 1, none⟩ = some (.slice VA vn vc) := at_cell HP.out 1
        clear hb1
        go_wp2_with
          (at_builtin
           refine wp_append_box (w0 := w.alloc (.cells cf 39)) (w.alloc (.cells cf 39)).heap.size rfl (.tmp 31) (.tmp 33) 35 109 (.agg #[.int .i64 0, .slice none 0 0]) 2 32 1 rfl Try.underlying35 info_opt rfl (by decide) (by decide) (.slice Lb bvs.length cb) bvs.length (flat bvs) [.int .i64 t, .slice VA vn vc] rfl rfl rfl (flat_one [⟨t, VA, vn, vc, []⟩]) (own_ext HS3.out.1.1) Ext.out Ext.out.size (by omega) ?_
           intro v4 w4 ho4 hb4 hg4 hat4
           have HS4 := Lib.hid (Sep3.bad (v := ⟨t, VA, vn, vc, xs⟩) (HS3.out.ext (w' := w1)) (Ext.refl_ w1) ho4 hg4 hat4)
           have X4 : Ext (w.alloc (.cells cf 39)) w4 := ⟨hb4⟩
           clear ho4 hb4 hg4 hat4)
        go_roundw
        case rel =>
          refine ⟨k + 1, (bvs ++ [(⟨t, VA, vn, vc, xs⟩ : OV)]), us, zs, by go_num, by omega, by (simp; omega), by omega, by omega, HS4.out, by (rw [List.map_append]; exact HRN.out), by (exact ⟨fun v hv => (List.mem_append.1 hv).elim (HM.out.1 v) fun h => by rw [List.mem_singleton.1 h]; exact HVM.out, HM.out.2⟩), (inferInstance : Ext _ _)⟩
        case measure => simp [intOf]; omega
      rcases hT : hasT ((vs.map OV.opt).take k) t with _ | _
      · have hbf : borneF df bs ((vs.map OV.opt).take k) (OV.opt ⟨t, VA, vn, vc, xs⟩) = true := by rw [borneF_R]; show (!hasT ((vs.map OV.opt).take k) t && borneR df bs (t, xs)) = true; rw [hbn, hT]; rfl
        have HBN := Lib.hid hbn
        have HT := Lib.hid hT
        have hk2 : t = 26 ∨ t = 21 := borneF_kind hbf
        rcases hy : othF df bs (t, xs) with _ | y
        · have HRN := HRS.out
          rw [jUpd_ok hbf hy] at HRN
          have HRN := Lib.hid HRN
          have HK2 := Lib.hid hk2
          have HY := Lib.hid hy
          clear hbn hbf HRS hT hk2 hy
          go_wp2_with
            (first
             | (refine wpList_load_row rfl 39 (.tmp 3) rfl w.heap.size rfl 39 cf (0, 0) _ (at_ext HG.out) Try.underlying39 rfl HSZ.out ?_)
             | (refine wpList_load_row rfl 109 (.tmp 12) rfl wr.heap.size rfl 109 #[.int .i64 t, .slice VA vn vc] (0, 0) _ (at_ext (at_new wr (.cells #[.int .i64 t, .slice VA vn vc] 109))) Try.underlying109 rfl (by kernel_rfl) ?_))
          refine (rborne22_any cf df bs t VA vn vc xs HDF.out HBS.out GV.out.1 _).mono ?_
          rintro e w1 ⟨rfl, hb1⟩
          rw [HBN.out]
          have S1 : Step w1 _ := ⟨hb1⟩
          have HP := Lib.hid (at_ext (w' := w1) (at_new wr (.cells #[.int .i64 t, .slice VA vn vc] 109)))
          have p0 : w1.cell? ⟨wr.heap.size, 0, none⟩ = some (.int .i64 t) := at_cell HP.out 0
          have p1 : w1.cell? ⟨wr.heap.size, 1, none⟩ = some (.slice VA vn vc) := at_cell HP.out 1
          clear hb1
          go_wp2_with fail
          refine (twice22_any (some ad) n c k vs _ Hn.out hn' hnc HVK.out _ (by exact HX.out.ext)).mono ?_
          rintro e w2 ⟨rfl, hb2⟩
          rw [HT.out]
          have S2 : Step w2 _ := ⟨hb2⟩
          have HP := Lib.hid (at_ext (w' := w2) HP.out)
          have p0 : w2.cell? ⟨wr.heap.size, 0, none⟩ = some (.int .i64 t) := at_cell HP.out 0
          have p1 : w2.cell? ⟨wr.heap.size, 1, none⟩ = some (.slice VA vn vc) := at_cell HP.out 1
          clear hb2
          go_wp2_with
            (refine wpList_load_row rfl 39 (.tmp 3) rfl w.heap.size rfl 39 cf (0, 0) _ (at_ext HG.out) Try.underlying39 rfl HSZ.out ?_)
          refine (rother22_no cf df bs t VA vn vc xs HDF.out HBS.out GV.out.1 GV.out.2.2.2.1 HK2.out HY.out _ (by exact GV.out.2.2.2.2.ext)).mono ?_
          rintro e w3 ⟨rfl, hb3⟩
          have S3 : Step w3 _ := ⟨hb3⟩
          clear hb3 p0 p1
          go_wp2
          go_roundw
          case rel =>
            refine ⟨k + 1, bvs, us, zs, by go_num, by omega, by omega, by omega, by omega, HS3.out.ext, by (exact HRN.out), by (exact HM.out), (inferInstance : Ext _ _)⟩
          case measure => simp [intOf]; omega
        · have HRN := HRS.out
          rw [jUpd_oth hbf hy] at HRN
          have HRN := Lib.hid HRN
          have HY := Lib.hid hy
          have HYB : Hid (y.2.length ≤ 2 ∧ Byt y.2) := by
            rcases hk2 with h | h
            · by_cases hc : saysF (t, xs) = 0 ∨ df < saysF (t, xs)
              · rw [othF_26 h rfl hc] at hy
                injection hy with hy
                subst hy
                exact ⟨by simp, dflB_byt _⟩
              · rw [othF_26n h rfl hc] at hy
                cases hy
            · by_cases hc : saysF (t, xs) = 0 ∨ bs < saysF (t, xs)
              · rw [othF_21 h rfl hc] at hy
                injection hy with hy
                subst hy
                exact ⟨by simp, cmpB_byt _⟩
              · rw [othF_21n h rfl hc] at hy
                cases hy
          clear hbn hbf HRS hT hk2 hy
          go_wp2_with
            (first
             | (refine wpList_load_row rfl 39 (.tmp 3) rfl w.heap.size rfl 39 cf (0, 0) _ (at_ext HG.out) Try.underlying39 rfl HSZ.out ?_)
             | (refine wpList_load_row rfl 109 (.tmp 12) rfl wr.heap.size rfl 109 #[.int .i64 t, .slice VA vn vc] (0, 0) _ (at_ext (at_new wr (.cells #[.int .i64 t, .slice VA vn vc] 109))) Try.underlying109 rfl (by kernel_rfl) ?_))
          refine (rborne22_any cf df bs t VA vn vc xs HDF.out HBS.out GV.out.1 _).mono ?_
          rintro e w1 ⟨rfl, hb1⟩
          rw [HBN.out]
          have S1 : Step w1 _ := ⟨hb1⟩
          have HP := Lib.hid (at_ext (w' := w1) (at_new wr (.cells #[.int .i64 t, .slice VA vn vc] 109)))
          have p0 : w1.cell? ⟨wr.heap.size, 0, none⟩ = some (.int .i64 t) := at_cell HP.out 0
          have p1 : w1.cell? ⟨wr.heap.size, 1, none⟩ = some (.slice VA vn vc) := at_cell HP.out 1
          clear hb1
          go_wp2_with fail
          refine (twice22_any (some ad) n c k vs _ Hn.out hn' hnc HVK.out _ (by exact HX.out.ext)).mono ?_
          rintro e w2 ⟨rfl, hb2⟩
          rw [HT.out]
          have S2 : Step w2 _ := ⟨hb2⟩
          have HP := Lib.hid (at_ext (w' := w2) HP.out)
          have p0 : w2.cell? ⟨wr.heap.size, 0, none⟩ = some (.int .i64 t) := at_cell HP.out 0
          have p1 : w2.cell? ⟨wr.heap.size, 1, none⟩ = some (.slice VA vn vc) := at_cell HP.out 1
          clear hb2
          go_wp2_with
            (refine wpList_load_row rfl 39 (.tmp 3) rfl w.heap.size rfl 39 cf (0, 0) _ (at_ext HG.out) Try.underlying39 rfl HSZ.out ?_)
          refine (rother22_yes cf df bs t y VA vn vc xs HDF.out HBS.out GV.out.1 GV.out.2.2.2.1 HY.out _ (by exact GV.out.2.2.2.2.ext)).mono ?_
          rintro e w3 ⟨A3, m3, c3, rfl, hl3, ho3, hb3⟩
          have S3 : Step w3 _ := ⟨hb3⟩
          obtain ⟨yt, yd⟩ := y
          simp only at hl3 ho3 HYB ⊢
          have HD3 := Lib.hid ho3
          have HL3 := Lib.hid hl3
          have r0 : ∀ o, (w3.alloc o).cell? ⟨wr.heap.size, 0, none⟩ = some (.int .i64 t) := fun o => cell_ext p0
          have r1 : ∀ o, (w3.alloc o).cell? ⟨wr.heap.size, 1, none⟩ = some (.slice VA vn vc) := fun o => cell_ext p1
          have HR0 := Lib.hid (r0 (.cells #[.int .i64 yt, .slice A3 m3 c3] 109))
          have HR1 := Lib.hid (r1 (.cells #[.int .i64 yt, .slice A3 m3 c3] 109))
          clear ho3 hb3 p0 p1 hl3
          go_wp2_with
            (first
             | (at_builtin
                refine wp_append_box2 (w0 := w.alloc (.cells cf 39)) (w3.heap.size + 1) (by simp) (w.alloc (.cells cf 39)).heap.size rfl (.tmp 42) (.tmp 44) 35 109 (.agg #[.int .i64 0, .slice none 0 0]) 2 32 1 rfl Try.underlying35 info_opt rfl (by decide) (by decide) (.slice Lo us.length co) us.length (flat us) [.int .i64 yt, .slice A3 m3 c3] rfl rfl rfl (flat_one [⟨yt, A3, m3, c3, []⟩]) (own_ext HS3.out.1.2.1.1) Ext.out Ext.out.size (by omega) ?_
                intro v4 w4 ho4 hb4 hg4 hat4
                have HS4 := Lib.hid (Sep3.other (u := ⟨yt, A3, m3, c3, yd⟩) (HS3.out.ext (w' := w2)) (size_ext) (inferInstance : Ext w2 (w3.alloc (.cells #[.int .i64 yt, .slice A3 m3 c3] 109))) (own_ext (own_weaken HD3.out (size_ext (w := w2)))) ⟨HL3.out, by show m3 ≤ _; have := HL3.out; have := HYB.out.1; omega, HYB.out.2⟩ ho4 hg4 hat4)
                have X4 : Ext (w.alloc (.cells cf 39)) w4 := ⟨hb4⟩
                have s0 : w4.cell? ⟨wr.heap.size, 0, none⟩ = some (.int .i64 t) := hg4.cell HR0.out (fun he => absurd (own_lt HS3.out.1.2.1.1 _ he.symm) (Nat.lt_irrefl _))
                have s1 : w4.cell? ⟨wr.heap.size, 1, none⟩ = some (.slice VA vn vc) := hg4.cell HR1.out (fun he => absurd (own_lt HS3.out.1.2.1.1 _ he.symm) (Nat.lt_irrefl _))
                clear ho4 hb4 hg4 hat4)
             | (at_builtin
                refine wp_append_box (w0 := w.alloc (.cells cf 39)) (w.alloc (.cells cf 39)).heap.size rfl (.tmp 46) (.tmp 48) 35 109 (.agg #[.int .i64 0, .slice none 0 0]) 2 32 1 rfl Try.underlying35 info_opt rfl (by decide) (by decide) (.slice Lz zs.length cz) zs.length (flat zs) [.int .i64 t, .slice VA vn vc] rfl rfl rfl (flat_one [⟨t, VA, vn, vc, []⟩]) HS4.out.1.2.2 Ext.out Ext.out.size (by omega) ?_
                intro v5 w5 ho5 hb5 hg5 hat5
                have HS5 := Lib.hid (Sep3.good (v := ⟨t, VA, vn, vc, xs⟩) HS4.out (Ext.refl_ w4) ho5 hg5 hat5)
                have X5 : Ext (w.alloc (.cells cf 39)) w5 := ⟨hb5⟩
                clear ho5 hb5 hg5 hat5))
          go_roundw
          case rel =>
            refine ⟨k + 1, bvs, (us ++ [(⟨yt, A3, m3, c3, yd⟩ : OV)]), (zs ++ [(⟨t, VA, vn, vc, xs⟩ : OV)]), by go_num, by omega, by omega, by (simp; omega), by (simp; omega), HS5.out, by (rw [List.map_append, List.map_append]; exact HRN.out), by (exact ⟨HM.out.1, fun v hv => (List.mem_append.1 hv).elim (HM.out.2 v) fun h => by rw [List.mem_singleton.1 h]; exact HVM.out⟩), (inferInstance : Ext _ _)⟩
          case measure => simp [intOf]; omega
      · have hbf : borneF df bs ((vs.map OV.opt).take k) (OV.opt ⟨t, VA, vn, vc, xs⟩) = false := by rw [borneF_R]; show (!hasT ((vs.map OV.opt).take k) t && borneR df bs (t, xs)) = false; rw [hT]; rfl
        have HBN := Lib.hid hbn
        have HT := Lib.hid hT
        have HRN := HRS.out
        rw [jUpd_bad hbf] at HRN
        have HRN := Lib.hid HRN
        clear hbn hbf HRS hT
        go_wp2_with
          (first
           | (refine wpList_load_row rfl 39 (.tmp 3) rfl w.heap.size rfl 39 cf (0, 0) _ (at_ext HG.out) Try.underlying39 rfl HSZ.out ?_)
           | (refine wpList_load_row rfl 109 (.tmp 12) rfl wr.heap.size rfl 109 #[.int .i64 t, .slice VA vn vc] (0, 0) _ (at_ext (at_new wr (.cells #[.int .i64 t, .slice VA vn vc] 109))) Try.underlying109 rfl (by kernel_rfl) ?_))
        refine (rborne22_any cf df bs t VA vn vc xs HDF.out HBS.out GV.out.1 _).mono ?_
        rintro e w1 ⟨rfl, hb1⟩
        rw [HBN.out]
        have S1 : Step w1 _ := ⟨hb1⟩
        have HP := Lib.hid (at_ext (w' := w1) (at_new wr (.cells #[.int .i64 t, .slice VA vn vc] 109)))
        have p0 : w1.cell? ⟨wr.heap.size, 0, none⟩ = some (.int .i64 t) := at_cell HP.out 0
        have p1 : w1.cell? ⟨wr.heap.size, 1, none⟩ = some (.slice VA vn vc) := at_cell HP.out 1
        clear hb1
        go_wp2_with fail
        refine (twice22_any (some ad) n c k vs _ Hn.out hn' hnc HVK.out _ (by exact HX.out.ext)).mono ?_
        rintro e w2 ⟨rfl, hb2⟩
        rw [HT.out]
        have S2 : Step w2 _ := ⟨hb2⟩
        have HP := Lib.hid (at_ext (w' := w2) HP.out)
        have p0 : w2.cell? ⟨wr.heap.size, 0, none⟩ = some (.int .i64 t) := at_cell HP.out 0
        have p1 : w2.cell? ⟨wr.heap.size, 1, none⟩ = some (.slice VA vn vc) := at_cell HP.out 1
        clear hb2
        go_wp2_with
          (at_builtin
           refine wp_append_box (w0 := w.alloc (.cells cf 39)) (w.alloc (.cells cf 39)).heap.size rfl (.tmp 31) (.tmp 33) 35 109 (.agg #[.int .i64 0, .slice none 0 0]) 2 32 1 rfl Try.underlying35 info_opt rfl (by decide) (by decide) (.slice Lb bvs.length cb) bvs.length (flat bvs) [.int .i64 t, .slice VA vn vc] rfl rfl rfl (flat_one [⟨t, VA, vn, vc, []⟩]) (own_ext HS3.out.1.1) Ext.out Ext.out.size (by omega) ?_
           intro v4 w4 ho4 hb4 hg4 hat4
           have HS4 := Lib.hid (Sep3.bad (v := ⟨t, VA, vn, vc, xs⟩) (HS3.out.ext (w' := w2)) (Ext.refl_ w2) ho4 hg4 hat4)
           have X4 : Ext (w.alloc (.cells cf 39)) w4 := ⟨hb4⟩
           clear ho4 hb4 hg4 hat4)
        go_roundw
        case rel =>
          refine ⟨k + 1, (bvs ++ [(⟨t, VA, vn, vc, xs⟩ : OV)]), us, zs, by go_num, by omega, by (simp; omega), by omega, by omega, HS4.out, by (rw [List.map_append]; exact HRN.out), by (exact ⟨fun v hv => (List.mem_append.1 hv).elim (HM.out.1 v) fun h => by rw [List.mem_singleton.1 h]; exact HVM.out, HM.out.2⟩), (inferInstance : Ext _ _)⟩
        case measure => simp [intOf]; omega
    · have hRE := jRun_end HRK.out (by rw [List.length_map, Hn.out]; omega)
      have HJ1 := HJ.out
      rw [hRE] at HJ1
      simp only at HJ1
      have hq : wr.cell? ⟨w.heap.size, 21, none⟩ = some (.int .i64 maxf) := (at_cell (at_ext HG.out) 21).trans HMF.out
      by_cases hb0 : 0 < bvs.length
      · have hb0I : (0 : Int) < (bvs.length : Int) := by omega
        have HJ2 : Hid (J = (4, bvs.map OV.opt)) := by
          rw [if_pos (map_ne hb0)] at HJ1
          exact HJ1.symm
        clear HJ1 hRE
        go_wp2
        go_ret2
        exact rjudge22_of HJ2.out (.inr ⟨own_weaken HS3.out.1.1 (size_ext (w := w)), fun u hu => .inl (HM.out.1 u hu)⟩) rfl Ext.out
      · have hb0I : ¬ (0 : Int) < (bvs.length : Int) := by omega
        rw [if_neg (by intro h; apply h; rw [List.map_eq_nil_iff]; exact List.eq_nil_of_length_eq_zero (by omega))] at HJ1
        by_cases hu0 : 0 < us.length
        · have hu0I : (0 : Int) < (us.length : Int) := by omega
          rw [if_pos (map_ne hu0)] at HJ1
          by_cases hnm : naks < maxf
          · have HJ2 : Hid (J = (3, us.map OV.opt)) := by
              rw [if_pos hnm] at HJ1
              exact HJ1.symm
            clear HJ1 hRE
            go_wp2
            go_ret2
            exact rjudge22_of HJ2.out (.inr ⟨own_weaken HS3.out.1.2.1.1 (size_ext (w := w)), fun u hu => .inr ⟨own_weaken (HS3.out.1.2.1.2.1 u hu) (size_ext (w := w)), HS3.out.1.2.1.2.2.2.2 u hu⟩⟩) rfl Ext.out
          · have HJ2 : Hid (J = (4, zs.map OV.opt)) := by
              rw [if_neg hnm] at HJ1
              exact HJ1.symm
            clear HJ1 hRE
            go_wp2
            go_ret2
            exact rjudge22_of HJ2.out (.inr ⟨own_weaken HS3.out.1.2.2 (size_ext (w := w)), fun u hu => .inl (HM.out.2 u hu)⟩) rfl Ext.out
        · have hu0I : ¬ (0 : Int) < (us.length : Int) := by omega
          have HJ2 : Hid (J = (2, vs.map OV.opt)) := by
            rw [if_neg (by intro h; apply h; rw [List.map_eq_nil_iff]; exact List.eq_nil_of_length_eq_zero (by omega))] at HJ1
            exact HJ1.symm
          clear HJ1 hRE
          go_wp2
          go_ret2
          exact rjudge22_of HJ2.out (.inl ⟨rfl, rfl⟩) rfl Ext.out
end Go.Proofs.Ytnhmpmibkpoipaa
