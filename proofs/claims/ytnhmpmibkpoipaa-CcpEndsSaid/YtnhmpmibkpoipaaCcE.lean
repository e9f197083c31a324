/-
  ccp.Judge at one option that is asked too high; tetherlaw22.awake answers true. No condition.
-/
import Derived.Test.YtnhmpmibkpoipaaCcC
import Derived.Test.YtnhmpmibkpoipaaCcD
import Derived.Test.YtnhmpmibkpoipaaConf
namespace Go.Proofs.Ytnhmpmibkpoipaa
open Go.RowKit
set_option linter.unusedVariables false
set_option linter.unusedSimpArgs false

def JudgeTells22 (r : Int × List (Int × List Int)) (w : World) (e : Ending) (w' : World) : Prop :=
  ∃ v us, e = .returned (.tuple #[.int .i64 r.1, v]) ∧ OptsOwn w' w.heap.size v us ∧ us.map OV.opt = r.2 ∧ Below w.heap.size w w'
set_option maxRecDepth 100000 in
set_option maxHeartbeats 8000000 in
theorem judgeOne22_any (cf : Array Value) (bs : Int) (hsz : (Try.prog.info? 39).map (·.size) = some cf.size) (hdf : cf[16]? = some (.int .i64 12)) (hbs : cf[17]? = some (.int .i64 bs)) (hmf : cf[21]? = some (.int .i64 5))
    (ad : Addr) (c vc : Nat) (VA : Option Addr) (hc : 1 ≤ c) (w : World) (hx : Cells w (some ad) (flat [⟨26, VA, 2, vc, [120, 0]⟩])) (gx : Good w [⟨26, VA, 2, vc, [120, 0]⟩]) :
    Calls Try.prog 31 #[.agg cf, .slice (some ad) 1 c, .int .i64 0] w (JudgeTells22 (3, [(26, [72, 0])]) w) := by
  have HX := Lib.hid hx
  have GX := Lib.hid gx
  have HSZ := Lib.hid hsz
  have HDF := Lib.hid hdf
  have HBS := Lib.hid hbs
  have HMF := Lib.hid hmf
  have HG := Lib.hid (at_new w (.cells cf 39))
  have HBN : Hid (∀ W, Ext w W → Calls Try.prog 79 #[.agg cf, .slice (some ad) 1 c, .int .i64 0] W fun e w' => e = .returned (.bool true) ∧ Below W.heap.size W w') := fun W hW => by
    have h := borne22_any cf 12 bs (some ad) 1 c 0 [⟨26, VA, 2, vc, [120, 0]⟩] ⟨26, VA, 2, vc, [120, 0]⟩ hdf hbs rfl (by omega) hc rfl W hx.ext gx.ext
    have e1 : borneF 12 bs (([⟨26, VA, 2, vc, [120, 0]⟩] : List OV).take 0 |>.map OV.opt) (OV.opt ⟨26, VA, 2, vc, [120, 0]⟩) = true := by
      simp [borneF, hasT, OV.opt]
    rw [e1] at h
    exact h
  have HS : Hid (saysF (26, [120, 0]) = 15) := by unfold Hid; decide
  have HDB : Hid (dflB 12 = 72) := by unfold Hid; decide
  clear hx gx hsz hdf hbs hmf
  go_enter Try.func31, Try.ntmps31
  go_wp2
  go_step3
  go_wp2
  go_step3
  go_wp2
  go_loopw [8, 9, 10, 16] (fun b o s i wr => b = .slice none 0 0 ∧ Hid (Ext (w.alloc (.cells cf 39)) wr) ∧ ((i = .int .i64 0 ∧ o = .slice none 0 0 ∧ s = .slice none 0 0) ∨ ∃ A2 c2 us, i = .int .i64 1 ∧ o = .slice A2 1 c2 ∧ Hid (OptsOwn wr w.heap.size (.slice A2 1 c2) us ∧ us.map OV.opt = [(26, [72, 0])]))) (fun _ _ _ i _ => 1 - (intOf i).toNat)
  case atStart => exact ⟨rfl, Ext.refl_ _, .inl ⟨rfl, rfl, rfl⟩⟩
  case round =>
    obtain ⟨rfl, HXR, hor⟩ := hrel
    have XR : Ext (w.alloc (.cells cf 39)) wr := HXR.out
    have YR : Ext w wr := Ext.trans_ inferInstance XR
    rcases hor with ⟨rfl, rfl, rfl⟩ | ⟨A2, c2, us, rfl, rfl, HO⟩
    · obtain ⟨ad', he, hc0, hc1⟩ := opt_at (k := 0) (HX.out.ext (w' := wr)) rfl
      injection he with he
      subst he
      have hc0' : wr.cell? ad = some (.int .i64 26) := hc0
      have hc1' : wr.cell? ⟨ad.block, ad.off + 1, none⟩ = some (.slice VA 2 vc) := hc1
      have GV := Lib.hid (GX.out _ (List.mem_singleton.2 rfl))
      clear hc0 hc1
      go_wp2_with
        (refine wpList_load_row rfl 39 (.tmp 3) rfl w.heap.size rfl 39 cf (0, 0) _ (at_ext HG.out) Try.underlying39 rfl HSZ.out ?_)
      refine (HBN.out _ inferInstance).mono ?_
      rintro e w1 ⟨rfl, hb1⟩
      have S1 : Step w1 _ := ⟨hb1⟩
      have P0 := at_ext (w' := w1) (at_new wr (.cells #[.int .i64 26, .slice VA 2 vc] 109))
      have p0 : w1.cell? ⟨wr.heap.size, 0, none⟩ = some (.int .i64 26) := at_cell P0 0
      have p1 : w1.cell? ⟨wr.heap.size, 1, none⟩ = some (.slice VA 2 vc) := at_cell P0 1
      clear P0 hb1
      go_wp2_with fail
      refine (bits22_any 26 VA 2 vc [120, 0] rfl GV.out.2.2.2.1 _ (by exact GV.out.2.2.2.2.ext)).mono ?_
      rintro e w2 ⟨rfl, hb2⟩
      rw [HS.out]
      have S2 : Step w2 _ := ⟨hb2⟩
      have q0 : w2.cell? ⟨wr.heap.size, 0, none⟩ = some (.int .i64 26) := cell_ext p0
      have q1 : w2.cell? ⟨wr.heap.size, 1, none⟩ = some (.slice VA 2 vc) := cell_ext p1
      have q16 : w2.cell? ⟨w.heap.size, 16, none⟩ = some (.int .i64 12) := (at_cell (at_ext HG.out) 16).trans HDF.out
      clear hb2 p0 p1
      go_wp2_with fail
      refine (deflate22_any 12 _).mono ?_
      rintro e w3 ⟨A3, c3, rfl, ho3, hb3⟩
      rw [HDB.out] at ho3
      have S3 : Step w3 _ := ⟨hb3⟩
      have HD3 := Lib.hid ho3
      have r0 : w3.cell? ⟨wr.heap.size, 0, none⟩ = some (.int .i64 26) := cell_ext q0
      have r1 : w3.cell? ⟨wr.heap.size, 1, none⟩ = some (.slice VA 2 vc) := cell_ext q1
      clear ho3 hb3 q0 q1
      go_wp2_with
        (at_builtin
         refine wp_append_box (w0 := w) w.heap.size rfl (.tmp 46) (.tmp 50) 35 109 (.agg #[.int .i64 0, .slice none 0 0]) 2 32 1 rfl Try.underlying35 info_opt rfl (by decide) (by decide) (.slice none 0 0) 0 [] [.int .i64 26, .slice A3 2 c3] rfl rfl rfl (flat_one [⟨26, A3, 2, c3, []⟩]) (own_nil _ _ _ _) Ext.out Ext.out.size (by simp) ?_
         intro v4 w4 ho4 hb4 hg4 hat4
         obtain ⟨A4, c4, rfl, hc4⟩ := own_slice ho4
         have X34 : Ext w3 w4 := ⟨below_of_grown hg4 (Nat.le_refl _) (fun k hk => by cases hk)⟩
         have HO4 := Lib.hid (OptsOwn.push (W := w2) (u := ⟨26, A3, 2, c3, [72, 0]⟩) (OptsOwn.nil_ w2 w.heap.size) (size_ext (w := w)) (inferInstance : Ext w2 w3) (own_weaken HD3.out (size_ext (w := w2))) ⟨rfl, by simp, (by intro x hx; simp at hx; omega)⟩ ho4 hg4 hat4)
         have X4 : Ext (w.alloc (.cells cf 39)) w4 := Ext.trans_ inferInstance X34
         have Y4 : Ext w w4 := Ext.trans_ inferInstance X34
         have s0 : w4.cell? ⟨wr.heap.size, 0, none⟩ = some (.int .i64 26) := cell_ext r0
         have s1 : w4.cell? ⟨wr.heap.size, 1, none⟩ = some (.slice VA 2 vc) := cell_ext r1
         clear ho4 hb4 hg4 hat4 hc4)
      refine ⟨⟨rfl, (inferInstance : Ext _ _), .inr ⟨A4, c4, [⟨26, A3, 2, c3, [72, 0]⟩], rfl, rfl, OptsOwn.ext HO4.out, rfl⟩⟩, by simp [intOf]⟩
    · have HOa := Lib.hid HO.out.1
      have HUa := Lib.hid HO.out.2
      have hmf : wr.cell? ⟨w.heap.size, 21, none⟩ = some (.int .i64 5) := (at_cell (at_ext HG.out) 21).trans HMF.out
      go_wp2
      rw [Exit.noGoto_ret]
      go_ret2
      exact ⟨_, us, rfl, HOa.out, HUa.out, Ext.out⟩
end Go.Proofs.Ytnhmpmibkpoipaa
