/-
  tetherlaw09.OptPicks: options are held against one another, found, left out and fitted to replies as the document says: for every input the call answers true; the card. No condition.
-/
import Derived.Test.YthlfdckcnpnemaaDoorPkC
import Derived.Test.YthlfdckcnpnemaaDoorKn9
import Derived.Test.YthlfdckcnpnemaaDoorRowD
import Derived.Test.YthlfdckcnpnemaaDoorArgs
import Derived.Test.YthlfdckcnpnemaaDoorCards
import Derived.Test.YthlfdckcnpnemaaDoorTie
import Derived.Deep.DeepCutAuto
namespace Go.Proofs.YthlfdckcnpnemaaDoor
open Go.ChangeShapes Go.WideShapes Go.ChangeAt Go.RowKit
set_option linter.unusedVariables false
set_option linter.unusedSimpArgs false

theorem sameB_self (os : List (Int × List Int)) : sameB os os = true := by simp [sameB]
set_option maxRecDepth 100000 in
set_option maxHeartbeats 8000000 in
theorem picks_any (A B K : Option Addr) (n c m d kn kc : Nat) (vs us : List OV) (ks : List Int) (code : Int) (hn : vs.length = n) (hm : us.length = m) (hk : ks.length = kn) (hn' : n ≤ 4398046511104) (hm' : m ≤ 4398046511104) (hk' : kn ≤ 9223372036854775807) (hnc : n ≤ c) (hmd : m ≤ d)
    (w : World) (hx : Cells w A (flat vs)) (hy : Cells w B (flat us)) (hz : Cells w K (Proofs.YthlfdckcnpnemaaDoor.nums .i64 ks)) (gx : Good w vs) (gy : Good w us) (ht : NamesT w) :
    Calls Tryd.prog 4 #[.slice A n c, .slice B m d, .slice K kn kc, .int .i64 code] w fun e w' => e = .returned (.bool true) ∧ Below w.heap.size w w' := by
  have Hn := Lib.hid hn
  have Hm := Lib.hid hm
  have Hk := Lib.hid hk
  have HX := Lib.hid hx
  have HY := Lib.hid hy
  have HZ := Lib.hid hz
  have GX := Lib.hid gx
  have GY := Lib.hid gy
  have HT := Lib.hid ht
  clear hn hm hk hx hy hz gx gy ht
  by_cases hn3 : 300 < n
  · go_enter Tryd.func4, Tryd.ntmps4
    go_wp2_with fail
    refine (known09_any _).mono ?_
    rintro e wz ⟨rfl, hbz⟩
    have Sz : Step wz _ := ⟨hbz⟩
    clear hbz
    go_wp2_with fail
    go_ret
    exact ⟨rfl, Ext.out⟩
  by_cases hm3 : 300 < m
  · go_enter Tryd.func4, Tryd.ntmps4
    go_wp2_with fail
    refine (known09_any _).mono ?_
    rintro e wz ⟨rfl, hbz⟩
    have Sz : Step wz _ := ⟨hbz⟩
    clear hbz
    go_wp2_with fail
    go_ret
    exact ⟨rfl, Ext.out⟩
  go_enter Tryd.func4, Tryd.ntmps4
  go_wp2_with fail
  refine (lent9_any B m d us Hm.out hm' _ (by exact HY.out) (by exact GY.out)).mono ?_
  rintro e w1 ⟨v1, ls, rfl, ho1, hu1, hb1⟩
  have S1 : Step w1 _ := ⟨hb1⟩
  obtain ⟨A1, c1, rfl, hnc1⟩ := own_slice ho1.1
  have hll : ls.length = m := by have h1 := congrArg List.length hu1; rw [List.length_map, List.length_map, Hm.out] at h1; exact h1
  have HU1 := Lib.hid hu1
  rw [hll] at hnc1 ⊢
  have HL1 := Lib.hid hll
  have C1 : Hid (Cells w1 A1 (flat ls)) := own_cells ho1.1
  have G1 : Hid (Good w1 ls) := ho1.good
  clear ho1 hu1 hb1 hll
  go_upto_if 33 with fail
  go_cut [10] (fun s wx => s = .int .i64 (ks.getD 0 0) ∧ wx = w1)
  case first =>
    by_cases hk0 : 0 < kn
    · obtain ⟨ad, rfl, hc⟩ := (HZ.out.ext (w' := w1)).num (by rw [Hk.out]; exact hk0)
      obtain ⟨k0, hk0'⟩ : ∃ k0, ks.getD 0 0 = k0 := ⟨_, rfl⟩
      have HK0 := Lib.hid hk0'
      rw [hk0'] at hc
      clear hk0'
      have hkI : (0 : Int) < (kn : Int) := by omega
      have hc0 : w1.cell? ad = some (.int .i64 k0) := by have h := hc; unfold Addr.add at h; rw [if_pos rfl] at h; exact h
      go_wp2
      go_meet
      case rel => exact ⟨by rw [HK0.out], rfl⟩
    · obtain rfl : kn = 0 := by omega
      have HK0 : Hid (ks.getD 0 0 = 0) := by
        unfold Hid
        rw [List.eq_nil_of_length_eq_zero Hk.out]
        rfl
      go_wp2
      go_meet
      case rel => exact ⟨by rw [HK0.out], rfl⟩
  case' rest =>
    obtain ⟨rfl, rfl⟩ := hcut
    obtain ⟨kd, hkd⟩ : ∃ kd, ks.getD 0 0 = kd := ⟨_, rfl⟩
    rw [hkd]
    clear hkd
  go_wp2_with fail
  refine (find2_any A1 m c1 ls kd HL1.out hm' _ (by exact C1.out.ext) (by exact G1.out.ext)).mono ?_
  rintro e w2 ⟨A2, c2, rfl, ho2, hb2⟩
  have S2 : Step w2 _ := ⟨hb2⟩
  rw [HU1.out] at ho2 ⊢
  obtain ⟨F, hF⟩ : ∃ F, findF (us.map OV.opt) kd = F := ⟨_, rfl⟩
  have HF := Lib.hid hF
  have hFl : F.1.2.length ≤ 140737488355300 := by
    have hlen : ∀ (os : List (Int × List Int)), (∀ x ∈ os, x.2.length ≤ 140737488355300) → (findF os kd).1.2.length ≤ 140737488355300 := by
      intro os
      induction os with
      | nil => intro _; simp [findF]
      | cons o os ih =>
        intro h
        rw [findF]
        split
        · exact h o (by simp)
        · exact ih fun x hx => h x (by simp [hx])
    rw [← hF]
    refine hlen _ fun x hx => ?_
    obtain ⟨v, hv, rfl⟩ := List.mem_map.1 hx
    have h1 := GY.out v hv
    have h2 : v.d.length = v.n := h1.1
    have h3 : v.n ≤ 140737488355300 := h1.2.2.1
    show v.d.length ≤ _
    omega
  rw [hF] at ho2 ⊢
  clear hF
  obtain ⟨⟨ft, fd⟩, fb⟩ := F
  simp only at ho2 hFl
  simp only
  have HO2 := Lib.hid ho2
  have HA2 := Lib.hid (at_new w2 (.cells #[.int .i64 ft, .slice A2 fd.length c2] 34))
  clear ho2 hb2
  go_wp2_with fail
  refine (rfind2_any B m d us kd Hm.out hm' _ (by exact HY.out.ext) (by exact GY.out.ext)).mono ?_
  rintro e w3 ⟨A3, c3, rfl, hc3, hb3⟩
  have S3 : Step w3 _ := ⟨hb3⟩
  rw [HF.out] at hc3 ⊢
  simp only at hc3
  simp only
  have HC3 := Lib.hid hc3
  have HA3 := Lib.hid (at_new w3 (.cells #[.int .i64 ft, .slice A3 fd.length c3] 34))
  clear hc3 hb3
  have e0 : ∀ o, (w3.alloc o).cell? ⟨w2.heap.size, 0, none⟩ = some (.int .i64 ft) := fun o => at_cell (at_ext (w' := w3.alloc o) HA2.out) 0
  have e1 : ∀ o, (w3.alloc o).cell? ⟨w2.heap.size, 1, none⟩ = some (.slice A2 fd.length c2) := fun o => at_cell (at_ext (w' := w3.alloc o) HA2.out) 1
  go_wp2_with fail
  refine (rone_any ft ft A2 A3 fd.length fd.length c2 c3 fd fd rfl rfl (by omega) (by omega) _ (by exact own_cells (own_ext HO2.out)) (by exact HC3.out.ext)).mono ?_
  rintro e w4 ⟨rfl, hb4⟩
  have S4 : Step w4 _ := ⟨hb4⟩
  rw [show oneB (ft, fd) (ft, fd) = true from decide_eq_true rfl]
  clear hb4 e0 e1
  have p1 : w4.cell? ⟨w2.heap.size, 1, none⟩ = some (.slice A2 fd.length c2) := at_cell (at_ext (w' := w4) HA2.out) 1
  go_wp2_with fail
  refine (spoil_any A2 fd.length c2 _ fd _ (by omega) (own_ext HO2.out)).mono ?_
  rintro e w5 ⟨rfl, hg5⟩
  have S5 := Step.wrote (w0 := wc) hg5 (own_base HO2.out)
  clear hg5 p1 S4 HA3 HC3 S3 HA2 HO2 S2 HF hFl
  go_wp2_with fail
  refine (without_any A1 K m c1 kn kc ls ks HL1.out Hk.out hm' hk' _ (by exact C1.out.ext) (by exact G1.out.ext) (by exact HZ.out.ext)).mono ?_
  rintro e w6 ⟨v6, xs, rfl, ho6, hx6, hb6⟩
  have S6 : Step w6 _ := ⟨hb6⟩
  rw [HU1.out] at hx6
  obtain ⟨A6, c6, rfl, hnc6⟩ := own_slice ho6.1
  have hwl : (withoutF ks (us.map OV.opt)).length ≤ m := by
    have h1 : (withoutF ks (us.map OV.opt)).length ≤ (us.map OV.opt).length := List.length_filter_le _ _
    rw [List.length_map, Hm.out] at h1
    exact h1
  have hxl : xs.length ≤ m := by have h1 := congrArg List.length hx6; rw [List.length_map] at h1; rw [h1]; exact hwl
  have HO6 := Lib.hid ho6
  have HX6 := Lib.hid hx6
  clear ho6 hx6 hb6
  go_wp2_with fail
  refine (rwithout_any B K m d kn kc us ks Hm.out Hk.out hm' hk' _ (by exact HY.out.ext) (by exact GY.out.ext) (by exact HZ.out.ext)).mono ?_
  rintro e w7 ⟨A7, c7, zs, rfl, hl7, hC7, hG7, hz7, hb7⟩
  have S7 : Step w7 _ := ⟨hb7⟩
  rw [Hm.out] at hl7
  have HC7 := Lib.hid hC7
  have HG7 := Lib.hid hG7
  have HZ7 := Lib.hid hz7
  clear hC7 hG7 hz7 hb7
  go_wp2_with fail
  refine (same9_any A6 A7 xs.length zs.length c6 c7 xs zs rfl rfl (by omega) (by omega) _ (by exact (own_cells HO6.out.1).ext) (by exact HC7.out) (by exact HO6.out.good.ext) (by exact HG7.out)).mono ?_
  rintro e w8 ⟨rfl, hb8⟩
  have S8 : Step w8 _ := ⟨hb8⟩
  rw [HX6.out, HZ7.out, sameB_self]
  clear hb8
  go_wp2_with fail
  refine (spoil9_any A6 xs.length c6 w5.heap.size xs _ rfl (by omega) (by exact size_ext) (by exact HO6.out.ext)).mono ?_
  rintro e w9 ⟨rfl, hb9⟩
  have hb9' : Below w5.heap.size w5 w9 := (inferInstance : Ext w5 w8).out.trans hb9
  clear S8 HC7 HG7 HZ7 S7 HO6 HX6 S6 hb9
  have S9 : Step w9 w5 := ⟨hb9'⟩
  clear hb9'
  go_wp2_with fail
  refine (ofits_any code B A m d n c us vs Hm.out Hn.out hm' hn' hmd hnc _ (by exact HY.out.ext) (by exact HX.out.ext) (by exact GY.out.ext) (by exact GX.out.ext)).mono ?_
  rintro e wa ⟨rfl, hba⟩
  have Sa : Step wa _ := ⟨hba⟩
  obtain ⟨FT, hFT⟩ : ∃ FT, fitsF code (us.map OV.opt) (vs.map OV.opt) = FT := ⟨_, rfl⟩
  have HFT := Lib.hid hFT
  rw [hFT]
  clear hba hFT
  obtain ⟨f1, f2⟩ := FT
  simp only
  go_wp2_with fail
  refine (fits9_any code B A m d n c us vs Hm.out Hn.out hm' hn' _ (by exact HY.out.ext) (by exact HX.out.ext) (by exact GY.out.ext) (by exact GX.out.ext)).mono ?_
  rintro e wb ⟨rfl, hbb⟩
  have Sb : Step wb _ := ⟨hbb⟩
  rw [HFT.out]
  clear hbb
  simp only
  go_wp2_with fail
  refine (same9_any A1 B m m c1 d ls us HL1.out Hm.out (by omega) (by omega) _ (by exact C1.out.ext) (by exact HY.out.ext) (by exact G1.out.ext) (by exact GY.out.ext)).mono ?_
  rintro e wd ⟨rfl, hbd⟩
  have Sd : Step wd _ := ⟨hbd⟩
  rw [HU1.out, sameB_self]
  clear hbd
  go_wp2_with fail
  refine (osame_any A B n m c d vs us Hn.out Hm.out hn' hm' _ (by exact HX.out.ext) (by exact HY.out.ext) (by exact GX.out.ext) (by exact GY.out.ext)).mono ?_
  rintro e wf ⟨rfl, hbf⟩
  have Sf : Step wf _ := ⟨hbf⟩
  obtain ⟨sb, hsb⟩ : ∃ sb, sameB (vs.map OV.opt) (us.map OV.opt) = sb := ⟨_, rfl⟩
  have HSB := Lib.hid hsb
  rw [hsb]
  clear hbf hsb
  go_wp2_with fail
  refine (same9_any A B n m c d vs us Hn.out Hm.out (by omega) (by omega) _ (by exact HX.out.ext) (by exact HY.out.ext) (by exact GX.out.ext) (by exact GY.out.ext)).mono ?_
  rintro e wg ⟨rfl, hbg⟩
  have Sg : Step wg _ := ⟨hbg⟩
  rw [HSB.out]
  clear hbg
  go_wp2_with fail
  refine (subset_any B A m d n c vs us Hn.out Hm.out (by omega) (by omega) hnc _ (by exact HY.out.ext) (by exact HX.out.ext) (by exact GY.out.ext) (by exact GX.out.ext)).mono ?_
  rintro e wh ⟨rfl, hbh⟩
  have Sh : Step wh _ := ⟨hbh⟩
  obtain ⟨su, hsu⟩ : ∃ su, subB (vs.map OV.opt) (us.map OV.opt) = su := ⟨_, rfl⟩
  have HSU := Lib.hid hsu
  rw [hsu]
  clear hbh hsu
  go_wp2_with fail
  refine (rsubset_any B A m d n c vs us Hn.out Hm.out (by omega) (by omega) _ (by exact HY.out.ext) (by exact HX.out.ext) (by exact GY.out.ext) (by exact GX.out.ext)).mono ?_
  rintro e wi ⟨rfl, hbi⟩
  have Si : Step wi _ := ⟨hbi⟩
  rw [HSU.out]
  clear hbi
  have HTi : Hid (NamesT wi) := fun k hk => cell_ext (w := w) (HT.out k hk)
  go_wp2_with fail
  refine (kind_any code _ HTi.out).mono ?_
  rintro e wj ⟨rfl, rfl⟩
  go_wp2_with fail
  refine (rkind_any code _).mono ?_
  rintro e wk ⟨rfl, hbk⟩
  have Sk : Step wk _ := ⟨hbk⟩
  clear hbk HTi
  generalize kindB code = kb at *
  go_wp2_with fail
  refine (known09_any _).mono ?_
  rintro e wl ⟨rfl, hbl⟩
  have Sl : Step wl _ := ⟨hbl⟩
  clear hbl
  go_wp2
  go_ret
  exact ⟨rfl, Ext.out⟩
namespace OptPicks
theorem names {W : World} (h : laidMetH Tryd.prog Rows.optPicksRow.laid W) : NamesT W := names_of (laid := Rows.laid_tether_opt_names) rfl h
theorem walk (U : Nat) (W : World) (vs : List Value) (h : Args U Tryd.prog W Tryd.f4.params.toList vs) (hL : laidMetH Tryd.prog Rows.optPicksRow.laid W) : Calls Tryd.prog 4 vs.toArray W fun e W' => e = .returned (.bool true) ∧ Below W.heap.size W W' := by
  rw [Tryd.params4] at h
  match vs, h with
  | [v0, v1, v2, v3], ⟨h0, h1, h2, h3, _⟩ =>
    obtain ⟨A, n, c, vs, rfl, hl, hnc, _, hn, hC, hG, _⟩ := h0.options
    obtain ⟨B, m, d, us, rfl, hlm, hmd, _, hm, hCm, hGm, _⟩ := h1.options
    obtain ⟨K, kn, kc, ks, rfl, hk, hkn, hCk⟩ := h2.ints
    obtain ⟨code, rfl, _⟩ := h3.int Tryd.underlying3
    exact picks_any A B K n c m d kn kc vs us ks code hl hlm hk hn hm hkn hnc hmd W hC hCm hCk hG hGm (names hL)
noncomputable def laidWorld (os : Os) : World :=
  { World.holding Tryd.prog os ⟨#[], #[], []⟩ with heap := (World.holding Tryd.prog os ⟨#[], #[], []⟩).heap.modify 1 fun
      | .cells _ t frozen => .cells (namesB.map Value.string).toArray t frozen
      | o => o }
theorem laid_met (os : Os) : laidMet Tryd.prog Rows.optPicksRow.laid ((laidWorld os).forCall (fun _ _ => 0) ⟨#[], #[.slice none 0 0, .slice none 0 0, .slice none 0 0, .int .i64 0], []⟩).memory :=
  laidMet_of_run' 20 (by kernel_rfl) (by kernel_rfl)
theorem reads (os : Os) {H : Type} (enc : TypeId × Value → H) : ∃ places, DataW.whole enc Tryd.prog ((laidWorld os).forCall (fun _ _ => 0) ⟨#[], #[.slice none 0 0, .slice none 0 0, .slice none 0 0, .int .i64 0], []⟩).memory Tryd.f4.params.toList Rows.optPicksSpec.vars false #[Value.slice none 0 0, .slice none 0 0, .slice none 0 0, .int .i64 0].toList 8 = some ([.nil, .nil, .nil, .lit (.int .i64 0)], [], places) :=
  ⟨[], by kernel_rfl⟩
set_option maxRecDepth 100000 in
theorem lifted (os : Os) (started : os.Started) (H : Type) (enc : TypeId × Value → H) (F : Stop.Interp) :
    ReturnsInHanded {} Tryd.checked os 4 .any ((OpenSpec.ofChange Rows.optPicksSpec).preRow enc Tryd.prog Tryd.f4 Rows.optPicksRow.domain false Rows.optPicksRow.laid) (((OpenSpec.ofChange Rows.optPicksSpec).at F).post enc Tryd.prog Tryd.f4 false true false false) := by
  obtain ⟨places, hx⟩ := reads os enc
  exact law_lifted_laid (C := Tryd.checked) laid_out own_knob started (by kernel_rfl) Tryd.func4 H enc F rfl
    (fun ds hd => by
      have : ds.length = 4 := hd
      match ds, this with
      | [_, _, _, _], _ => exact ⟨rfl, rfl, rfl⟩) rfl Tryd.underlying4 (by
      have : (Tryd.f4.params.toList.all fun t => Tryd.prog.readableRec t && decide (t < Tryd.prog.types.size)) = true := by kernel_rfl
      intro t ht
      have h := List.all_eq_true.1 this t ht
      rw [Bool.and_eq_true, decide_eq_true_eq] at h
      exact h)
    (witness_row_at (enc := enc) (C := Tryd.checked) false (laidWorld os) #[.slice none 0 0, .slice none 0 0, .slice none 0 0, .int .i64 0] rfl (by kernel_rfl) (by kernel_rfl) (by kernel_rfl)
      (OpenSpec.preRow_of_cond 8 hx (by kernel_rfl) (fun k hk => by cases hk) (by kernel_rfl) (laid_met os))) walk
theorem said : Rows.OptPicksSaid :=
  OpenClaim.holds_of_cond 4 Tryd.f4 rfl rfl rfl rfl rfl rfl rfl ⟨rfl, rfl, rfl, rfl, rfl⟩ rfl rfl rfl rfl rfl (by kernel_rfl) Tryd.func4 (by kernel_rfl)
    (of_decide_eq_true (by kernel_rfl)) (by unfold Func.isWrapper; first | (rw [if_pos (by decide +kernel)]; kernel_rfl) | (rw [if_neg (by decide +kernel)]; exact ⟨rfl, rfl⟩))
    (fun os started H enc _ F => by rw [OpenClaim.pre_eq_preRow]; exact lifted os started H enc F)
theorem plain (f : FuncId) (fn : Func) (hf : Tryd.pinned.checked.prog.funcNamed "tether/tetherlaw09.OptPicks" = some f) (hfn : Tryd.pinned.checked.prog.funcs[f]? = some fn) :
    false = Tryd.pinned.checked.prog.looks [] ∧ ∀ (j : Nat) t, fn.params[j]? = some t → Tryd.pinned.checked.prog.wantsStandIn t = false := by
  obtain rfl : f = 4 := Option.some.inj ((show Tryd.prog.funcNamed "tether/tetherlaw09.OptPicks" = some 4 by kernel_rfl).symm.trans hf) |>.symm
  obtain rfl : fn = Tryd.f4 := (Option.some.inj (Tryd.func4.symm.trans hfn)).symm
  refine ⟨by kernel_rfl, fun j t ht => ?_⟩
  have : (Tryd.f4.params.toList.all fun t => !Tryd.prog.wantsStandIn t) = true := by kernel_rfl
  have h := List.all_eq_true.1 this t (by simpa using Array.mem_of_getElem? ht)
  have h2 : Tryd.prog.wantsStandIn t = false := by simpa using h
  exact h2
/-- The card. -/
theorem proved : Rows.OptPicksCardSaid :=
  Claim7.holds_tied_plain_at .later [] _ _ _ _ said (fun _ h => by cases h) (by kernel_rfl) (fun _ h => by cases h) optPicks_row_tie rfl ⟨rfl, rfl⟩ (by kernel_rfl) rfl plain (by kernel_rfl)
#print axioms proved
end OptPicks
end Go.Proofs.YthlfdckcnpnemaaDoor
