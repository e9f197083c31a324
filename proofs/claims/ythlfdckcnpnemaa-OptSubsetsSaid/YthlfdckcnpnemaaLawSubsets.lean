/-
  tetherlaw09.OptSubsets: what is left of a part is a part; what is left out is not there: for every input the call answers true. No condition.
-/
import Derived.Test.YthlfdckcnpnemaaOptSub
import Derived.Test.YthlfdckcnpnemaaLawPackets
namespace Go.Proofs.Ythlfdckcnpnemaa
open Go.RowKit
set_option linter.unusedVariables false
set_option linter.unusedSimpArgs false

theorem withoutF_sublist (ks : List Int) (os : List (Int × List Int)) : (withoutF ks os).Sublist os := List.filter_sublist
theorem withoutF_not {ks : List Int} {os : List (Int × List Int)} {o : Int × List Int} (h : o ∈ withoutF ks os) : hasK ks o.1 = false := by
  have := (List.mem_filter.1 h).2
  simpa using this
set_option maxHeartbeats 4000000 in
theorem subsets_any (A K K2 : Option Addr) (n c m d m2 d2 : Nat) (vs : List OV) (ks ks2 : List Int) (hA : vs.length = n) (hnc : n ≤ c) (hn' : n ≤ 4398046511104) (hm : ks.length = m) (hm' : m ≤ 9223372036854775807) (hm2 : ks2.length = m2) (hm2' : m2 ≤ 9223372036854775807)
    (w : World) (hx : Cells w A (flat vs)) (gx : Good w vs) (hk : Cells w K (nums .i64 ks)) (hk2 : Cells w K2 (nums .i64 ks2)) :
    Calls Try.prog 9 #[.slice A n c, .slice K m d, .slice K2 m2 d2] w fun e w' => e = .returned (.bool true) ∧ Below w.heap.size w w' := by
  have Hn := Lib.hid hA
  have Hm := Lib.hid hm
  have Hm2 := Lib.hid hm2
  have HX := Lib.hid hx
  have GX := Lib.hid gx
  have HK := Lib.hid hk
  have HK2 := Lib.hid hk2
  clear hA hm hm2 hx gx hk hk2
  go_enter Try.func9, Try.ntmps9
  go_wp2_with fail
  refine (without_any A K n c m d vs ks Hn.out Hm.out hn' hm' _ (by exact HX.out.ext) (by exact GX.out.ext) (by exact HK.out.ext)).mono ?_
  rintro e w1 ⟨v1, us, rfl, ho1, he1, hb1⟩
  have S1 : Step w1 _ := ⟨hb1⟩
  obtain ⟨A1, c1, rfl, hc1⟩ := own_slice ho1.1
  have HU : Hid (us.map OV.opt = withoutF ks (vs.map OV.opt)) := he1
  have hul : us.length ≤ n := by
    have h1 := congrArg List.length he1
    have h2 := (withoutF_sublist ks (vs.map OV.opt)).length_le
    rw [← h1] at h2
    simp only [List.length_map, Hn.out] at h2
    exact h2
  have HO1 := Lib.hid ho1
  clear ho1 he1 hb1
  go_wp2_with fail
  refine (without_any A1 K2 us.length c1 m2 d2 us ks2 rfl Hm2.out (by omega) hm2' _ (by exact own_cells (own_ext HO1.out.1)) (by exact HO1.out.good.ext) (by exact HK2.out.ext)).mono ?_
  rintro e w2 ⟨v2, bs, rfl, ho2, he2, hb2⟩
  have S2 : Step w2 _ := ⟨hb2⟩
  obtain ⟨A2, c2, rfl, hc2⟩ := own_slice ho2.1
  have HB : Hid (bs.map OV.opt = withoutF ks2 (us.map OV.opt)) := he2
  have hbl : bs.length ≤ n := by
    have h1 := congrArg List.length he2
    have h2 := (withoutF_sublist ks2 (us.map OV.opt)).length_le
    rw [← h1] at h2
    simp only [List.length_map] at h2
    omega
  have HO2 := Lib.hid ho2
  clear ho2 he2 hb2
  obtain ⟨q, hq⟩ : ∃ q, bs.length = q := ⟨_, rfl⟩
  obtain ⟨p, hp⟩ : ∃ p, us.length = p := ⟨_, rfl⟩
  have HQ := Lib.hid hq
  have HP := Lib.hid hp
  rw [hq] at hbl hc2 ⊢
  rw [hp] at hul hc1 ⊢
  have hz2 : Below w.heap.size w w2 := Ext.out
  have HZ2 := Lib.hid hz2
  clear hq hp hz2
  go_wp2
  go_loopw [9] (fun i wr => ∃ k : Nat, i = .int .i64 k ∧ k ≤ q ∧ Hid (Below w2.heap.size w2 wr)) (fun i _ => q - (intOf i).toNat)
  case atStart => exact ⟨0, rfl, by omega, Below.refl _ _⟩
  case round =>
    obtain ⟨k, rfl, hk, HW⟩ := hrel
    have X0 : Ext w2 wr := ⟨HW.out⟩
    have Y0 : Ext w wr := Ext.trans_ ⟨HZ2.out⟩ X0
    obtain ⟨wo, rfl⟩ : ∃ wo : World, wo = wr := ⟨_, rfl⟩
    by_cases hlt : k < q
    · obtain ⟨v, hv, hvm⟩ := optD (vs := bs) (k := k) (by rw [HQ.out]; exact hlt)
      have HV := Lib.hid hv
      have HKK : Hid (hasK ks2 v.t = false) := withoutF_not (o := v.opt) (by rw [← HB.out]; exact List.mem_map_of_mem hvm)
      clear hv hvm
      go_wp2
      go_loopw [10] (fun i wr => ∃ j : Nat, i = .int .i64 j ∧ j ≤ m2 ∧ Hid (Below wo.heap.size wo wr)) (fun i _ => m2 - (intOf i).toNat)
      case atStart => exact ⟨0, rfl, by omega, Below.refl _ _⟩
      case round =>
        obtain ⟨j, rfl, hj, HJ⟩ := hrel
        have X1 : Ext wo wr := ⟨HJ.out⟩
        have X2 : Ext w2 wr := Ext.trans_ X0 X1
        have Y1 : Ext w wr := Ext.trans_ Y0 X1
        by_cases hjl : j < m2
        · obtain ⟨ad, rfl, hc0, hc1⟩ := opt_at (own_cells (own_ext (w' := wr) HO2.out.1)) HV.out
          obtain ⟨kd, rfl, hkd⟩ := (HK2.out.ext (w' := wr)).num (i := j) (by rw [Hm2.out]; exact hjl)
          have hne : v.t ≠ ks2.getD j 0 := by
            intro he
            have h1 := HKK.out
            unfold hasK at h1
            rw [decide_eq_false_iff_not] at h1
            exact h1 (by rw [he]; exact getD_mem (by rw [Hm2.out]; exact hjl))
          generalize ks2.getD j 0 = X at *
          have hne' : (v.t == X) = false := by simpa using hne
          clear hne hc1
          go_wp2
          go_quiet (fail)
          go_wp2
          go_roundw
          case rel => exact ⟨j + 1, by go_num, by omega, Ext.out⟩
          case measure => simp [intOf]; omega
        · go_wp2
          go_roundw
          case rel => exact ⟨k + 1, by go_num, by omega, Ext.out⟩
          case measure => simp [intOf]; omega
    · have SF : Hid ((us.map OV.opt).Sublist (vs.map OV.opt)) := by unfold Hid; rw [HU.out]; exact withoutF_sublist _ _
      have SG : Hid ((bs.map OV.opt).Sublist (us.map OV.opt)) := by unfold Hid; rw [HB.out]; exact withoutF_sublist _ _
      have T1 := Lib.hid (subB_of_sublist SF.out)
      have T2 := Lib.hid (subB_of_sublist SG.out)
      have T3 := Lib.hid (subB_of_sublist (SG.out.trans SF.out))
      have T4 := Lib.hid (subB_of_sublist (List.nil_sublist (vs.map OV.opt)))
      have T5 := Lib.hid (subB_of_sublist (List.Sublist.refl (vs.map OV.opt)))
      have GO1 := Lib.hid HO1.out.good
      have GO2 := Lib.hid HO2.out.good
      have CO1 := Lib.hid (own_cells HO1.out.1)
      have CO2 := Lib.hid (own_cells HO2.out.1)
      have Z1 : Ext w1 wo := Ext.trans_ inferInstance X0
      go_wp2_with fail
      refine (subset_any A A1 n c p c1 us vs HP.out Hn.out (by omega) (by omega) hc1 _ (by exact HX.out.ext) (by exact CO1.out.ext) (by exact GX.out.ext) (by exact GO1.out.ext)).mono ?_
      rintro e w3 ⟨rfl, hb3⟩
      rw [T1.out]
      have S3 : Step w3 _ := ⟨hb3⟩
      clear hb3
      go_wp2_with fail
      refine (subset_any A1 A2 p c1 q c2 bs us HQ.out HP.out (by omega) (by omega) hc2 _ (by exact CO1.out.ext) (by exact CO2.out.ext) (by exact GO1.out.ext) (by exact GO2.out.ext)).mono ?_
      rintro e w4 ⟨rfl, hb4⟩
      rw [T2.out]
      have S4 : Step w4 _ := ⟨hb4⟩
      clear hb4
      go_wp2_with fail
      refine (subset_any A A2 n c q c2 bs vs HQ.out Hn.out (by omega) (by omega) hc2 _ (by exact HX.out.ext) (by exact CO2.out.ext) (by exact GX.out.ext) (by exact GO2.out.ext)).mono ?_
      rintro e w5 ⟨rfl, hb5⟩
      rw [T3.out]
      have S5 : Step w5 _ := ⟨hb5⟩
      clear hb5
      go_wp2_with fail
      refine (subset_any A none n c 0 0 [] vs rfl Hn.out (by omega) (by omega) (by omega) _ (by exact HX.out.ext) (by exact Cells.nil_ _ _) (by exact GX.out.ext) (by exact fun v hv => by simp at hv)).mono ?_
      rintro e w6 ⟨rfl, hb6⟩
      rw [show ([] : List OV).map OV.opt = [] from rfl, T4.out]
      have S6 : Step w6 _ := ⟨hb6⟩
      clear hb6
      go_wp2_with fail
      refine (subset_any A A n c n c vs vs Hn.out Hn.out (by omega) (by omega) hnc _ (by exact HX.out.ext) (by exact HX.out.ext) (by exact GX.out.ext) (by exact GX.out.ext)).mono ?_
      rintro e w7 ⟨rfl, hb7⟩
      rw [T5.out]
      have S7 : Step w7 _ := ⟨hb7⟩
      clear hb7
      go_wp2_with fail
      refine (known09_any _).mono ?_
      rintro e w8 ⟨rfl, hb8⟩
      have S8 : Step w8 _ := ⟨hb8⟩
      have HF : Hid (Below w.heap.size w w8) := Ext.out
      clear hb8
      go_wp2_with fail
      go_ret
      exact ⟨rfl, HF.out⟩

namespace OptSubsets
theorem walk (W : World) (vs : List Value) (h : Args Try.prog W Try.f9.params.toList vs) : Calls Try.prog 9 vs.toArray W fun e W' => e = .returned (.bool true) ∧ Below W.heap.size W W' := by
  rw [Try.params9] at h
  match vs, h with
  | [v0, v1, v2], ⟨h0, h1, h2, _⟩ =>
    obtain ⟨A, n, c, vs, rfl, hl, hnc, _, hn, hC, hG, _⟩ := h0.options
    obtain ⟨K, m, d, ks, rfl, hl1, hm, hK⟩ := h1.ints
    obtain ⟨K2, m2, d2, ks2, rfl, hl2, hm2, hK2⟩ := h2.ints
    exact subsets_any A K K2 n c m d m2 d2 vs ks ks2 hl hnc hn hl1 hm hl2 hm2 W hC hG hK hK2

set_option maxRecDepth 100000 in
theorem lifted (os : Os) (started : os.Started) (H : Type) (enc : TypeId × Value → H) :
    ReturnsInHanded {} Try.checked os 9 .any (Rows.optSubsetsSpec.pre6 enc Try.prog Try.f9 Rows.optSubsetsRow.domain false) (Rows.optSubsetsSpec.post enc Try.prog Try.f9 false true false false) :=
  law_lifted (C := Try.checked) laid_out own_knob started (by kernel_rfl) Try.func9 H enc rfl
    (fun ds hd => by
      have : ds.length = 3 := hd
      match ds, this with
      | [_, _, _], _ => exact ⟨rfl, rfl, rfl⟩) rfl Try.underlying4 (by
      have : (Try.f9.params.toList.all fun t => Try.prog.readableRec t && decide (t < Try.prog.types.size)) = true := by kernel_rfl
      intro t ht
      have h := List.all_eq_true.1 this t ht
      rw [Bool.and_eq_true, decide_eq_true_eq] at h
      exact h)
    (ChangeSpec.witness6 (enc := enc) (C := Try.checked) false ⟨#[], #[.slice none 0 0, .slice none 0 0, .slice none 0 0], []⟩ 8 (by kernel_rfl) (by kernel_rfl) (by kernel_rfl) (by kernel_rfl)) walk

theorem over : Rows.optSubsetsRow.holds Try.pinned (OpenSpec.ofChange Rows.optSubsetsSpec) :=
  OpenClaim.holds_of_wide 9 Try.f9 rfl rfl rfl rfl rfl rfl rfl ⟨rfl, rfl, rfl, rfl, rfl⟩ rfl rfl rfl rfl rfl (by kernel_rfl) Try.func9 (by kernel_rfl)
    (of_decide_eq_true (by kernel_rfl)) (by unfold Func.isWrapper; first | (rw [if_pos (by decide +kernel)]; kernel_rfl) | (rw [if_neg (by decide +kernel)]; exact ⟨rfl, rfl⟩))
    (fun os started H enc _ => lifted os started H enc)

/-- The statement. -/
theorem proved : Rows.OptSubsetsSaid := over
#print axioms proved
end OptSubsets
end Go.Proofs.Ythlfdckcnpnemaa
