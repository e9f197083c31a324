/-
  tetherlaw09.OptBack: packets and options are read again as they were: where what comes in is of bulk at most 1048576 the call answers true.
-/
import Derived.Test.YthlfdckcnpnemaaOptsP
import Derived.Test.YthlfdckcnpnemaaLawPackets
namespace Go.Proofs.Ythlfdckcnpnemaa
open Go.RowKit
set_option linter.unusedVariables false
set_option linter.unusedSimpArgs false

theorem ret_num {k : IntKind} {a b : Int} (h : a = b) : Ending.returned (.int k a) = .returned (.int k b) := by rw [h]
theorem count_any (n most : Int) (h : 1 ≤ most) (h' : most ≤ 9223372036854775807) (hn : -9223372036854775808 ≤ n) (hn' : n ≤ 9223372036854775807) (w : World) :
    Calls Try.prog 45 #[.int .i64 n, .int .i64 most] w fun e w' => (∃ k : Nat, e = .returned (.int .i64 k) ∧ (k : Int) < most) ∧ w = w' := by
  by_cases h0 : 0 ≤ n
  · have h1 := Int.emod_lt_of_pos n (show 0 < most by omega)
    have h2 := Int.emod_nonneg n (show most ≠ 0 by omega)
    go_enter Try.func45, Try.ntmps45
    go_wp2
    all_goals go_ret
    all_goals exact ⟨⟨(n % most).toNat, ret_num (Int.toNat_of_nonneg h2).symm, by omega⟩, rfl⟩
  · have h1 : n.tmod most ≤ 0 := by
      have := Int.tmod_nonneg most (show 0 ≤ -n by omega)
      rw [Int.neg_tmod] at this
      omega
    have h2 := Int.lt_tmod_of_pos n (show 0 < most by omega)
    by_cases hr : n.tmod most < 0
    · go_enter Try.func45, Try.ntmps45
      go_wp2
      go_ret
      exact ⟨⟨(n.tmod most + most).toNat, ret_num (Int.toNat_of_nonneg (by omega)).symm, by omega⟩, rfl⟩
    · go_enter Try.func45, Try.ntmps45
      go_wp2
      go_ret
      exact ⟨⟨(n.tmod most).toNat, ret_num (Int.toNat_of_nonneg (by omega)).symm, by omega⟩, rfl⟩

theorem optOk_parts {v : OV} (h : optOk v.opt = true) : 0 ≤ v.t ∧ v.t ≤ 255 ∧ v.d.length ≤ 253 := by
  obtain ⟨t, A, n, c, d⟩ := v
  have h : optOk (t, d) = true := h
  simp only [optOk, Bool.and_eq_true, decide_eq_true_eq] at h
  exact ⟨h.1.1, h.1.2, h.2⟩
set_option maxHeartbeats 8000000 in
theorem oback_any (code id cut : Int) (A B D : Option Addr) (n c l lc m md : Nat) (xs zs : List Int) (vs : List OV) (hn : xs.length = n) (hn' : n ≤ 140737488351232) (hc : n ≤ c) (hb : Byt xs) (hm : zs.length = m) (hm' : m ≤ 1048576) (hd : m ≤ md) (hzb : Byt zs)
    (hl : vs.length = l) (hl' : l ≤ 4398046511104) (hvt : ∀ v ∈ vs, -9223372036854775808 ≤ v.t ∧ v.t ≤ 9223372036854775807)
    (h1 : -9223372036854775808 ≤ code) (h1' : code ≤ 9223372036854775807) (h2 : -9223372036854775808 ≤ id) (h2' : id ≤ 9223372036854775807) (h3 : -9223372036854775808 ≤ cut) (h3' : cut ≤ 9223372036854775807)
    (w : World) (hx : Cells w A (nums .u8 xs)) (hv : Cells w B (flat vs)) (hg : Good w vs) (hz : Cells w D (nums .u8 zs)) :
    Calls Try.prog 8 #[.agg #[.int .i64 code, .int .i64 id, .slice A n c], .slice B l lc, .slice D m md, .int .i64 cut] w fun e w' => e = .returned (.bool true) ∧ Below w.heap.size w w' := by
  have Hn := Lib.hid hn
  have HX := Lib.hid hx
  have HZ := Lib.hid hm
  have HZC := Lib.hid hz
  have HV := Lib.hid hl
  have HVC := Lib.hid hv
  have HVG := Lib.hid hg
  have HVT := Lib.hid hvt
  clear hn hx hm hz hl hv hg hvt
  go_enter Try.func8, Try.ntmps8
  go_wp2_with fail
  refine (pack_any code id A n c xs Hn.out (by omega) h1 h1' h2 h2' _ (by exact HX.out.ext)).mono ?_
  rintro e w1 ⟨v1, rfl, ho1, hb1⟩
  have S1 : Step w1 _ := ⟨hb1⟩
  obtain ⟨A1, c1, rfl, hc1⟩ := own_slice ho1
  rcases Decidable.em (packE code id xs = 0) with he | he
  · rw [he]
    have hL := packL_le code id xs
    have hL4 := packL_len he
    have HBk : Hid (unpackF (packL code id xs ++ zs) = (code, id, xs, 0)) := unpack_back he
    have HCut : Hid (∀ k, k < (packL code id xs).length → unpackF ((packL code id xs).take k) = (0, 0, [], 8)) := fun k hk => unpack_cut he hk
    have HLB : Hid (Byt (packL code id xs)) := by
      unfold Hid
      obtain ⟨⟨h4, h5⟩, _, h6⟩ := packE_ok he
      unfold octB at h4 h5
      rw [h6]
      exact ((Byt.cons (by omega) (by omega) (Byt.one (by omega) (by omega))).append (be_byt _ _)).append hb
    rw [Hn.out] at hL4
    generalize packL code id xs = L at *
    obtain ⟨l4, hl4⟩ : ∃ k, L.length = k := ⟨_, rfl⟩
    rw [hl4] at ho1 hL hL4 hc1 HCut ⊢
    have HL := Lib.hid hl4
    have HL4 := Lib.hid hL4
    have h44 : 4 ≤ l4 := by omega
    clear hL4
    have HO1 := Lib.hid ho1
    clear ho1 hb1 he hl4
    go_wp2_with (first
      | (at_builtin
         refine wp_append_cells (w0 := w1) w1.heap.size rfl (.tmp 30) (.tmp 31) 22 5 (.int .u8 0) 1 1 rfl Try.underlying22 info_u8 rfl (by decide) (by decide) (.slice none 0 0) 0 [] A1 l4 c1 (nums .u8 L) rfl rfl ?_ (nums_one _ _) (own_nil _ _ _ _) (own_cells HO1.out).ext (Ext.out) Ext.out.size ?_ ?_
         · rw [nums_length, HL.out, Nat.mul_one]
         · omega
         intro v2 w2 ho2 hb2 _ _
         have S2 : Step w2 w1 := ⟨hb2⟩
         rw [List.nil_append, Nat.zero_add] at ho2
         obtain ⟨A2, c2, rfl, hc2⟩ := own_slice ho2
         have HO2 := Lib.hid ho2
         clear ho2 hb2)
      | (at_builtin
         refine wp_append_cells (w0 := w1) w1.heap.size rfl (.tmp 33) (.tmp 34) 22 5 (.int .u8 0) 1 1 rfl Try.underlying22 info_u8 rfl (by decide) (by decide) (.slice A2 l4 c2) l4 (nums .u8 L) D m md (nums .u8 zs) rfl rfl ?_ (nums_one _ _) HO2.out HZC.out.ext (Ext.out) Ext.out.size ?_ ?_
         · rw [nums_length, HZ.out, Nat.mul_one]
         · omega
         intro v3 w3 ho3 hb3 _ _
         have S3 : Step w3 w1 := ⟨hb3⟩
         rw [← nums_append] at ho3
         obtain ⟨A3, c3, rfl, hc3⟩ := own_slice ho3
         have HO3 := Lib.hid ho3
         clear ho3 hb3))
    refine (unpack_any A3 (l4 + m) c3 (L ++ zs) (by rw [List.length_append, HL.out, HZ.out]) (by omega) hc3 (HLB.out.append hzb) _ (by exact own_cells (own_ext HO3.out))).mono ?_
    rintro e w4 ⟨v4, rfl, ho4, hb4⟩
    have S4 : Step w4 _ := ⟨hb4⟩
    rw [HBk.out] at ho4
    rw [HBk.out]
    simp only at ho4
    rw [Hn.out] at ho4
    obtain ⟨A4, c4, rfl, hc4⟩ := own_slice ho4
    have HO4 := Lib.hid (own_cells ho4)
    have X1 : Ext (w.alloc (.cells #[.int .i64 code, .int .i64 id, .slice A n c] 35)) w4 := inferInstance
    have P0 := at_ext (w' := w4) (at_new w (.cells #[.int .i64 code, .int .i64 id, .slice A n c] 35))
    have p0 : w4.cell? ⟨w.heap.size, 0, none⟩ = some (.int .i64 code) := at_cell P0 0
    have p1 : w4.cell? ⟨w.heap.size, 1, none⟩ = some (.int .i64 id) := at_cell P0 1
    have p2 : w4.cell? ⟨w.heap.size, 2, none⟩ = some (.slice A n c) := at_cell P0 2
    have hz4 : w.heap.size < w4.heap.size := at_lt P0
    have HPS : Hid (pkSame code id xs code id xs = true) := by simp [Hid, pkSame]
    clear ho4 hb4 P0
    go_wp2_with fail
    refine (samePacket_any code id code id A A4 n n c c4 xs xs Hn.out Hn.out (by omega) (by omega) _ (by exact HX.out.ext) (by exact HO4.out.ext)).mono ?_
    rintro e w5 ⟨rfl, hb5⟩
    have S5 : Step w5 _ := ⟨hb5⟩
    rw [HPS.out]
    clear hb5 p0 p1 p2
    go_wp2_with fail
    refine (count_any cut l4 (by omega) (by omega) h3 h3' _).mono ?_
    rintro e w6 ⟨⟨k, rfl, hk⟩, rfl⟩
    have hk' : k < l4 := by omega
    have hk2 : k ≤ c1 := by omega
    have hk3 : (k : Int) ≤ (c1 : Int) := by omega
    have HU := Lib.hid (HCut.out k hk')
    have HTL : Hid ((L.take k).length = k) := by unfold Hid; rw [List.length_take, HL.out]; omega
    go_wp2_with fail
    refine (unpack_any A1 k c1 (L.take k) HTL.out (by omega) hk2 (HLB.out.take k) _ (by rw [nums_take]; exact ((own_cells HO1.out).take k).ext)).mono ?_
    rintro e w7 ⟨v7, rfl, ho7, hb7⟩
    have S7 : Step w7 _ := ⟨hb7⟩
    rw [HU.out]
    obtain ⟨A7, c7, rfl, hc7⟩ := own_slice ho7
    clear ho7 hb7 hc7
    go_wp2_with fail
    refine (optBytes_any B l lc vs HV.out (by omega) HVT.out _ (by exact HVC.out.ext) (by exact HVG.out.ext)).mono ?_
    rintro e y1 ⟨yv, rfl, hyo, hyb⟩
    have Y1 : Step y1 _ := ⟨hyb⟩
    rcases Decidable.em (bytesE (vs.map OV.opt) = 0) with hy | hy
    · rw [hy]
      obtain ⟨yA, yc, rfl, hyc⟩ := own_slice hyo
      have hback := opts_back hy
      have hyl : (bytesL (vs.map OV.opt)).length ≤ 8160 := by
        obtain ⟨h1, h2⟩ := bytesE_ok hy
        rw [bytesL_ok hy]
        have := optBs_len _ h1
        omega
      have hybt : Byt (bytesL (vs.map OV.opt)) := by
        rw [bytesL_ok hy]
        exact optBs_byt _ (bytesE_ok hy).1 (fun o ho => by
          obtain ⟨v, hv, rfl⟩ := List.mem_map.1 ho
          exact (HVG.out v hv).2.2.2.1)
      have HYO := Lib.hid (own_cells hyo)
      have HBack := Lib.hid hback
      have hall := (bytesE_ok hy).1
      have HAll := Lib.hid hall
      clear hyo hyb hback hy hall
      generalize bytesL (vs.map OV.opt) = ys at *
      go_wp2_with fail
      refine (options_any yA ys.length yc ys rfl (by omega) hyc hybt _ (by exact HYO.out.ext)).mono ?_
      rintro e y2 ⟨mv, us, rfl, hus, hmo, hma, hmv, hmb⟩
      have Y2 : Step y2 _ := ⟨hmb⟩
      rw [HBack.out] at hus
      rw [HBack.out]
      have hus : us.map OV.opt = vs.map OV.opt := hus
      obtain ⟨mA, mc, rfl, hmc⟩ := own_slice hmo
      have hgood : Good y2 us := fun v hv => by
        obtain ⟨g1, g2⟩ := hmv v hv
        obtain ⟨A', c', he, hc⟩ := own_slice (hma v hv)
        injection he with _ _ he
        have h1 := optOk_parts (List.all_eq_true.1 HAll.out _ (by rw [← hus]; exact List.mem_map_of_mem hv))
        exact ⟨g1, by omega, by omega, g2, own_cells (hma v hv)⟩
      have hul : us.length = l := by
        have := congrArg List.length hus
        simpa [HV.out] using this
      rw [hul] at hmo hmc ⊢
      have HUL := Lib.hid hul
      have HG := Lib.hid hgood
      have HMO := Lib.hid (own_cells hmo)
      have HUS : Hid (sameB (us.map OV.opt) (vs.map OV.opt) = true) := by unfold Hid sameB; simpa using hus
      clear hus hmo hma hmv hmb hgood hul
      go_wp2_with fail
      refine (same9_any mA B l l mc lc us vs HUL.out HV.out (by omega) (by omega) _ (by exact HMO.out.ext) (by exact HVC.out.ext) (by exact HG.out.ext) (by exact HVG.out.ext)).mono ?_
      rintro e y3 ⟨rfl, hb3⟩
      have Y3 : Step y3 _ := ⟨hb3⟩
      rw [HUS.out]
      clear hb3 hmc hyc hyl hybt
      go_wp2_with fail
      refine (options_any D m md zs HZ.out (by omega) (by omega) hzb _ (by exact HZC.out.ext)).mono ?_
      rintro e z1 ⟨zv, os, rfl, hos, ho, hoa, hov, hzb1⟩
      have Z1 : Step z1 _ := ⟨hzb1⟩
      rcases Decidable.em ((optsF [] zs).2 = 0) with hz | hz
      · rw [hz]
        obtain ⟨hf1, hf2⟩ := opts_forth hzb hz
        rw [← hos] at hf1 hf2
        have hok := (bytesE_ok hf1).1
        have hgood : Good z1 os := fun v hv => by
          obtain ⟨g1, g2⟩ := hov v hv
          obtain ⟨A', c', he, hc⟩ := own_slice (hoa v hv)
          injection he with _ _ he
          have h1 := optOk_parts (List.all_eq_true.1 hok _ (List.mem_map_of_mem hv))
          exact ⟨g1, by omega, by omega, g2, own_cells (hoa v hv)⟩
        have ht : ∀ v ∈ os, -9223372036854775808 ≤ v.t ∧ v.t ≤ 9223372036854775807 := fun v hv => by
          have h1 := optOk_parts (List.all_eq_true.1 hok _ (List.mem_map_of_mem hv))
          omega
        have hlo : os.length ≤ 32 := by have := (bytesE_ok hf1).2; rwa [List.length_map] at this
        obtain ⟨zA, zc, rfl, hzc⟩ := own_slice ho
        obtain ⟨q, hq⟩ : ∃ q, os.length = q := ⟨_, rfl⟩
        have HQ := Lib.hid hq
        rw [hq] at hlo ⊢
        have HG := Lib.hid hgood
        have HT := Lib.hid ht
        have HO := Lib.hid (own_cells ho)
        have HF1 := Lib.hid hf1
        have HF2 := Lib.hid hf2
        clear hgood ht ho hf1 hf2 hok hos hoa hov hzb1 hq hzc
        go_wp2_with fail
        refine (optBytes_any zA q zc os HQ.out (by omega) HT.out _ (by exact HO.out.ext) (by exact HG.out.ext)).mono ?_
        rintro e z2 ⟨xv, rfl, hxo, hxb⟩
        have Z2 : Step z2 _ := ⟨hxb⟩
        rw [HF1.out]
        rw [HF2.out, HZ.out] at hxo
        obtain ⟨xA, xc, rfl, hxc⟩ := own_slice hxo
        have HXO := Lib.hid (own_cells hxo)
        clear hxo hxb hxc
        go_wp2_with fail
        refine (same_any xA D m m xc md zs zs HZ.out HZ.out (by omega) (by omega) _ (by exact HXO.out.ext) (by exact HZC.out.ext)).mono ?_
        rintro e z3 ⟨rfl, q3, rfl⟩
        simp only [decide_true]
        go_wp2_with fail
        refine (known09_any _).mono ?_
        rintro e z4 ⟨rfl, hb4⟩
        have Z4 : Step z4 _ := ⟨hb4⟩
        have HF : Hid (Below w.heap.size w z4) := Ext.out
        clear hb4
        go_wp2_with fail
        go_ret
        exact ⟨rfl, HF.out⟩
      · have hz' : ((optsF [] zs).2 == 0) = false := by simpa using hz
        generalize (optsF [] zs).2 = E at *
        clear hzb1 hos ho hoa hov hz
        go_wp2_with fail
        refine (known09_any _).mono ?_
        rintro e z4 ⟨rfl, hb4⟩
        have Z4 : Step z4 _ := ⟨hb4⟩
        have HF : Hid (Below w.heap.size w z4) := Ext.out
        clear hb4
        go_wp2_with fail
        go_ret
        exact ⟨rfl, HF.out⟩
    · have hy' : (bytesE (vs.map OV.opt) == 0) = false := by simpa using hy
      generalize bytesE (vs.map OV.opt) = E2 at *
      generalize bytesL (vs.map OV.opt) = ys at *
      obtain ⟨yA, yc, rfl, hyc⟩ := own_slice hyo
      clear hyb hyo hy hyc
      go_wp2_with fail
      refine (options_any D m md zs HZ.out (by omega) (by omega) hzb _ (by exact HZC.out.ext)).mono ?_
      rintro e z1 ⟨zv, os, rfl, hos, ho, hoa, hov, hzb1⟩
      have Z1 : Step z1 _ := ⟨hzb1⟩
      rcases Decidable.em ((optsF [] zs).2 = 0) with hz | hz
      · rw [hz]
        obtain ⟨hf1, hf2⟩ := opts_forth hzb hz
        rw [← hos] at hf1 hf2
        have hok := (bytesE_ok hf1).1
        have hgood : Good z1 os := fun v hv => by
          obtain ⟨g1, g2⟩ := hov v hv
          obtain ⟨A', c', he, hc⟩ := own_slice (hoa v hv)
          injection he with _ _ he
          have h1 := optOk_parts (List.all_eq_true.1 hok _ (List.mem_map_of_mem hv))
          exact ⟨g1, by omega, by omega, g2, own_cells (hoa v hv)⟩
        have ht : ∀ v ∈ os, -9223372036854775808 ≤ v.t ∧ v.t ≤ 9223372036854775807 := fun v hv => by
          have h1 := optOk_parts (List.all_eq_true.1 hok _ (List.mem_map_of_mem hv))
          omega
        have hlo : os.length ≤ 32 := by have := (bytesE_ok hf1).2; rwa [List.length_map] at this
        obtain ⟨zA, zc, rfl, hzc⟩ := own_slice ho
        obtain ⟨q, hq⟩ : ∃ q, os.length = q := ⟨_, rfl⟩
        have HQ := Lib.hid hq
        rw [hq] at hlo ⊢
        have HG := Lib.hid hgood
        have HT := Lib.hid ht
        have HO := Lib.hid (own_cells ho)
        have HF1 := Lib.hid hf1
        have HF2 := Lib.hid hf2
        clear hgood ht ho hf1 hf2 hok hos hoa hov hzb1 hq hzc
        go_wp2_with fail
        refine (optBytes_any zA q zc os HQ.out (by omega) HT.out _ (by exact HO.out.ext) (by exact HG.out.ext)).mono ?_
        rintro e z2 ⟨xv, rfl, hxo, hxb⟩
        have Z2 : Step z2 _ := ⟨hxb⟩
        rw [HF1.out]
        rw [HF2.out, HZ.out] at hxo
        obtain ⟨xA, xc, rfl, hxc⟩ := own_slice hxo
        have HXO := Lib.hid (own_cells hxo)
        clear hxo hxb hxc
        go_wp2_with fail
        refine (same_any xA D m m xc md zs zs HZ.out HZ.out (by omega) (by omega) _ (by exact HXO.out.ext) (by exact HZC.out.ext)).mono ?_
        rintro e z3 ⟨rfl, q3, rfl⟩
        simp only [decide_true]
        go_wp2_with fail
        refine (known09_any _).mono ?_
        rintro e z4 ⟨rfl, hb4⟩
        have Z4 : Step z4 _ := ⟨hb4⟩
        have HF : Hid (Below w.heap.size w z4) := Ext.out
        clear hb4
        go_wp2_with fail
        go_ret
        exact ⟨rfl, HF.out⟩
      · have hz' : ((optsF [] zs).2 == 0) = false := by simpa using hz
        generalize (optsF [] zs).2 = E at *
        clear hzb1 hos ho hoa hov hz
        go_wp2_with fail
        refine (known09_any _).mono ?_
        rintro e z4 ⟨rfl, hb4⟩
        have Z4 : Step z4 _ := ⟨hb4⟩
        have HF : Hid (Below w.heap.size w z4) := Ext.out
        clear hb4
        go_wp2_with fail
        go_ret
        exact ⟨rfl, HF.out⟩
  · have he' : (packE code id xs == 0) = false := by simpa using he
    generalize packE code id xs = E1 at *
    generalize packL code id xs = L at *
    clear ho1 hb1 he hc1
    go_wp2_with fail
    refine (optBytes_any B l lc vs HV.out (by omega) HVT.out _ (by exact HVC.out.ext) (by exact HVG.out.ext)).mono ?_
    rintro e y1 ⟨yv, rfl, hyo, hyb⟩
    have Y1 : Step y1 _ := ⟨hyb⟩
    rcases Decidable.em (bytesE (vs.map OV.opt) = 0) with hy | hy
    · rw [hy]
      obtain ⟨yA, yc, rfl, hyc⟩ := own_slice hyo
      have hback := opts_back hy
      have hyl : (bytesL (vs.map OV.opt)).length ≤ 8160 := by
        obtain ⟨h1, h2⟩ := bytesE_ok hy
        rw [bytesL_ok hy]
        have := optBs_len _ h1
        omega
      have hybt : Byt (bytesL (vs.map OV.opt)) := by
        rw [bytesL_ok hy]
        exact optBs_byt _ (bytesE_ok hy).1 (fun o ho => by
          obtain ⟨v, hv, rfl⟩ := List.mem_map.1 ho
          exact (HVG.out v hv).2.2.2.1)
      have HYO := Lib.hid (own_cells hyo)
      have HBack := Lib.hid hback
      have hall := (bytesE_ok hy).1
      have HAll := Lib.hid hall
      clear hyo hyb hback hy hall
      generalize bytesL (vs.map OV.opt) = ys at *
      go_wp2_with fail
      refine (options_any yA ys.length yc ys rfl (by omega) hyc hybt _ (by exact HYO.out.ext)).mono ?_
      rintro e y2 ⟨mv, us, rfl, hus, hmo, hma, hmv, hmb⟩
      have Y2 : Step y2 _ := ⟨hmb⟩
      rw [HBack.out] at hus
      rw [HBack.out]
      have hus : us.map OV.opt = vs.map OV.opt := hus
      obtain ⟨mA, mc, rfl, hmc⟩ := own_slice hmo
      have hgood : Good y2 us := fun v hv => by
        obtain ⟨g1, g2⟩ := hmv v hv
        obtain ⟨A', c', he, hc⟩ := own_slice (hma v hv)
        injection he with _ _ he
        have h1 := optOk_parts (List.all_eq_true.1 HAll.out _ (by rw [← hus]; exact List.mem_map_of_mem hv))
        exact ⟨g1, by omega, by omega, g2, own_cells (hma v hv)⟩
      have hul : us.length = l := by
        have := congrArg List.length hus
        simpa [HV.out] using this
      rw [hul] at hmo hmc ⊢
      have HUL := Lib.hid hul
      have HG := Lib.hid hgood
      have HMO := Lib.hid (own_cells hmo)
      have HUS : Hid (sameB (us.map OV.opt) (vs.map OV.opt) = true) := by unfold Hid sameB; simpa using hus
      clear hus hmo hma hmv hmb hgood hul
      go_wp2_with fail
      refine (same9_any mA B l l mc lc us vs HUL.out HV.out (by omega) (by omega) _ (by exact HMO.out.ext) (by exact HVC.out.ext) (by exact HG.out.ext) (by exact HVG.out.ext)).mono ?_
      rintro e y3 ⟨rfl, hb3⟩
      have Y3 : Step y3 _ := ⟨hb3⟩
      rw [HUS.out]
      clear hb3 hmc hyc hyl hybt
      go_wp2_with fail
      refine (options_any D m md zs HZ.out (by omega) (by omega) hzb _ (by exact HZC.out.ext)).mono ?_
      rintro e z1 ⟨zv, os, rfl, hos, ho, hoa, hov, hzb1⟩
      have Z1 : Step z1 _ := ⟨hzb1⟩
      rcases Decidable.em ((optsF [] zs).2 = 0) with hz | hz
      · rw [hz]
        obtain ⟨hf1, hf2⟩ := opts_forth hzb hz
        rw [← hos] at hf1 hf2
        have hok := (bytesE_ok hf1).1
        have hgood : Good z1 os := fun v hv => by
          obtain ⟨g1, g2⟩ := hov v hv
          obtain ⟨A', c', he, hc⟩ := own_slice (hoa v hv)
          injection he with _ _ he
          have h1 := optOk_parts (List.all_eq_true.1 hok _ (List.mem_map_of_mem hv))
          exact ⟨g1, by omega, by omega, g2, own_cells (hoa v hv)⟩
        have ht : ∀ v ∈ os, -9223372036854775808 ≤ v.t ∧ v.t ≤ 9223372036854775807 := fun v hv => by
          have h1 := optOk_parts (List.all_eq_true.1 hok _ (List.mem_map_of_mem hv))
          omega
        have hlo : os.length ≤ 32 := by have := (bytesE_ok hf1).2; rwa [List.length_map] at this
        obtain ⟨zA, zc, rfl, hzc⟩ := own_slice ho
        obtain ⟨q, hq⟩ : ∃ q, os.length = q := ⟨_, rfl⟩
        have HQ := Lib.hid hq
        rw [hq] at hlo ⊢
        have HG := Lib.hid hgood
        have HT := Lib.hid ht
        have HO := Lib.hid (own_cells ho)
        have HF1 := Lib.hid hf1
        have HF2 := Lib.hid hf2
        clear hgood ht ho hf1 hf2 hok hos hoa hov hzb1 hq hzc
        go_wp2_with fail
        refine (optBytes_any zA q zc os HQ.out (by omega) HT.out _ (by exact HO.out.ext) (by exact HG.out.ext)).mono ?_
        rintro e z2 ⟨xv, rfl, hxo, hxb⟩
        have Z2 : Step z2 _ := ⟨hxb⟩
        rw [HF1.out]
        rw [HF2.out, HZ.out] at hxo
        obtain ⟨xA, xc, rfl, hxc⟩ := own_slice hxo
        have HXO := Lib.hid (own_cells hxo)
        clear hxo hxb hxc
        go_wp2_with fail
        refine (same_any xA D m m xc md zs zs HZ.out HZ.out (by omega) (by omega) _ (by exact HXO.out.ext) (by exact HZC.out.ext)).mono ?_
        rintro e z3 ⟨rfl, q3, rfl⟩
        simp only [decide_true]
        go_wp2_with fail
        refine (known09_any _).mono ?_
        rintro e z4 ⟨rfl, hb4⟩
        have Z4 : Step z4 _ := ⟨hb4⟩
        have HF : Hid (Below w.heap.size w z4) := Ext.out
        clear hb4
        go_wp2_with fail
        go_ret
        exact ⟨rfl, HF.out⟩
      · have hz' : ((optsF [] zs).2 == 0) = false := by simpa using hz
        generalize (optsF [] zs).2 = E at *
        clear hzb1 hos ho hoa hov hz
        go_wp2_with fail
        refine (known09_any _).mono ?_
        rintro e z4 ⟨rfl, hb4⟩
        have Z4 : Step z4 _ := ⟨hb4⟩
        have HF : Hid (Below w.heap.size w z4) := Ext.out
        clear hb4
        go_wp2_with fail
        go_ret
        exact ⟨rfl, HF.out⟩
    · have hy' : (bytesE (vs.map OV.opt) == 0) = false := by simpa using hy
      generalize bytesE (vs.map OV.opt) = E2 at *
      generalize bytesL (vs.map OV.opt) = ys at *
      obtain ⟨yA, yc, rfl, hyc⟩ := own_slice hyo
      clear hyb hyo hy hyc
      go_wp2_with fail
      refine (options_any D m md zs HZ.out (by omega) (by omega) hzb _ (by exact HZC.out.ext)).mono ?_
      rintro e z1 ⟨zv, os, rfl, hos, ho, hoa, hov, hzb1⟩
      have Z1 : Step z1 _ := ⟨hzb1⟩
      rcases Decidable.em ((optsF [] zs).2 = 0) with hz | hz
      · rw [hz]
        obtain ⟨hf1, hf2⟩ := opts_forth hzb hz
        rw [← hos] at hf1 hf2
        have hok := (bytesE_ok hf1).1
        have hgood : Good z1 os := fun v hv => by
          obtain ⟨g1, g2⟩ := hov v hv
          obtain ⟨A', c', he, hc⟩ := own_slice (hoa v hv)
          injection he with _ _ he
          have h1 := optOk_parts (List.all_eq_true.1 hok _ (List.mem_map_of_mem hv))
          exact ⟨g1, by omega, by omega, g2, own_cells (hoa v hv)⟩
        have ht : ∀ v ∈ os, -9223372036854775808 ≤ v.t ∧ v.t ≤ 9223372036854775807 := fun v hv => by
          have h1 := optOk_parts (List.all_eq_true.1 hok _ (List.mem_map_of_mem hv))
          omega
        have hlo : os.length ≤ 32 := by have := (bytesE_ok hf1).2; rwa [List.length_map] at this
        obtain ⟨zA, zc, rfl, hzc⟩ := own_slice ho
        obtain ⟨q, hq⟩ : ∃ q, os.length = q := ⟨_, rfl⟩
        have HQ := Lib.hid hq
        rw [hq] at hlo ⊢
        have HG := Lib.hid hgood
        have HT := Lib.hid ht
        have HO := Lib.hid (own_cells ho)
        have HF1 := Lib.hid hf1
        have HF2 := Lib.hid hf2
        clear hgood ht ho hf1 hf2 hok hos hoa hov hzb1 hq hzc
        go_wp2_with fail
        refine (optBytes_any zA q zc os HQ.out (by omega) HT.out _ (by exact HO.out.ext) (by exact HG.out.ext)).mono ?_
        rintro e z2 ⟨xv, rfl, hxo, hxb⟩
        have Z2 : Step z2 _ := ⟨hxb⟩
        rw [HF1.out]
        rw [HF2.out, HZ.out] at hxo
        obtain ⟨xA, xc, rfl, hxc⟩ := own_slice hxo
        have HXO := Lib.hid (own_cells hxo)
        clear hxo hxb hxc
        go_wp2_with fail
        refine (same_any xA D m m xc md zs zs HZ.out HZ.out (by omega) (by omega) _ (by exact HXO.out.ext) (by exact HZC.out.ext)).mono ?_
        rintro e z3 ⟨rfl, q3, rfl⟩
        simp only [decide_true]
        go_wp2_with fail
        refine (known09_any _).mono ?_
        rintro e z4 ⟨rfl, hb4⟩
        have Z4 : Step z4 _ := ⟨hb4⟩
        have HF : Hid (Below w.heap.size w z4) := Ext.out
        clear hb4
        go_wp2_with fail
        go_ret
        exact ⟨rfl, HF.out⟩
      · have hz' : ((optsF [] zs).2 == 0) = false := by simpa using hz
        generalize (optsF [] zs).2 = E at *
        clear hzb1 hos ho hoa hov hz
        go_wp2_with fail
        refine (known09_any _).mono ?_
        rintro e z4 ⟨rfl, hb4⟩
        have Z4 : Step z4 _ := ⟨hb4⟩
        have HF : Hid (Below w.heap.size w z4) := Ext.out
        clear hb4
        go_wp2_with fail
        go_ret
        exact ⟨rfl, HF.out⟩

namespace OptBack
theorem walk (W : World) (vs : List Value) (h : Args 1048576 Try.prog W Try.f8.params.toList vs) : Calls Try.prog 8 vs.toArray W fun e W' => e = .returned (.bool true) ∧ Below W.heap.size W W' := by
  rw [Try.params8] at h
  match vs, h with
  | [v0, v1, v2, v3], ⟨h0, h1, h2, h3, _⟩ =>
    obtain ⟨code, id, A, n, c, xs, rfl, hl, hn, hnc, hC, hB, k1, k2⟩ := arg_packet h0
    obtain ⟨B, l, lc, us, rfl, hul, hnc2, _, hn2, hC2, hG2, hT2⟩ := h1.options
    obtain ⟨D, m, md, zs, rfl, hlz, hmz, hm, hCz, hBz⟩ := h2.bytes Try.underlying22 Try.underlying5 cells_u8 bytes_u8
    obtain ⟨cut, rfl, w3⟩ := h3.int Try.underlying3
    have hr := h2.room Try.underlying22
    exact oback_any code id cut A B D n c l lc m md xs zs us hl hn hnc hB hlz (by omega) hmz hBz hul hn2 hT2 k1.1 k1.2 k2.1 k2.2 (wf_i64 w3).1 (wf_i64 w3).2 W hC hC2 hG2 hCz

set_option maxRecDepth 100000 in
theorem lifted (os : Os) (started : os.Started) (H : Type) (enc : TypeId × Value → H) (F : Stop.Interp) :
    ReturnsInHanded {} Try.checked os 8 .any ((Rows.OpenSpec.upto Rows.optBackSpec).pre6 enc Try.prog Try.f8 Rows.optBackUptoRow.domain false) (((Rows.OpenSpec.upto Rows.optBackSpec).at F).post enc Try.prog Try.f8 false true false false) :=
  law_lifted_upto (C := Try.checked) laid_out own_knob started (by kernel_rfl) Try.func8 H enc F rfl
    (fun ds hd => by
      have : ds.length = 4 := hd
      match ds, this with
      | [_, _, _, _], _ => exact ⟨rfl, rfl, rfl⟩) rfl Try.underlying4 (by
      have : (Try.f8.params.toList.all fun t => Try.prog.readableRec t && decide (t < Try.prog.types.size)) = true := by kernel_rfl
      intro t ht
      have h := List.all_eq_true.1 this t ht
      rw [Bool.and_eq_true, decide_eq_true_eq] at h
      exact h)
    (OpenSpec.witness (enc := enc) (C := Try.checked) (s := Rows.OpenSpec.upto Rows.optBackSpec) (k := Rows.uptoSmall) rfl false ⟨#[], #[.agg #[.int .i64 0, .int .i64 0, .slice none 0 0], .slice none 0 0, .slice none 0 0, .int .i64 0], []⟩ 8 (by kernel_rfl) (by kernel_rfl) (by kernel_rfl)
      (x := ([.agg [.lit (.int .i64 0), .lit (.int .i64 0), .nil], .nil, .nil, .lit (.int .i64 0)], [], [])) (by kernel_rfl) rfl (by kernel_rfl)) walk

theorem over : Rows.optBackUptoRow.holds Try.pinned (Rows.OpenSpec.upto Rows.optBackSpec) :=
  OpenClaim.holds_of_cond 8 Try.f8 rfl rfl rfl rfl rfl rfl rfl ⟨rfl, rfl, rfl, rfl, rfl⟩ rfl rfl rfl rfl rfl (by kernel_rfl) Try.func8 (by kernel_rfl)
    (of_decide_eq_true (by kernel_rfl)) (by unfold Func.isWrapper; first | (rw [if_pos (by decide +kernel)]; kernel_rfl) | (rw [if_neg (by decide +kernel)]; exact ⟨rfl, rfl⟩))
    (fun os started H enc _ F => lifted os started H enc F)

/-- The statement. -/
theorem proved : Rows.OptBackUptoSaid := over
#print axioms proved
end OptBack
end Go.Proofs.Ythlfdckcnpnemaa
