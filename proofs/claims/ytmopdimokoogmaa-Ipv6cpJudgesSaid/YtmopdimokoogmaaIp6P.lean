/-
  tetherlaw17.Ipv6cpJudges: whatever the other end asks, it is answered as the document says; the answer fits, and neither 0 nor this end's own identifier is acknowledged: for every input the call answers true. No condition.
-/
import Derived.Test.YtmopdimokoogmaaIp6L
import Derived.Test.YtmopdimokoogmaaIp6F
namespace Go.Proofs.Ytmopdimokoogmaa
open Go.RowKit
set_option linter.unusedVariables false
set_option linter.unusedSimpArgs false

theorem sameB_self (os : List (Int × List Int)) : sameB os os = true := by simp [sameB]
set_option maxRecDepth 100000 in
set_option maxHeartbeats 8000000 in
theorem judges17_law (cf : Array Value) (mine naks maxf draw : Int) (A : Option Addr) (n c : Nat) (vs : List OV) (hsz : (Try.prog.info? 25).map (·.size) = some cf.size) (hcf : cf[21]? = some (.int .i64 maxf)) (hn : vs.length = n) (hn' : n ≤ 4398046511104) (hm : giv64 mine) (hd : giv64 draw)
    (w : World) (hx : Cells w A (flat vs)) (gx : Good w vs) :
    Calls Try.prog 3 #[.agg cf, .int .u64 mine, .slice A n c, .int .i64 naks, .int .u64 draw] w fun e w' => e = .returned (.bool true) ∧ Below w.heap.size w w' := by
  have Hn := Lib.hid hn
  have HX := Lib.hid hx
  have GX := Lib.hid gx
  have HCF := Lib.hid hcf
  have HSZ := Lib.hid hsz
  have HM := Lib.hid hm
  have HDr := Lib.hid hd
  have HG := Lib.hid (at_new w (.cells cf 25))
  clear hn hx gx hcf hsz hm hd
  by_cases h3 : (300 : Int) < (n : Int)
  · go_enter Try.func3, Try.ntmps3
    go_wp2_with fail
    refine (known17_any _).mono ?_
    rintro e w1 ⟨rfl, hb1⟩
    have S1 : Step w1 _ := ⟨hb1⟩
    clear hb1
    go_wp2
    go_ret
    exact ⟨rfl, Ext.out⟩
  go_enter Try.func3, Try.ntmps3
  go_wp2_with fail
  refine (lent9_any A n c vs Hn.out hn' _ (by exact HX.out.ext) (by exact GX.out.ext)).mono ?_
  rintro e w1 ⟨v1, us, rfl, ho1, hu1, hb1⟩
  have S1 : Step w1 _ := ⟨hb1⟩
  obtain ⟨A1, c1, rfl, _⟩ := own_slice ho1.1
  have hul : us.length = n := by have h1 := congrArg List.length hu1; rw [List.length_map, List.length_map, Hn.out] at h1; exact h1
  have HO1 := Lib.hid ho1
  have HU1 := Lib.hid hu1
  rw [hul]
  have HUL := Lib.hid hul
  clear ho1 hu1 hb1 hul
  have G1 : Hid (Good w1 us) := HO1.out.good
  go_wp2_with
    (refine wpList_load_row rfl 25 (.tmp 5) rfl w.heap.size rfl 25 cf (0, 0) _ (at_ext HG.out) Try.underlying25 rfl HSZ.out ?_)
  refine (judge17_any cf mine naks maxf draw A1 n c1 us HCF.out HUL.out hn' HM.out HDr.out _ (by exact (own_cells HO1.out.1).ext) (by exact G1.out.ext)).mono ?_
  rintro e w2 ⟨v2, xs, rfl, ho2, hx2, hb2⟩
  have S2 : Step w2 _ := ⟨hb2⟩
  rw [HU1.out] at hx2 ⊢
  obtain ⟨A2, c2, rfl, _⟩ := own_slice ho2.1
  have hml : xs.length ≤ 302 := by
    have h1 := judge_len mine naks maxf draw (vs.map OV.opt)
    rw [← hx2, List.length_map, List.length_map, Hn.out] at h1
    omega
  obtain ⟨m, hm⟩ : ∃ m, xs.length = m := ⟨_, rfl⟩
  have HO2 := Lib.hid ho2
  have HX2 := Lib.hid hx2
  rw [hm] at hml ⊢
  have HXM := Lib.hid hm
  clear ho2 hx2 hb2 hm
  go_wp2_with
    (refine wpList_load_row rfl 25 (.tmp 5) rfl w.heap.size rfl 25 cf (0, 0) _ (at_ext HG.out) Try.underlying25 rfl HSZ.out ?_)
  refine (rjudge17_any cf mine naks maxf draw A n c vs HCF.out Hn.out hn' HM.out HDr.out _ (by exact HX.out.ext) (by exact GX.out.ext)).mono ?_
  rintro e w3 ⟨v3, zs, rfl, ho3, hx3, hb3⟩
  have S3 : Step w3 _ := ⟨hb3⟩
  obtain ⟨A3, c3, rfl, _⟩ := own_slice ho3.1
  have hzl : zs.length = m := by have h1 := congrArg List.length (hx3.trans HX2.out.symm); rw [List.length_map, List.length_map, HXM.out] at h1; exact h1
  have HO3 := Lib.hid ho3
  have HX3 := Lib.hid hx3
  rw [hzl]
  have HZL := Lib.hid hzl
  clear ho3 hx3 hb3 hzl
  have JF := Lib.hid (judge_fits mine naks maxf draw (vs.map OV.opt))
  have JA := Lib.hid (fun h => judge_ack (mine := mine) (naks := naks) (maxf := maxf) (draw := draw) (os := vs.map OV.opt) h)
  obtain ⟨J, hJ⟩ : ∃ J, judgeF mine naks maxf draw (vs.map OV.opt) = J := ⟨_, rfl⟩
  rw [hJ] at HX2 HX3 JF JA ⊢
  clear hJ
  obtain ⟨K, ys⟩ := J
  simp only at HX2 HX3 JF JA
  simp only
  go_wp2_with fail
  refine (same9_any A2 A3 m m c2 c3 xs zs HXM.out HZL.out (by omega) (by omega) _ (by exact (own_cells HO2.out.1).ext) (by exact (own_cells HO3.out.1).ext) (by exact HO2.out.good.ext) (by exact HO3.out.good.ext)).mono ?_
  rintro e w4 ⟨rfl, hb4⟩
  rw [HX2.out, HX3.out, sameB_self]
  have S4 : Step w4 _ := ⟨hb4⟩
  clear hb4
  go_wp2_with fail
  refine (fits9_any K A A2 n c m c2 vs xs Hn.out HXM.out hn' (by omega) _ (by exact HX.out.ext) (by exact (own_cells HO2.out.1).ext) (by exact GX.out.ext) (by exact HO2.out.good.ext)).mono ?_
  rintro e w8 ⟨rfl, hb8⟩
  rw [HX2.out, JF.out]
  have S8 : Step w8 _ := ⟨hb8⟩
  clear hb8
  by_cases hK : K = 2
  · by_cases hn0 : 0 < n
    · obtain ⟨N, hr, hN0, hNm⟩ := JA.out hK (by intro h; have h1 := congrArg List.length h; rw [List.length_map, Hn.out, List.length_nil] at h1; omega)
      subst hK
      have HR := Lib.hid hr
      have hN0' : (N == 0) = false := by simpa using hN0
      have hNm' : (N == mine) = false := by simpa using hNm
      clear hr hN0 hNm
      go_wp2_with fail
      refine (rread17_any A n c vs Hn.out hn' _ (by exact HX.out.ext) (by exact GX.out.ext)).mono ?_
      rintro e w9 ⟨rfl, hb9⟩
      rw [HR.out]
      have S9 : Step w9 _ := ⟨hb9⟩
      clear hb9
      simp only
      go_wp2_with fail
      refine (spoil9_any A2 m c2 w1.heap.size xs _ HXM.out (by omega) (by exact size_ext) (by rw [← HXM.out]; exact HO2.out.ext)).mono ?_
      rintro e w5 ⟨rfl, hb5⟩
      have hb5' : Below w1.heap.size w1 w5 := (Ext.out).trans hb5
      have S5 : Step w5 w1 := ⟨hb5'⟩
      clear hb5 hb5'
      go_wp2_with fail
      refine (same9_any A1 A n n c1 c us vs HUL.out Hn.out (by omega) (by omega) _ (by exact (own_cells HO1.out.1).ext) (by exact HX.out.ext) (by exact HO1.out.good.ext) (by exact GX.out.ext)).mono ?_
      rintro e w6 ⟨rfl, hb6⟩
      rw [HU1.out, sameB_self]
      have S6 : Step w6 _ := ⟨hb6⟩
      clear hb6
      go_wp2_with fail
      refine (known17_any _).mono ?_
      rintro e w7 ⟨rfl, hb7⟩
      have S7 : Step w7 _ := ⟨hb7⟩
      clear hb7
      go_wp2
      go_ret
      exact ⟨rfl, Ext.out⟩
    · have hn1 : ¬ (0 : Int) < (n : Int) := by omega
      subst hK
      go_wp2_with fail
      refine (spoil9_any A2 m c2 w1.heap.size xs _ HXM.out (by omega) (by exact size_ext) (by rw [← HXM.out]; exact HO2.out.ext)).mono ?_
      rintro e w5 ⟨rfl, hb5⟩
      have hb5' : Below w1.heap.size w1 w5 := (Ext.out).trans hb5
      have S5 : Step w5 w1 := ⟨hb5'⟩
      clear hb5 hb5'
      go_wp2_with fail
      refine (same9_any A1 A n n c1 c us vs HUL.out Hn.out (by omega) (by omega) _ (by exact (own_cells HO1.out.1).ext) (by exact HX.out.ext) (by exact HO1.out.good.ext) (by exact GX.out.ext)).mono ?_
      rintro e w6 ⟨rfl, hb6⟩
      rw [HU1.out, sameB_self]
      have S6 : Step w6 _ := ⟨hb6⟩
      clear hb6
      go_wp2_with fail
      refine (known17_any _).mono ?_
      rintro e w7 ⟨rfl, hb7⟩
      have S7 : Step w7 _ := ⟨hb7⟩
      clear hb7
      go_wp2
      go_ret
      exact ⟨rfl, Ext.out⟩
  · have hK' : (K == 2) = false := by simpa using hK
    clear hK
    go_wp2_with fail
    refine (spoil9_any A2 m c2 w1.heap.size xs _ HXM.out (by omega) (by exact size_ext) (by rw [← HXM.out]; exact HO2.out.ext)).mono ?_
    rintro e w5 ⟨rfl, hb5⟩
    have hb5' : Below w1.heap.size w1 w5 := (Ext.out).trans hb5
    have S5 : Step w5 w1 := ⟨hb5'⟩
    clear hb5 hb5'
    go_wp2_with fail
    refine (same9_any A1 A n n c1 c us vs HUL.out Hn.out (by omega) (by omega) _ (by exact (own_cells HO1.out.1).ext) (by exact HX.out.ext) (by exact HO1.out.good.ext) (by exact GX.out.ext)).mono ?_
    rintro e w6 ⟨rfl, hb6⟩
    rw [HU1.out, sameB_self]
    have S6 : Step w6 _ := ⟨hb6⟩
    clear hb6
    go_wp2_with fail
    refine (known17_any _).mono ?_
    rintro e w7 ⟨rfl, hb7⟩
    have S7 : Step w7 _ := ⟨hb7⟩
    clear hb7
    go_wp2
    go_ret
    exact ⟨rfl, Ext.out⟩

namespace Ipv6cpJudges
set_option maxRecDepth 100000 in
theorem walk (U : Nat) (W : World) (vs : List Value) (h : Args U Try.prog W Try.f3.params.toList vs) : Calls Try.prog 3 vs.toArray W fun e W' => e = .returned (.bool true) ∧ Below W.heap.size W W' := by
  rw [Try.params3] at h
  match vs, h with
  | [v0, v1, v2, v3, v4], ⟨h0, h1, h2, h3, h4, _⟩ =>
    obtain ⟨cf, id, maxf, rfl, hsz, _, hcf, _⟩ := arg_conf h0
    obtain ⟨mine, rfl, hw1⟩ := h1.int Try.underlying23
    obtain ⟨A, n, c, vs, rfl, hl, hnc, _, hn, hC, hG, _⟩ := h2.options
    obtain ⟨naks, rfl, hw3⟩ := h3.int Try.underlying3
    obtain ⟨draw, rfl, hw4⟩ := h4.int Try.underlying23
    exact judges17_law cf mine naks maxf draw A n c vs hsz hcf hl hn (wf_u64 hw1) (wf_u64 hw4) W hC hG

set_option maxRecDepth 100000 in
theorem lifted (os : Os) (started : os.Started) (H : Type) (enc : TypeId × Value → H) :
    ReturnsInHanded {} Try.checked os 3 .any (Rows.ipv6cpJudgesSpec.pre6 enc Try.prog Try.f3 Rows.ipv6cpJudgesRow.domain false) (Rows.ipv6cpJudgesSpec.post enc Try.prog Try.f3 false true false false) :=
  law_lifted (C := Try.checked) laid_out own_knob started (by kernel_rfl) Try.func3 H enc rfl
    (fun ds hd => by
      have : ds.length = 5 := hd
      match ds, this with
      | [_, _, _, _, _], _ => exact ⟨rfl, rfl, rfl⟩) rfl Try.underlying4 (by
      have : (Try.f3.params.toList.all fun t => Try.prog.readableRec t && decide (t < Try.prog.types.size)) = true := by kernel_rfl
      intro t ht
      have h := List.all_eq_true.1 this t ht
      rw [Bool.and_eq_true, decide_eq_true_eq] at h
      exact h)
    (ChangeSpec.witness6 (enc := enc) (C := Try.checked) false ⟨#[], #[.agg #[.string ⟨#[]⟩, .string ⟨#[]⟩, .int .i64 0, .slice none 0 0, .int .i64 0, .int .i64 0, .bool false, .bool false, .bool false, .int .i64 0, .int .i64 0, .int .i64 0, .int .i64 0, .bool false, .bool false, .int .u64 0, .int .i64 0, .int .i64 0, .int .i64 0, .int .i64 0, .int .i64 0, .int .i64 0, .int .i64 0, .int .i64 0, .int .i64 0, .int .i64 0, .int .i64 0, .int .i64 0, .bool false, .bool false, .int .i64 0, .string ⟨#[]⟩, .string ⟨#[]⟩], .int .u64 0, .slice none 0 0, .int .i64 0, .int .u64 0], []⟩ 8 (by kernel_rfl) (by kernel_rfl) (by kernel_rfl) (by kernel_rfl)) walk

theorem over : Rows.ipv6cpJudgesRow.holds Try.pinned (OpenSpec.ofChange Rows.ipv6cpJudgesSpec) :=
  OpenClaim.holds_of_wide 3 Try.f3 rfl rfl rfl rfl rfl rfl rfl ⟨rfl, rfl, rfl, rfl, rfl⟩ rfl rfl rfl rfl rfl (by kernel_rfl) Try.func3 (by kernel_rfl)
    (of_decide_eq_true (by kernel_rfl)) (by unfold Func.isWrapper; first | (rw [if_pos (by decide +kernel)]; kernel_rfl) | (rw [if_neg (by decide +kernel)]; exact ⟨rfl, rfl⟩))
    (fun os started H enc _ => lifted os started H enc)

/-- The statement. -/
theorem proved : Rows.Ipv6cpJudgesSaid := over
#print axioms proved
end Ipv6cpJudges
end Go.Proofs.Ytmopdimokoogmaa
