/-
  tetherlaw13.ChapHolds: a response holds just if it is the digest of its identifier, the secret and the challenge: for every input the call answers true. No condition.
-/
import Derived.Test.YtobddmpiljknpaaCiF
import Derived.Test.YtobddmpiljknpaaB6
namespace Go.Proofs.Ytobddmpiljknpaa
open Go.RowKit
set_option linter.unusedVariables false
set_option linter.unusedSimpArgs false

theorem ho_ok {c1 i1 c2 i2 : Int} {xs1 xs2 : List Int} {nm who : ByteArray} {us : List SV} (h : hoF c1 i1 xs1 c2 i2 xs2 nm us = (who, 0)) :
    ∃ p r r' u, rdF c1 i1 xs1 = ((p, r), 0) ∧ rdF c2 i2 xs2 = ((respD i1 u.d p, r'), 0) ∧ who = strOfNums r' ∧ i1 = i2 ∧ findF (strB who) (strB nm) us = some u ∧ strB u.d ≠ [] ∧ 0 ≤ i1 ∧ i1 ≤ 255 := by
  unfold hoF at h
  split at h
  · simp at h
  split at h
  · rename_i h1
    injection h with _ h2
    exact absurd h2 h1
  split at h
  · rename_i h1
    injection h with _ h2
    exact absurd h2 h1
  split at h
  · simp at h
  split at h
  · simp at h
  split at h
  · simp at h
  rename_i h1 h2 h3 h4 h5 h6
  injection h with hw _
  have hid : 0 ≤ i1 ∧ i1 ≤ 255 := by
    have h7 : badP c1 i1 = false := by
      rcases hb : badP c1 i1 with _ | _
      · rfl
      · exact absurd h2 (by unfold rdF; rw [hb]; simp)
    unfold badP at h7
    have := of_decide_eq_false h7
    omega
  rw [hw] at h5 h6
  unfold secW at h5 h6
  rcases hq : findF (strB who) (strB nm) us with _ | u
  · rw [hq] at h5
    exact absurd (by rfl) h5
  · rw [hq] at h5 h6
    refine ⟨(rdF c1 i1 xs1).1.1, (rdF c1 i1 xs1).1.2, (rdF c2 i2 xs2).1.2, u, ?_, ?_, hw.symm, by simpa using h4, rfl, h5, hid⟩
    · exact Prod.ext rfl (by simpa using h2)
    · refine Prod.ext (Prod.ext ?_ rfl) (by simpa using h3)
      simpa using Eq.symm (Classical.not_not.1 h6)
set_option maxRecDepth 100000 in
set_option maxHeartbeats 8000000 in
theorem holds13_law (c1 i1 : Int) (A1 : Option Addr) (n1 k1 : Nat) (xs1 : List Int) (c2 i2 : Int) (A2 : Option Addr) (n2 k2 : Nat) (xs2 : List Int) (nm : ByteArray) (LA : Option Addr) (ln lc : Nat) (us : List SV) (hn1 : xs1.length = n1) (hm1 : n1 ≤ 140737488351232) (hc1 : n1 ≤ k1) (hb1 : Byt xs1) (hn2 : xs2.length = n2) (hm2 : n2 ≤ 140737488351232) (hc2 : n2 ≤ k2) (hb2 : Byt xs2) (hln : us.length = ln) (hln' : ln ≤ 17592186044416) (w : World)
    (hx1 : Cells w A1 (nums .u8 xs1)) (hx2 : Cells w A2 (nums .u8 xs2)) (hs : SecsAt w LA us) :
    Calls Try.prog 5 #[.agg #[.int .i64 c1, .int .i64 i1, .slice A1 n1 k1], .agg #[.int .i64 c2, .int .i64 i2, .slice A2 n2 k2], .string nm, .slice LA ln lc] w fun e w' => e = .returned (.bool true) ∧ Below w.heap.size w w' := by
  have Hn1 := Lib.hid hn1
  have HX1 := Lib.hid hx1
  have HB1 := Lib.hid hb1
  have Hn2 := Lib.hid hn2
  have HX2 := Lib.hid hx2
  have HB2 := Lib.hid hb2
  have HLN := Lib.hid hln
  have HS := Lib.hid hs
  clear hn1 hx1 hb1 hn2 hx2 hb2 hln hs
  obtain ⟨⟨who, ee⟩, hr⟩ : ∃ F, hoF c1 i1 xs1 c2 i2 xs2 nm us = F := ⟨_, rfl⟩
  have HF := Lib.hid hr
  clear hr
  go_enter Try.func5, Try.ntmps5
  go_upto_region 1 with fail
  obtain ⟨wb, hwb⟩ : ∃ wb, (w.alloc (.cells #[.int .i64 c1, .int .i64 i1, .slice A1 n1 k1] 24)).alloc (.cells #[.int .i64 c2, .int .i64 i2, .slice A2 n2 k2] 24) = wb := ⟨_, rfl⟩
  have HP : Hid (wb.heap[w.heap.size]? = some (.cells #[.int .i64 c1, .int .i64 i1, .slice A1 n1 k1] 24 (0, 0))) := by unfold Hid; rw [← hwb]; exact at_ext (at_new w _)
  have HQ : Hid (wb.heap[w.heap.size + 1]? = some (.cells #[.int .i64 c2, .int .i64 i2, .slice A2 n2 k2] 24 (0, 0))) := by unfold Hid; rw [← hwb]; exact at_new1 (by simp)
  have Sb : Step wb w := ⟨by rw [← hwb]; exact Ext.out⟩
  rw [hwb]
  clear hwb
  have HPb := Lib.hid (at_ext (w' := wb) HP.out)
  have HQb := Lib.hid (at_ext (w' := wb) HQ.out)
  have pa : wb.cell? ⟨w.heap.size, 0, none⟩ = some (.int .i64 c1) := at_cell HPb.out 0
  have pb : wb.cell? ⟨w.heap.size, 1, none⟩ = some (.int .i64 i1) := at_cell HPb.out 1
  have pc : wb.cell? ⟨w.heap.size, 2, none⟩ = some (.slice A1 n1 k1) := at_cell HPb.out 2
  have qa : wb.cell? ⟨(w.heap.size + 1), 0, none⟩ = some (.int .i64 c2) := at_cell HQb.out 0
  have qb : wb.cell? ⟨(w.heap.size + 1), 1, none⟩ = some (.int .i64 i2) := at_cell HQb.out 1
  have qc : wb.cell? ⟨(w.heap.size + 1), 2, none⟩ = some (.slice A2 n2 k2) := at_cell HQb.out 2
  go_wp2_with fail
  refine (holds_any c1 i1 A1 n1 k1 xs1 c2 i2 A2 n2 k2 xs2 nm LA ln lc us Hn1.out (by omega) HB1.out Hn2.out (by omega) HB2.out HLN.out hln' _ (by exact HX1.out.ext) (by exact HX2.out.ext) (by exact HS.out.ext)).mono ?_
  rintro e w1 ⟨rfl, hb1⟩
  rw [HF.out]
  simp only
  have S1 : Step w1 wb := ⟨hb1⟩
  clear hb1 HPb HQb pa pb pc qa qb qc
  have HPb := Lib.hid (at_ext (w' := w1) HP.out)
  have HQb := Lib.hid (at_ext (w' := w1) HQ.out)
  have pa : w1.cell? ⟨w.heap.size, 0, none⟩ = some (.int .i64 c1) := at_cell HPb.out 0
  have pb : w1.cell? ⟨w.heap.size, 1, none⟩ = some (.int .i64 i1) := at_cell HPb.out 1
  have pc : w1.cell? ⟨w.heap.size, 2, none⟩ = some (.slice A1 n1 k1) := at_cell HPb.out 2
  have qa : w1.cell? ⟨(w.heap.size + 1), 0, none⟩ = some (.int .i64 c2) := at_cell HQb.out 0
  have qb : w1.cell? ⟨(w.heap.size + 1), 1, none⟩ = some (.int .i64 i2) := at_cell HQb.out 1
  have qc : w1.cell? ⟨(w.heap.size + 1), 2, none⟩ = some (.slice A2 n2 k2) := at_cell HQb.out 2
  go_wp2_with fail
  refine (rholds_any c1 i1 A1 n1 k1 xs1 c2 i2 A2 n2 k2 xs2 nm LA ln lc us Hn1.out (by omega) hc1 HB1.out Hn2.out (by omega) hc2 HB2.out HLN.out hln' _ (by exact HX1.out.ext) (by exact HX2.out.ext) (by exact HS.out.ext)).mono ?_
  rintro e w2 ⟨rfl, hb2⟩
  rw [HF.out]
  simp only
  have S2 : Step w2 w1 := ⟨hb2⟩
  clear hb2 HPb HQb pa pb pc qa qb qc
  by_cases z : ee = 0
  case neg =>
    have z' : (ee != 0) = true := by simpa using z
    clear z
    go_wp2_with fail
    refine (known13_any _).mono ?_
    rintro e w3 ⟨rfl, hb3⟩
    have S3 : Step w3 w2 := ⟨hb3⟩
    clear hb3
    go_wp2
    go_ret
    exact ⟨rfl, Ext.out⟩
  subst z
  obtain ⟨p, r, r', ⟨uc, uss, wd, uA, un, uk, ux⟩, hr1, hr2, hwho, hii, hfind, hwd, hi0, hi1⟩ := ho_ok HF.out
  subst hii
  have HR1 := Lib.hid hr1
  have HR2 := Lib.hid hr2
  have HA1 := Lib.hid (rdF_all HB1.out hr1)
  have HFD := Lib.hid hfind
  have HW64 : Hid (wd.size ≤ 64) := by
    have h := secW_size (c := strB who) (s := strB nm) (us := us)
    unfold secW at h
    rw [hfind] at h
    exact h
  have hwl : wd.toList ≠ [] := fun h => hwd (by unfold strB; rw [← Lib.toList_data, h]; rfl)
  have z6b : (wd.toList == []) = false := by simpa using hwl
  have z6c : wd.toList.isEmpty = false := by rw [List.isEmpty_eq_false_iff]; exact hwl
  have HWH := Lib.hid hwho
  have HRE : Hid (respE i1 = 0) := if_neg (by omega)
  clear hr1 hr2 hwho hfind hwd hwl HF
  have HPb := Lib.hid (at_ext (w' := w2) HP.out)
  have pa : w2.cell? ⟨w.heap.size, 0, none⟩ = some (.int .i64 c1) := at_cell HPb.out 0
  have pb : w2.cell? ⟨w.heap.size, 1, none⟩ = some (.int .i64 i1) := at_cell HPb.out 1
  have pc : w2.cell? ⟨w.heap.size, 2, none⟩ = some (.slice A1 n1 k1) := at_cell HPb.out 2
  go_wp2_with fail
  refine (rread_any c1 i1 A1 n1 k1 xs1 Hn1.out (by omega) hc1 HB1.out _ (by exact HX1.out.ext)).mono ?_
  rintro e w3 ⟨B1, m1, rfl, ho3, hb3⟩
  rw [HR1.out] at ho3 ⊢
  simp only at ho3 ⊢
  have S3 : Step w3 w2 := ⟨hb3⟩
  have HO3 := Lib.hid ho3
  obtain ⟨rr, hrr⟩ : ∃ rr, strOfNums r = rr := ⟨_, rfl⟩
  rw [hrr]
  clear ho3 hb3 HPb pa pb pc hrr
  have HQb := Lib.hid (at_ext (w' := w3) HQ.out)
  have qa : w3.cell? ⟨(w.heap.size + 1), 0, none⟩ = some (.int .i64 c2) := at_cell HQb.out 0
  have qb : w3.cell? ⟨(w.heap.size + 1), 1, none⟩ = some (.int .i64 i1) := at_cell HQb.out 1
  have qc : w3.cell? ⟨(w.heap.size + 1), 2, none⟩ = some (.slice A2 n2 k2) := at_cell HQb.out 2
  go_wp2_with fail
  refine (rread_any c2 i1 A2 n2 k2 xs2 Hn2.out (by omega) hc2 HB2.out _ (by exact HX2.out.ext)).mono ?_
  rintro e w4 ⟨B2, m2, rfl, ho4, hb4⟩
  rw [HR2.out] at ho4 ⊢
  have hl := respD_len i1 wd p
  have HDB : Hid (Byt (respD i1 wd p)) := respD_byt
  obtain ⟨ds, hds⟩ : ∃ ds, respD i1 wd p = ds := ⟨_, rfl⟩
  simp only [hds] at ho4 hl HDB ⊢
  have HDS := Lib.hid hds
  have HDL := Lib.hid hl
  have S4 : Step w4 w3 := ⟨hb4⟩
  rw [← HWH.out]
  simp only [hl] at ho4 ⊢
  have HO4 := Lib.hid ho4
  clear ho4 hb4 HQb qa qb qc hds hl
  go_wp2_with fail
  refine (rfind_any LA ln lc us who nm HLN.out hln' _ (by exact HS.out.ext)).mono ?_
  rintro e w5 ⟨hb5, he⟩
  rw [HFD.out] at he
  simp only [SV.val] at he
  subst he
  have S5 : Step w5 w4 := ⟨hb5⟩
  clear hb5
  have pn : ∀ o, (w5.alloc o).heap[w5.heap.size]? = some o := at_new w5
  go_upto_region 10 with
    (refine wpList_store_row_o rfl 44 (.tmp 19) (.tmp 67) rfl w5.heap.size #[.string uc, .string uss, .string wd, .slice uA un uk] rfl rfl 44 zSec (pn _) (by kernel_rfl) rfl (by simp [Value.oneCell']) ?_
     intro w6 hr6 ho6 hz6 hb6
     have HR6 := Lib.hid hr6
     have S6 : Step w6 w5 := ⟨hb6 _ _ (inferInstance : Ext w5 (w5.alloc _)).out (Nat.le_refl _)⟩
     have k2' : w6.cell? ⟨w5.heap.size, 2, none⟩ = some (.string wd) := at_cell hr6 2
     clear hr6 ho6 hz6 hb6 pn)
  have pb : w6.cell? ⟨w.heap.size, 1, none⟩ = some (.int .i64 i1) := at_cell (at_ext HP.out) 1
  go_wp2_with fail
  refine (rresp4_any i1 wd B1 p.length m1 p rfl (by have h1 := HW64.out; have h2 := HA1.out.1.2; omega) HA1.out.1.1 _ (own_cells (own_ext (w := w3) HO3.out))).mono ?_
  rintro e w7 ⟨rfl, hb7⟩
  rw [HDS.out, HRE.out]
  have S7 : Step w7 w6 := ⟨hb7⟩
  have hl := HDL.out
  have HI16 : Hid ((Try.prog.info? 47).map (·.size) = some (nums .u8 ds).toArray.size) := by
    unfold Hid
    rw [List.size_toArray, nums_length, hl]
    kernel_rfl
  have HZ16 : Hid ((nums .u8 (List.replicate 16 0)).toArray.size = (nums .u8 ds).toArray.size) := by
    unfold Hid
    rw [List.size_toArray, List.size_toArray, nums_length, nums_length, hl]
    rfl
  clear hb7 hl pb k2'
  have pn : ∀ o, (w7.alloc o).heap[w7.heap.size]? = some o := at_new w7
  go_upto_region 11 with
    (refine wpList_store_row_o rfl 47 (.tmp 21) (.tmp 76) rfl w7.heap.size (nums .u8 ds).toArray rfl rfl 47 (nums .u8 (List.replicate 16 0)).toArray (pn _) HI16.out HZ16.out (one_all _ _) ?_
     intro w8 hr8 ho8 hz8 hb8
     have HR8 := Lib.hid hr8
     have S8 : Step w8 w7 := ⟨hb8 _ _ (inferInstance : Ext w7 (w7.alloc _)).out (Nat.le_refl _)⟩
     clear hr8 ho8 hz8 hb8 pn)
  have pb : w8.cell? ⟨w.heap.size, 1, none⟩ = some (.int .i64 i1) := at_cell (at_ext HP.out) 1
  have qb : w8.cell? ⟨w.heap.size + 1, 1, none⟩ = some (.int .i64 i1) := at_cell (at_ext HQ.out) 1
  have k2' : w8.cell? ⟨w5.heap.size, 2, none⟩ = some (.string wd) := at_cell (at_ext HR6.out) 2
  go_wp2_with fail
  refine (same_any B2 (some ⟨w7.heap.size, 0, none⟩) 16 16 m2 16 ds ds HDL.out HDL.out (by omega) (by omega) _ (own_cells (own_ext (w := w4) HO4.out)) (cells_row HR8.out)).mono ?_
  rintro e w9 ⟨rfl, hd9⟩
  have S9 : Step w9 w8 := Step.drawn hd9
  rw [decide_eq_true rfl]
  clear hd9 pb qb k2'
  go_wp2_with fail
  refine (known13_any _).mono ?_
  rintro e w10 ⟨rfl, hb10⟩
  have S10 : Step w10 w9 := ⟨hb10⟩
  clear hb10
  go_wp2
  go_ret
  exact ⟨rfl, Ext.out⟩
namespace ChapHolds
set_option maxRecDepth 100000 in
theorem walk (U : Nat) (W : World) (vs : List Value) (h : Args U Try.prog W Try.f5.params.toList vs) : Calls Try.prog 5 vs.toArray W fun e W' => e = .returned (.bool true) ∧ Below W.heap.size W W' := by
  rw [Try.params5] at h
  match vs, h with
  | [v0, v1, v2, v3], ⟨h0, h1, h2, h3, _⟩ =>
    obtain ⟨c1, i1, A1, n1, k1, xs1, rfl, hl1, hn1, hnc1, hC1, hB1, _⟩ := arg_packet h0
    obtain ⟨c2, i2, A2, n2, k2, xs2, rfl, hl2, hn2, hnc2, hC2, hB2, _⟩ := arg_packet h1
    obtain ⟨nm, rfl, hnm⟩ := h2.str Try.underlying9
    obtain ⟨LA, ln, lc, us, rfl, hll, hln, _, hs⟩ := Arg.secs h3
    exact holds13_law c1 i1 A1 n1 k1 xs1 c2 i2 A2 n2 k2 xs2 nm LA ln lc us hl1 hn1 hnc1 hB1 hl2 hn2 hnc2 hB2 hll hln W hC1 hC2 hs

set_option maxRecDepth 100000 in
theorem lifted (os : Os) (started : os.Started) (H : Type) (enc : TypeId × Value → H) :
    ReturnsInHanded {} Try.checked os 5 .any (Rows.chapHoldsSpec.pre6 enc Try.prog Try.f5 Rows.chapHoldsRow.domain false) (Rows.chapHoldsSpec.post enc Try.prog Try.f5 false true false false) :=
  law_lifted (C := Try.checked) laid_out own_knob started (by kernel_rfl) Try.func5 H enc rfl
    (fun ds hd => by
      have : ds.length = 4 := hd
      match ds, this with
      | [_, _, _, _], _ => exact ⟨rfl, rfl, rfl⟩) rfl Try.underlying4 (by
      have : (Try.f5.params.toList.all fun t => Try.prog.readableRec t && decide (t < Try.prog.types.size)) = true := by kernel_rfl
      intro t ht
      have h := List.all_eq_true.1 this t ht
      rw [Bool.and_eq_true, decide_eq_true_eq] at h
      exact h)
    (ChangeSpec.witness6 (enc := enc) (C := Try.checked) false ⟨#[], #[.agg #[.int .i64 0, .int .i64 0, .slice none 0 0], .agg #[.int .i64 0, .int .i64 0, .slice none 0 0], .string ⟨#[]⟩, .slice none 0 0], []⟩ 8 (by kernel_rfl) (by kernel_rfl) (by kernel_rfl) (by kernel_rfl)) walk

theorem over : Rows.chapHoldsRow.holds Try.pinned (OpenSpec.ofChange Rows.chapHoldsSpec) :=
  OpenClaim.holds_of_wide 5 Try.f5 rfl rfl rfl rfl rfl rfl rfl ⟨rfl, rfl, rfl, rfl, rfl⟩ rfl rfl rfl rfl rfl (by kernel_rfl) Try.func5 (by kernel_rfl)
    (of_decide_eq_true (by kernel_rfl)) (by unfold Func.isWrapper; first | (rw [if_pos (by decide +kernel)]; kernel_rfl) | (rw [if_neg (by decide +kernel)]; exact ⟨rfl, rfl⟩))
    (fun os started H enc _ => lifted os started H enc)

/-- The statement. -/
theorem proved : Rows.ChapHoldsSaid := over
#print axioms proved
end ChapHolds
end Go.Proofs.Ytobddmpiljknpaa
