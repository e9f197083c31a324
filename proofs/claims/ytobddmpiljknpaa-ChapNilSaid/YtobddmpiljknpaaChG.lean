/-
  chap.Holds. Conditions: sizes.
-/
import Derived.Test.YtobddmpiljknpaaChF
namespace Go.Proofs.Ytobddmpiljknpaa
open Go.RowKit
set_option linter.unusedVariables false
set_option linter.unusedSimpArgs false

def hoF (c1 i1 : Int) (xs1 : List Int) (c2 i2 : Int) (xs2 : List Int) (nm : ByteArray) (us : List SV) : ByteArray × Int :=
  if c1 ≠ 1 ∨ c2 ≠ 2 then (⟨#[]⟩, 90) else if (rdF c1 i1 xs1).2 ≠ 0 then (⟨#[]⟩, (rdF c1 i1 xs1).2) else if (rdF c2 i2 xs2).2 ≠ 0 then (⟨#[]⟩, (rdF c2 i2 xs2).2) else if i1 ≠ i2 then (⟨#[]⟩, 201)
  else if strB (secW (strB (strOfNums (rdF c2 i2 xs2).1.2)) (strB nm) us) = [] then (⟨#[]⟩, 5)
  else if respD i1 (secW (strB (strOfNums (rdF c2 i2 xs2).1.2)) (strB nm) us) (rdF c1 i1 xs1).1.1 ≠ (rdF c2 i2 xs2).1.1 then (⟨#[]⟩, 120) else (strOfNums (rdF c2 i2 xs2).1.2, 0)
theorem respD_byt {id : Int} {s : ByteArray} {xs : List Int} : Byt (respD id s xs) := by
  unfold respD
  split
  · intro x hx
    rw [List.eq_of_mem_replicate hx]
    omega
  · exact digest_byt _
set_option maxRecDepth 100000 in
set_option maxHeartbeats 8000000 in
theorem holds_any (c1 i1 : Int) (A1 : Option Addr) (n1 k1 : Nat) (xs1 : List Int) (c2 i2 : Int) (A2 : Option Addr) (n2 k2 : Nat) (xs2 : List Int) (nm : ByteArray) (LA : Option Addr) (ln lc : Nat) (us : List SV) (hn1 : xs1.length = n1) (hm1 : n1 ≤ 140737488355200) (hb1 : Byt xs1) (hn2 : xs2.length = n2) (hm2 : n2 ≤ 140737488355200) (hb2 : Byt xs2) (hln : us.length = ln) (hln' : ln ≤ 17592186044416) (w : World)
    (hx1 : Cells w A1 (nums .u8 xs1)) (hx2 : Cells w A2 (nums .u8 xs2)) (hs : SecsAt w LA us) :
    Calls Try.prog 27 #[.agg #[.int .i64 c1, .int .i64 i1, .slice A1 n1 k1], .agg #[.int .i64 c2, .int .i64 i2, .slice A2 n2 k2], .string nm, .slice LA ln lc] w fun e w' => e = .returned (.tuple #[.string (hoF c1 i1 xs1 c2 i2 xs2 nm us).1, .int .i64 (hoF c1 i1 xs1 c2 i2 xs2 nm us).2]) ∧ Below w.heap.size w w' := by
  have Hn1 := Lib.hid hn1
  have HX1 := Lib.hid hx1
  have HB1 := Lib.hid hb1
  have Hn2 := Lib.hid hn2
  have HX2 := Lib.hid hx2
  have HB2 := Lib.hid hb2
  have HLN := Lib.hid hln
  have HS := Lib.hid hs
  clear hn1 hx1 hb1 hn2 hx2 hb2 hln hs
  go_enter Try.func27, Try.ntmps27
  go_upto_region 1 with fail
  obtain ⟨wb, hwb⟩ : ∃ wb, (w.alloc (.cells #[.int .i64 c1, .int .i64 i1, .slice A1 n1 k1] 24)).alloc (.cells #[.int .i64 c2, .int .i64 i2, .slice A2 n2 k2] 24) = wb := ⟨_, rfl⟩
  have HP : Hid (wb.heap[w.heap.size]? = some (.cells #[.int .i64 c1, .int .i64 i1, .slice A1 n1 k1] 24 (0, 0))) := by unfold Hid; rw [← hwb]; exact at_ext (at_new w _)
  have HQ : Hid (wb.heap[w.heap.size + 1]? = some (.cells #[.int .i64 c2, .int .i64 i2, .slice A2 n2 k2] 24 (0, 0))) := by unfold Hid; rw [← hwb]; exact at_new1 (by simp)
  have Sb : Step wb w := ⟨by rw [← hwb]; exact Ext.out⟩
  rw [hwb]
  clear hwb
  have p0 : wb.cell? ⟨w.heap.size, 0, none⟩ = some (.int .i64 c1) := at_cell HP.out 0
  have p1 : wb.cell? ⟨w.heap.size, 1, none⟩ = some (.int .i64 i1) := at_cell HP.out 1
  have p2 : wb.cell? ⟨w.heap.size, 2, none⟩ = some (.slice A1 n1 k1) := at_cell HP.out 2
  have q0 : wb.cell? ⟨w.heap.size + 1, 0, none⟩ = some (.int .i64 c2) := at_cell HQ.out 0
  by_cases z1 : c1 = 1
  case neg =>
    have HF : Hid (hoF c1 i1 xs1 c2 i2 xs2 nm us = (⟨#[]⟩, 90)) := if_pos (.inl z1)
    have z1' : (c1 != 1) = true := by simpa using z1
    clear z1
    go_wp2_with fail
    go_ret2
    exact ⟨by rw [HF.out]; rfl, (inferInstance : Ext w wb).out⟩
  subst z1
  by_cases z2 : c2 = 2
  case neg =>
    have HF : Hid (hoF 1 i1 xs1 c2 i2 xs2 nm us = (⟨#[]⟩, 90)) := if_pos (.inr z2)
    have z2' : (c2 != 2) = true := by simpa using z2
    clear z2
    go_wp2_with fail
    go_ret2
    exact ⟨by rw [HF.out]; rfl, (inferInstance : Ext w wb).out⟩
  subst z2
  obtain ⟨⟨⟨p, r⟩, e1⟩, hr1⟩ : ∃ F, rdF 1 i1 xs1 = F := ⟨_, rfl⟩
  obtain ⟨⟨⟨p', r'⟩, e2⟩, hr2⟩ : ∃ F, rdF 2 i2 xs2 = F := ⟨_, rfl⟩
  have HR1 := Lib.hid hr1
  have HR2 := Lib.hid hr2
  have HA1 := Lib.hid (rdF_all HB1.out hr1)
  have HA2 := Lib.hid (rdF_all HB2.out hr2)
  clear hr1 hr2
  go_wp2_with fail
  refine (read_any 1 i1 A1 n1 k1 xs1 Hn1.out hm1 HB1.out _ (by exact HX1.out.ext)).mono ?_
  rintro e w1 ⟨B1, m1, rfl, ho1, hb1⟩
  rw [HR1.out] at ho1 ⊢
  simp only at ho1 ⊢
  have S1 : Step w1 wb := ⟨hb1⟩
  have HO1 := Lib.hid ho1
  clear ho1 hb1 p0 p1 p2 q0
  by_cases z3 : e1 = 0
  case neg =>
    have HF : Hid (hoF 1 i1 xs1 2 i2 xs2 nm us = (⟨#[]⟩, e1)) := by unfold Hid hoF; rw [if_neg (by simp), HR1.out, if_pos z3]
    have z3' : (e1 != 0) = true := by simpa using z3
    clear z3
    go_wp2_with fail
    go_ret2
    exact ⟨by rw [HF.out]; rfl, (inferInstance : Ext w w1).out⟩
  subst z3
  have q0 : w1.cell? ⟨w.heap.size + 1, 0, none⟩ = some (.int .i64 2) := at_cell (at_ext HQ.out) 0
  have q1 : w1.cell? ⟨w.heap.size + 1, 1, none⟩ = some (.int .i64 i2) := at_cell (at_ext HQ.out) 1
  have q2 : w1.cell? ⟨w.heap.size + 1, 2, none⟩ = some (.slice A2 n2 k2) := at_cell (at_ext HQ.out) 2
  go_wp2_with fail
  refine (read_any 2 i2 A2 n2 k2 xs2 Hn2.out hm2 HB2.out _ (by exact HX2.out.ext)).mono ?_
  rintro e w2 ⟨B2, m2, rfl, ho2, hb2⟩
  rw [HR2.out] at ho2 ⊢
  simp only at ho2 ⊢
  have S2 : Step w2 w1 := ⟨hb2⟩
  have HO2 := Lib.hid ho2
  obtain ⟨sd, hsd⟩ : ∃ sd, strOfNums r' = sd := ⟨_, rfl⟩
  simp only [hsd]
  have HSD := Lib.hid hsd
  clear ho2 hb2 q0 q1 q2 hsd
  by_cases z4 : e2 = 0
  case neg =>
    have HF : Hid (hoF 1 i1 xs1 2 i2 xs2 nm us = (⟨#[]⟩, e2)) := by unfold Hid hoF; rw [if_neg (by simp), HR1.out, HR2.out, if_neg (by simp), if_pos z4]
    have z4' : (e2 != 0) = true := by simpa using z4
    clear z4
    go_wp2_with fail
    go_ret2
    exact ⟨by rw [HF.out]; rfl, (inferInstance : Ext w w2).out⟩
  subst z4
  have p1 : w2.cell? ⟨w.heap.size, 1, none⟩ = some (.int .i64 i1) := at_cell (at_ext HP.out) 1
  have q1 : w2.cell? ⟨w.heap.size + 1, 1, none⟩ = some (.int .i64 i2) := at_cell (at_ext HQ.out) 1
  by_cases z5 : i1 = i2
  case neg =>
    have HF : Hid (hoF 1 i1 xs1 2 i2 xs2 nm us = (⟨#[]⟩, 201)) := by unfold Hid hoF; rw [if_neg (by simp), HR1.out, HR2.out, if_neg (by simp), if_neg (by simp), if_pos z5]
    have z5' : (i1 != i2) = true := by simpa using z5
    clear z5
    go_wp2_with fail
    go_ret2
    exact ⟨by rw [HF.out]; rfl, (inferInstance : Ext w w2).out⟩
  subst z5
  have HFN : Hid (∀ R, (if strB (secW (strB sd) (strB nm) us) = [] then (⟨#[]⟩, 5)
      else if respD i1 (secW (strB sd) (strB nm) us) p ≠ p' then (⟨#[]⟩, 120) else (sd, 0)) = R → hoF 1 i1 xs1 2 i1 xs2 nm us = R) := by
    intro R h
    unfold hoF
    rw [if_neg (by simp), HR1.out, HR2.out, if_neg (by simp), if_neg (by simp), if_neg (by simp)]
    simp only [HSD.out]
    exact h
  go_wp2_with fail
  refine (word_any LA ln lc us sd nm HLN.out hln' _ (by exact HS.out.ext)).mono ?_
  rintro e w3 ⟨rfl, hb3⟩
  have S3 : Step w3 w2 := ⟨hb3⟩
  have HWS : Hid ((secW (strB sd) (strB nm) us).size ≤ 64) := secW_size
  obtain ⟨wd, hwd⟩ : ∃ wd, secW (strB sd) (strB nm) us = wd := ⟨_, rfl⟩
  rw [hwd] at HFN HWS ⊢
  clear hwd hb3 p1 q1
  by_cases z6 : wd.toList = []
  · have HF : Hid (hoF 1 i1 xs1 2 i1 xs2 nm us = (⟨#[]⟩, 5)) := HFN.out _ (if_pos (by unfold strB; rw [← Lib.toList_data, z6]; rfl))
    go_wp2_with fail
    go_ret2
    exact ⟨by rw [HF.out]; rfl, (inferInstance : Ext w w3).out⟩
  have z6b : (wd.toList == []) = false := by simpa using z6
  have z6c : wd.toList.isEmpty = false := by rw [List.isEmpty_eq_false_iff]; exact z6
  have HFM : Hid (∀ R, (if respD i1 wd p ≠ p' then (⟨#[]⟩, 120) else (sd, 0)) = R → hoF 1 i1 xs1 2 i1 xs2 nm us = R) := fun R h => HFN.out R ((if_neg (fun h => z6 (by unfold strB at h; rw [Lib.toList_data]; exact List.map_eq_nil_iff.1 h))).trans h)
  clear HFN z6
  have p1 : w3.cell? ⟨w.heap.size, 1, none⟩ = some (.int .i64 i1) := at_cell (at_ext HP.out) 1
  go_wp2_with fail
  refine (resp4_any i1 wd B1 p.length m1 p rfl (by have h1 := HWS.out; have h2 := HA1.out.1.2; omega) HA1.out.1.1 _ (own_cells (own_ext HO1.out))).mono ?_
  rintro e w4 ⟨rfl, hb4⟩
  have S4 : Step w4 w3 := ⟨hb4⟩
  have hl := respD_len i1 wd p
  have HDB : Hid (Byt (respD i1 wd p)) := respD_byt
  obtain ⟨ds, hds⟩ : ∃ ds, respD i1 wd p = ds := ⟨_, rfl⟩
  rw [hds] at HFM hl HDB ⊢
  have HI16 : Hid ((Try.prog.info? 47).map (·.size) = some (nums .u8 ds).toArray.size) := by
    unfold Hid
    rw [List.size_toArray, nums_length, hl]
    kernel_rfl
  have HZ16 : Hid ((nums .u8 (List.replicate 16 0)).toArray.size = (nums .u8 ds).toArray.size) := by
    unfold Hid
    rw [List.size_toArray, List.size_toArray, nums_length, nums_length, hl]
    rfl
  have HL := Lib.hid hl
  have pn : ∀ o, (w4.alloc o).heap[w4.heap.size]? = some o := at_new w4
  clear hb4 hl hds p1
  go_upto_region 15 with
    (refine wpList_store_row_o rfl 47 (.tmp 16) (.tmp 63) rfl w4.heap.size (nums .u8 ds).toArray rfl rfl 47 (nums .u8 (List.replicate 16 0)).toArray (pn _) HI16.out HZ16.out (one_all _ _) ?_
     intro w5 hr5 ho5 hz5 hb5
     have HR5 := Lib.hid hr5
     have X45 : Hid (Ext w4 w5) := ⟨hb5 _ _ (inferInstance : Ext w4 (w4.alloc _)).out (Nat.le_refl _)⟩
     clear hr5 ho5 hz5 hb5 pn)
  have S5 : Step w5 w4 := ⟨X45.out.out⟩
  go_wp2_with fail
  refine (equal4_any (some ⟨w4.heap.size, 0, none⟩) B2 16 p'.length 16 m2 ds p' HL.out rfl (by omega) (by have := HA2.out.1.2; omega) HDB.out HA2.out.1.1 _ (cells_row HR5.out) (own_cells (own_ext (w := w4) (own_ext (w := w3) (own_ext HO2.out))))).mono ?_
  rintro e w6 ⟨rfl, hd6⟩
  have S6 : Step w6 w5 := Step.drawn hd6
  clear hd6
  by_cases z7 : ds = p'
  · have HF : Hid (hoF 1 i1 xs1 2 i1 xs2 nm us = (sd, 0)) := HFM.out _ (if_neg (by simpa using z7))
    rw [decide_eq_true z7]
    clear z7
    go_wp2_with fail
    go_ret2
    exact ⟨by rw [HF.out]; rfl, (inferInstance : Ext w w6).out⟩
  · have HF : Hid (hoF 1 i1 xs1 2 i1 xs2 nm us = (⟨#[]⟩, 120)) := HFM.out _ (if_pos z7)
    rw [decide_eq_false z7]
    clear z7
    go_wp2_with fail
    go_ret2
    exact ⟨by rw [HF.out]; rfl, (inferInstance : Ext w w6).out⟩
end Go.Proofs.Ytobddmpiljknpaa
