/-
  chap: what a packet says (proof's parts). Conditions: sizes.
-/
import Derived.Test.YtobddmpiljknpaaChA
import Derived.Test.YtobddmpiljknpaaReader
namespace Go.Proofs.Ytobddmpiljknpaa
open Go.RowKit
set_option linter.unusedVariables false
set_option linter.unusedSimpArgs false

def prtF : List Int → Option (List Int × List Int)
  | [] => none
  | x :: xs => if (xs.length : Int) < x then none else some (xs.take x.toNat, xs.drop x.toNat)
def ptsF (xs : List Int) : (List Int × List Int) × Int := match prtF xs with
  | none => (([], []), 8)
  | some (p, r) => if p = [] then (([], []), 4) else if nameF r = false then (([], []), 60) else ((p, r), 0)
def PartsTells (r : (List Int × List Int) × Int) (w : World) (e : Ending) (w' : World) : Prop :=
  ∃ A c, e = .returned (.tuple #[.slice A r.1.1.length c, .string (strOfNums r.1.2), .int .i64 r.2]) ∧ w'.ownsRow w.heap.size 5 1 (.slice A r.1.1.length c) r.1.1.length (nums .u8 r.1.1) ∧ Below w.heap.size w w'
theorem parts_no {F : (List Int × List Int) × Int} {x : Int} {w w' : World} (h : F = (([], []), x)) (hb : Below w.heap.size w w') : PartsTells F w (.returned (.tuple #[.slice none 0 0, .string ⟨#[]⟩, .int .i64 x])) w' := by
  rw [h]
  exact ⟨none, 0, rfl, own_nil _ _ _ _, hb⟩
/-- What stands behind a call of the reader. -/
theorem rd_ext {w0 w w1 : World} {R : Nat} (h : Ext w0 w) (hg : w.grownBy w1 (some R)) (hR : w0.heap.size ≤ R) : Ext w0 w1 := ⟨below_grown h.out h.out.size hg (fun k hk => by injection hk with hk; omega)⟩
set_option maxRecDepth 100000 in
set_option maxHeartbeats 8000000 in
theorem parts_any (A : Option Addr) (n c : Nat) (xs : List Int) (hn : xs.length = n) (hn' : n ≤ 140737488355200) (hb : Byt xs) (w : World) (hx : Cells w A (nums .u8 xs)) :
    Calls Try.prog 88 #[.agg #[.slice A n c]] w (PartsTells (ptsF xs) w) := by
  have Hn := Lib.hid hn
  have HX := Lib.hid hx
  have HB := Lib.hid hb
  clear hn hx hb
  rcases xs with _ | ⟨x, ys⟩
  · have HF : Hid (ptsF [] = (([], []), 8)) := rfl
    have HT1 : Hid (rdTake [] 0 (decide (1 ≤ (1 : Int)) && decide ((1 : Int) ≤ 8)) 1 = ([], [], 8)) := by rfl
    have HT2 : Hid (rdTake [] 8 (decide (0 ≤ (0 : Int))) 0 = ([], [], 8)) := by rfl
    have HT3 : Hid (rdTake [] 8 true (rdLeft [] 8) = ([], [], 8)) := by rfl
    have hg0 : getN [] = 0 := by rfl
    go_enter Try.func88, Try.ntmps88
    go_upto_region 1 with fail
    obtain ⟨wb, hwb⟩ : ∃ wb, w.alloc (.cells #[.slice A n c] 140) = wb := ⟨_, rfl⟩
    have HP : Hid (wb.heap[w.heap.size]? = some (.cells #[.slice A n c] 140 (0, 0))) := by unfold Hid; rw [← hwb]; exact at_new w _
    have Sb : Step wb w := ⟨by rw [← hwb]; exact Ext.out⟩
    rw [hwb]
    clear hwb
    have p0 : wb.cell? ⟨w.heap.size, 0, none⟩ = some (.slice A n c) := at_cell HP.out 0
    go_wp2_with fail
    refine (newReader_any A n c [] Hn.out (by omega) _ (by exact HX.out.ext)).mono ?_
    rintro e w1 ⟨R, D, rfl, hr1, hR, hD, hR', hD', hb1⟩
    have HR1 := Lib.hid hr1
    have S1 : Step w1 wb := ⟨hb1⟩
    have X1 : Hid (Ext w w1) := (inferInstance : Ext w w1)
    have HRW : Hid (w.heap.size ≤ R ∧ R < w1.heap.size) := ⟨Nat.le_trans Sb.out.size hR, hR'⟩
    clear p0 hr1 hR hD hR' hD' hb1
    go_wp2_with fail
    refine (num_any R D [] 0 1 (by decide) (by decide) HB.out (by rw [Hn.out]; omega) _ HR1.out).mono ?_
    rintro e w2 ⟨rfl, hr2, hg2⟩
    rw [HT1.out] at hr2 ⊢
    simp only at hr2 ⊢
    have HR2 := Lib.hid hr2
    have X2 : Hid (Ext w w2) := rd_ext X1.out hg2 HRW.out.1
    have HZ2 : Hid (R < w2.heap.size) := hr2.lt
    clear hr2 hg2
    rw [hg0]
    go_wp2_with fail
    refine (take_any R D [] 8 0 (by omega) (by omega) (by simp) _ HR2.out).mono ?_
    rintro e w3 ⟨v3, rfl, ho3, hr3, hg3⟩
    rw [HT2.out] at ho3 hr3
    simp only at ho3 hr3
    obtain ⟨A3, c3, rfl, hc3⟩ := own_slice ho3
    have HO3 := Lib.hid ho3
    have HR3 := Lib.hid hr3
    have X3 : Hid (Ext w w3) := rd_ext X2.out hg3 HRW.out.1
    have HZ3 : Hid (R < w3.heap.size) := hr3.lt
    clear ho3 hr3 hg3 hc3
    go_wp2_with fail
    refine (rest_any R D [] 8 (by simp) _ HR3.out).mono ?_
    rintro e w4 ⟨v4, rfl, ho4, hr4, hg4⟩
    rw [HT3.out] at ho4 hr4
    simp only at ho4 hr4
    obtain ⟨A4, c4, rfl, hc4⟩ := own_slice ho4
    have HR4 := Lib.hid hr4
    have X4 : Hid (Ext w w4) := rd_ext X3.out hg4 HRW.out.1
    have HO34 := Lib.hid (own_grown HO3.out hg4 (.inr fun h => by have h1 := own_base HO3.out _ h; have h2 := HZ2.out; omega))
    have hcv := conv_cells (P := Try.prog) (c := c4) 22 5 9 Try.underlying22 Try.underlying5 Try.underlying9 rfl (own_cells ho4)
    try simp only [List.length_nil] at hcv
    clear ho4 hr4 hg4 hc4
    go_wp2_with fail
    refine (err_any R D _ _ _ HR4.out).mono ?_
    rintro e w5 ⟨rfl, rfl⟩
    go_wp2_with fail
    go_ret3
    exact parts_no HF.out X4.out.out
  have hx0 := HB.out x (by simp)
  have hx1 := hx0.1
  have hx2 := hx0.2
  have hyl : ys.length ≤ 140737488355200 := by have h : ys.length + 1 = n := Hn.out; omega
  have HT1 : Hid (rdTake (x :: ys) 0 (decide (1 ≤ (1 : Int)) && decide ((1 : Int) ≤ 8)) 1 = ([x], ys, 0)) := by
    have h := rdTake_ok (xs := x :: ys) (n := 1) (by simp; omega)
    unfold Hid
    simpa using h
  have hg0 : getN [x] = x := by simp [getN]
  by_cases hlt : (ys.length : Int) < x
  · have HF : Hid (ptsF (x :: ys) = (([], []), 8)) := by unfold Hid ptsF; rw [show prtF (x :: ys) = none from if_pos hlt]
    have HT2 : Hid (rdTake ys 0 (decide (0 ≤ x)) x = ([], ys, 8)) := by unfold Hid; rw [decide_eq_true hx1]; exact rdTake_long hlt
    have HT3 : Hid (rdTake ys 8 true (rdLeft ys 8) = ([], ys, 8)) := rdTake_err (by decide)
    go_enter Try.func88, Try.ntmps88
    go_upto_region 1 with fail
    obtain ⟨wb, hwb⟩ : ∃ wb, w.alloc (.cells #[.slice A n c] 140) = wb := ⟨_, rfl⟩
    have HP : Hid (wb.heap[w.heap.size]? = some (.cells #[.slice A n c] 140 (0, 0))) := by unfold Hid; rw [← hwb]; exact at_new w _
    have Sb : Step wb w := ⟨by rw [← hwb]; exact Ext.out⟩
    rw [hwb]
    clear hwb
    have p0 : wb.cell? ⟨w.heap.size, 0, none⟩ = some (.slice A n c) := at_cell HP.out 0
    go_wp2_with fail
    refine (newReader_any A n c (x :: ys) Hn.out (by omega) _ (by exact HX.out.ext)).mono ?_
    rintro e w1 ⟨R, D, rfl, hr1, hR, hD, hR', hD', hb1⟩
    have HR1 := Lib.hid hr1
    have S1 : Step w1 wb := ⟨hb1⟩
    have X1 : Hid (Ext w w1) := (inferInstance : Ext w w1)
    have HRW : Hid (w.heap.size ≤ R ∧ R < w1.heap.size) := ⟨Nat.le_trans Sb.out.size hR, hR'⟩
    clear p0 hr1 hR hD hR' hD' hb1
    go_wp2_with fail
    refine (num_any R D (x :: ys) 0 1 (by decide) (by decide) HB.out (by rw [Hn.out]; omega) _ HR1.out).mono ?_
    rintro e w2 ⟨rfl, hr2, hg2⟩
    rw [HT1.out] at hr2 ⊢
    simp only at hr2 ⊢
    have HR2 := Lib.hid hr2
    have X2 : Hid (Ext w w2) := rd_ext X1.out hg2 HRW.out.1
    have HZ2 : Hid (R < w2.heap.size) := hr2.lt
    clear hr2 hg2
    rw [hg0]
    go_wp2_with fail
    refine (take_any R D ys 0 x (by omega) (by omega) hyl _ HR2.out).mono ?_
    rintro e w3 ⟨v3, rfl, ho3, hr3, hg3⟩
    rw [HT2.out] at ho3 hr3
    simp only at ho3 hr3
    obtain ⟨A3, c3, rfl, hc3⟩ := own_slice ho3
    have HO3 := Lib.hid ho3
    have HR3 := Lib.hid hr3
    have X3 : Hid (Ext w w3) := rd_ext X2.out hg3 HRW.out.1
    have HZ3 : Hid (R < w3.heap.size) := hr3.lt
    clear ho3 hr3 hg3 hc3
    go_wp2_with fail
    refine (rest_any R D ys 8 hyl _ HR3.out).mono ?_
    rintro e w4 ⟨v4, rfl, ho4, hr4, hg4⟩
    rw [HT3.out] at ho4 hr4
    simp only at ho4 hr4
    obtain ⟨A4, c4, rfl, hc4⟩ := own_slice ho4
    have HR4 := Lib.hid hr4
    have X4 : Hid (Ext w w4) := rd_ext X3.out hg4 HRW.out.1
    have HO34 := Lib.hid (own_grown HO3.out hg4 (.inr fun h => by have h1 := own_base HO3.out _ h; have h2 := HZ2.out; omega))
    have hcv := conv_cells (P := Try.prog) (c := c4) 22 5 9 Try.underlying22 Try.underlying5 Try.underlying9 rfl (own_cells ho4)
    try simp only [List.length_nil] at hcv
    clear ho4 hr4 hg4 hc4
    go_wp2_with fail
    refine (err_any R D _ _ _ HR4.out).mono ?_
    rintro e w5 ⟨rfl, rfl⟩
    go_wp2_with fail
    go_ret3
    exact parts_no HF.out X4.out.out
  obtain ⟨p, hp⟩ : ∃ p, ys.take x.toNat = p := ⟨_, rfl⟩
  obtain ⟨r, hr⟩ : ∃ r, ys.drop x.toNat = r := ⟨_, rfl⟩
  have HPR : Hid (prtF (x :: ys) = some (p, r)) := by unfold Hid; rw [← hp, ← hr]; exact if_neg hlt
  have HT2 : Hid (rdTake ys 0 (decide (0 ≤ x)) x = (p, r, 0)) := by unfold Hid; rw [decide_eq_true hx1, ← hp, ← hr]; exact rdTake_ok hlt
  have HPL : Hid ((p.length : Int) = x) := by unfold Hid; rw [← hp, List.length_take]; omega
  have HRL : Hid (r.length ≤ 140737488355200) := by unfold Hid; rw [← hr, List.length_drop]; omega
  have HRB : Hid (Byt r) := fun y hy => HB.out y (List.mem_cons_of_mem _ (List.mem_of_mem_drop (by rw [hr]; exact hy)))
  have HT3 : Hid (rdTake r 0 true (rdLeft r 0) = (r, [], 0)) := by
    have h := rdTake_ok (xs := r) (n := rdLeft r 0) (by simp [rdLeft])
    unfold Hid
    rw [h]
    simp [rdLeft]
  clear hp hr
  by_cases hz : x = 0
  · have hpn : p = [] := List.eq_nil_of_length_eq_zero (by have := HPL.out; omega)
    have HF : Hid (ptsF (x :: ys) = (([], []), 4)) := by unfold Hid ptsF; rw [HPR.out]; exact if_pos hpn
    clear hpn
    subst hz
    go_enter Try.func88, Try.ntmps88
    go_upto_region 1 with fail
    obtain ⟨wb, hwb⟩ : ∃ wb, w.alloc (.cells #[.slice A n c] 140) = wb := ⟨_, rfl⟩
    have HP : Hid (wb.heap[w.heap.size]? = some (.cells #[.slice A n c] 140 (0, 0))) := by unfold Hid; rw [← hwb]; exact at_new w _
    have Sb : Step wb w := ⟨by rw [← hwb]; exact Ext.out⟩
    rw [hwb]
    clear hwb
    have p0 : wb.cell? ⟨w.heap.size, 0, none⟩ = some (.slice A n c) := at_cell HP.out 0
    go_wp2_with fail
    refine (newReader_any A n c (0 :: ys) Hn.out (by omega) _ (by exact HX.out.ext)).mono ?_
    rintro e w1 ⟨R, D, rfl, hr1, hR, hD, hR', hD', hb1⟩
    have HR1 := Lib.hid hr1
    have S1 : Step w1 wb := ⟨hb1⟩
    have X1 : Hid (Ext w w1) := (inferInstance : Ext w w1)
    have HRW : Hid (w.heap.size ≤ R ∧ R < w1.heap.size) := ⟨Nat.le_trans Sb.out.size hR, hR'⟩
    clear p0 hr1 hR hD hR' hD' hb1
    go_wp2_with fail
    refine (num_any R D (0 :: ys) 0 1 (by decide) (by decide) HB.out (by rw [Hn.out]; omega) _ HR1.out).mono ?_
    rintro e w2 ⟨rfl, hr2, hg2⟩
    rw [HT1.out] at hr2 ⊢
    simp only at hr2 ⊢
    have HR2 := Lib.hid hr2
    have X2 : Hid (Ext w w2) := rd_ext X1.out hg2 HRW.out.1
    have HZ2 : Hid (R < w2.heap.size) := hr2.lt
    clear hr2 hg2
    rw [hg0]
    go_wp2_with fail
    refine (take_any R D ys 0 0 (by omega) (by omega) hyl _ HR2.out).mono ?_
    rintro e w3 ⟨v3, rfl, ho3, hr3, hg3⟩
    rw [HT2.out] at ho3 hr3
    simp only at ho3 hr3
    obtain ⟨A3, c3, rfl, hc3⟩ := own_slice ho3
    have HO3 := Lib.hid ho3
    have HR3 := Lib.hid hr3
    have X3 : Hid (Ext w w3) := rd_ext X2.out hg3 HRW.out.1
    have HZ3 : Hid (R < w3.heap.size) := hr3.lt
    clear ho3 hr3 hg3 hc3
    go_wp2_with fail
    refine (rest_any R D r 0 HRL.out _ HR3.out).mono ?_
    rintro e w4 ⟨v4, rfl, ho4, hr4, hg4⟩
    rw [HT3.out] at ho4 hr4
    simp only at ho4 hr4
    obtain ⟨A4, c4, rfl, hc4⟩ := own_slice ho4
    have HR4 := Lib.hid hr4
    have X4 : Hid (Ext w w4) := rd_ext X3.out hg4 HRW.out.1
    have HO34 := Lib.hid (own_grown HO3.out hg4 (.inr fun h => by have h1 := own_base HO3.out _ h; have h2 := HZ2.out; omega))
    have hcv := conv_cells (P := Try.prog) (c := c4) 22 5 9 Try.underlying22 Try.underlying5 Try.underlying9 rfl (own_cells ho4)
    try simp only [List.length_nil] at hcv
    clear ho4 hr4 hg4 hc4
    go_wp2_with fail
    refine (err_any R D _ _ _ HR4.out).mono ?_
    rintro e w5 ⟨rfl, rfl⟩
    go_wp2_with fail
    go_ret3
    exact parts_no HF.out X4.out.out
  have hzb : (x == 0) = false := by simpa using hz
  have hpn : p ≠ [] := fun h => hz (by have h2 := HPL.out; rw [h] at h2; simpa using h2.symm)
  have HNS : Hid ((strOfNums r).size ≤ 140737488355328) := by unfold Hid; rw [← strB_len, strB_str _ HRB.out]; have := HRL.out; omega
  rcases hnm : nameF r with _ | _
  · have HF : Hid (ptsF (x :: ys) = (([], []), 60)) := by unfold Hid ptsF; rw [HPR.out]; simp only; rw [if_neg hpn, if_pos hnm]
    have HNM : Hid (nameF (strB (strOfNums r)) = false) := by unfold Hid; rw [strB_str _ HRB.out]; exact hnm
    clear hpn hnm
    go_enter Try.func88, Try.ntmps88
    go_upto_region 1 with fail
    obtain ⟨wb, hwb⟩ : ∃ wb, w.alloc (.cells #[.slice A n c] 140) = wb := ⟨_, rfl⟩
    have HP : Hid (wb.heap[w.heap.size]? = some (.cells #[.slice A n c] 140 (0, 0))) := by unfold Hid; rw [← hwb]; exact at_new w _
    have Sb : Step wb w := ⟨by rw [← hwb]; exact Ext.out⟩
    rw [hwb]
    clear hwb
    have p0 : wb.cell? ⟨w.heap.size, 0, none⟩ = some (.slice A n c) := at_cell HP.out 0
    go_wp2_with fail
    refine (newReader_any A n c (x :: ys) Hn.out (by omega) _ (by exact HX.out.ext)).mono ?_
    rintro e w1 ⟨R, D, rfl, hr1, hR, hD, hR', hD', hb1⟩
    have HR1 := Lib.hid hr1
    have S1 : Step w1 wb := ⟨hb1⟩
    have X1 : Hid (Ext w w1) := (inferInstance : Ext w w1)
    have HRW : Hid (w.heap.size ≤ R ∧ R < w1.heap.size) := ⟨Nat.le_trans Sb.out.size hR, hR'⟩
    clear p0 hr1 hR hD hR' hD' hb1
    go_wp2_with fail
    refine (num_any R D (x :: ys) 0 1 (by decide) (by decide) HB.out (by rw [Hn.out]; omega) _ HR1.out).mono ?_
    rintro e w2 ⟨rfl, hr2, hg2⟩
    rw [HT1.out] at hr2 ⊢
    simp only at hr2 ⊢
    have HR2 := Lib.hid hr2
    have X2 : Hid (Ext w w2) := rd_ext X1.out hg2 HRW.out.1
    have HZ2 : Hid (R < w2.heap.size) := hr2.lt
    clear hr2 hg2
    rw [hg0]
    go_wp2_with fail
    refine (take_any R D ys 0 x (by omega) (by omega) hyl _ HR2.out).mono ?_
    rintro e w3 ⟨v3, rfl, ho3, hr3, hg3⟩
    rw [HT2.out] at ho3 hr3
    simp only at ho3 hr3
    obtain ⟨A3, c3, rfl, hc3⟩ := own_slice ho3
    have HO3 := Lib.hid ho3
    have HR3 := Lib.hid hr3
    have X3 : Hid (Ext w w3) := rd_ext X2.out hg3 HRW.out.1
    have HZ3 : Hid (R < w3.heap.size) := hr3.lt
    clear ho3 hr3 hg3 hc3
    go_wp2_with fail
    refine (rest_any R D r 0 HRL.out _ HR3.out).mono ?_
    rintro e w4 ⟨v4, rfl, ho4, hr4, hg4⟩
    rw [HT3.out] at ho4 hr4
    simp only at ho4 hr4
    obtain ⟨A4, c4, rfl, hc4⟩ := own_slice ho4
    have HR4 := Lib.hid hr4
    have X4 : Hid (Ext w w4) := rd_ext X3.out hg4 HRW.out.1
    have HO34 := Lib.hid (own_grown HO3.out hg4 (.inr fun h => by have h1 := own_base HO3.out _ h; have h2 := HZ2.out; omega))
    have hcv := conv_cells (P := Try.prog) (c := c4) 22 5 9 Try.underlying22 Try.underlying5 Try.underlying9 rfl (own_cells ho4)
    try simp only [List.length_nil] at hcv
    clear ho4 hr4 hg4 hc4
    go_wp2_with fail
    refine (err_any R D _ _ _ HR4.out).mono ?_
    rintro e w5 ⟨rfl, rfl⟩
    go_wp2_with fail
    refine (named_any (strOfNums r) HNS.out _).mono ?_
    rintro e w6 ⟨rfl, rfl⟩
    rw [HNM.out]
    go_wp2_with fail
    go_ret3
    exact parts_no HF.out X4.out.out
  · have HF : Hid (ptsF (x :: ys) = ((p, r), 0)) := by unfold Hid ptsF; rw [HPR.out]; simp only; rw [if_neg hpn, if_neg (by simp [hnm])]
    have HNM : Hid (nameF (strB (strOfNums r)) = true) := by unfold Hid; rw [strB_str _ HRB.out]; exact hnm
    clear hpn hnm
    go_enter Try.func88, Try.ntmps88
    go_upto_region 1 with fail
    obtain ⟨wb, hwb⟩ : ∃ wb, w.alloc (.cells #[.slice A n c] 140) = wb := ⟨_, rfl⟩
    have HP : Hid (wb.heap[w.heap.size]? = some (.cells #[.slice A n c] 140 (0, 0))) := by unfold Hid; rw [← hwb]; exact at_new w _
    have Sb : Step wb w := ⟨by rw [← hwb]; exact Ext.out⟩
    rw [hwb]
    clear hwb
    have p0 : wb.cell? ⟨w.heap.size, 0, none⟩ = some (.slice A n c) := at_cell HP.out 0
    go_wp2_with fail
    refine (newReader_any A n c (x :: ys) Hn.out (by omega) _ (by exact HX.out.ext)).mono ?_
    rintro e w1 ⟨R, D, rfl, hr1, hR, hD, hR', hD', hb1⟩
    have HR1 := Lib.hid hr1
    have S1 : Step w1 wb := ⟨hb1⟩
    have X1 : Hid (Ext w w1) := (inferInstance : Ext w w1)
    have HRW : Hid (w.heap.size ≤ R ∧ R < w1.heap.size) := ⟨Nat.le_trans Sb.out.size hR, hR'⟩
    clear p0 hr1 hR hD hR' hD' hb1
    go_wp2_with fail
    refine (num_any R D (x :: ys) 0 1 (by decide) (by decide) HB.out (by rw [Hn.out]; omega) _ HR1.out).mono ?_
    rintro e w2 ⟨rfl, hr2, hg2⟩
    rw [HT1.out] at hr2 ⊢
    simp only at hr2 ⊢
    have HR2 := Lib.hid hr2
    have X2 : Hid (Ext w w2) := rd_ext X1.out hg2 HRW.out.1
    have HZ2 : Hid (R < w2.heap.size) := hr2.lt
    clear hr2 hg2
    rw [hg0]
    go_wp2_with fail
    refine (take_any R D ys 0 x (by omega) (by omega) hyl _ HR2.out).mono ?_
    rintro e w3 ⟨v3, rfl, ho3, hr3, hg3⟩
    rw [HT2.out] at ho3 hr3
    simp only at ho3 hr3
    obtain ⟨A3, c3, rfl, hc3⟩ := own_slice ho3
    have HO3 := Lib.hid ho3
    have HR3 := Lib.hid hr3
    have X3 : Hid (Ext w w3) := rd_ext X2.out hg3 HRW.out.1
    have HZ3 : Hid (R < w3.heap.size) := hr3.lt
    clear ho3 hr3 hg3 hc3
    go_wp2_with fail
    refine (rest_any R D r 0 HRL.out _ HR3.out).mono ?_
    rintro e w4 ⟨v4, rfl, ho4, hr4, hg4⟩
    rw [HT3.out] at ho4 hr4
    simp only at ho4 hr4
    obtain ⟨A4, c4, rfl, hc4⟩ := own_slice ho4
    have HR4 := Lib.hid hr4
    have X4 : Hid (Ext w w4) := rd_ext X3.out hg4 HRW.out.1
    have HO34 := Lib.hid (own_grown HO3.out hg4 (.inr fun h => by have h1 := own_base HO3.out _ h; have h2 := HZ2.out; omega))
    have hcv := conv_cells (P := Try.prog) (c := c4) 22 5 9 Try.underlying22 Try.underlying5 Try.underlying9 rfl (own_cells ho4)
    try simp only [List.length_nil] at hcv
    clear ho4 hr4 hg4 hc4
    go_wp2_with fail
    refine (err_any R D _ _ _ HR4.out).mono ?_
    rintro e w5 ⟨rfl, rfl⟩
    go_wp2_with fail
    refine (named_any (strOfNums r) HNS.out _).mono ?_
    rintro e w6 ⟨rfl, rfl⟩
    rw [HNM.out]
    go_wp2_with fail
    go_ret3
    rw [HF.out]
    exact ⟨A3, c3, rfl, own_weaken HO34.out X2.out.out.size, X4.out.out⟩
end Go.Proofs.Ytobddmpiljknpaa
