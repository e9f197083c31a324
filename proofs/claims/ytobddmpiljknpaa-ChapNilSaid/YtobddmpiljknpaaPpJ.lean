/-
  secret.Find: the best line. Conditions: sizes.
-/
import Derived.Test.YtobddmpiljknpaaPpI
namespace Go.Proofs.Ytobddmpiljknpaa
open Go.RowKit
set_option linter.unusedVariables false
set_option linter.unusedSimpArgs false

/-- Does a secret not fit at all? -/
def gateF (c s : List Int) (u : SV) : Bool := decide (c = [42] ∨ s = [42] ∨ (strB u.c ≠ c ∧ strB u.c ≠ [42]) ∨ (strB u.s ≠ s ∧ strB u.s ≠ [42]) ∨ u.right ≠ 0)
def rankF (c s : List Int) (u : SV) : Int := (if strB u.c = c then 2 else 0) + (if strB u.s = s then 1 else 0)
def bestStep (c s : List Int) (i : Nat) (u : SV) (p : Int × Nat) : Int × Nat := if gateF c s u = false ∧ p.1 < rankF c s u then (rankF c s u, i) else p
def bestF (c s : List Int) : Nat → List SV → Int × Nat → Int × Nat
  | _, [], p => p
  | i, u :: us, p => bestF c s (i + 1) us (bestStep c s i u p)
theorem bestF_cons (c s : List Int) (i : Nat) (u : SV) (us : List SV) (p : Int × Nat) : bestF c s i (u :: us) p = bestF c s (i + 1) us (bestStep c s i u p) := rfl
def findF (c s : List Int) (us : List SV) : Option SV := if (bestF c s 0 us (-1, 0)).1 < 0 then none else us[(bestF c s 0 us (-1, 0)).2]?
theorem strB_iff {s t : ByteArray} : strB s = strB t ↔ s.toList = t.toList := ⟨strB_inj, strB_of⟩
theorem strB_star {s : ByteArray} : strB s = [42] ↔ s.toList = [42] := by
  have e : ([42] : List Int) = strB star := rfl
  rw [e, strB_iff, show star.toList = [42] by decide +kernel]
section
variable {c s : List Int} {u : SV}
theorem gate1 (h : c = [42]) : gateF c s u = true := decide_eq_true (.inl h)
theorem gate2 (h : s = [42]) : gateF c s u = true := decide_eq_true (.inr (.inl h))
theorem gate3 (h : strB u.c ≠ c) (h' : strB u.c ≠ [42]) : gateF c s u = true := decide_eq_true (.inr (.inr (.inl ⟨h, h'⟩)))
theorem gate4 (h : strB u.s ≠ s) (h' : strB u.s ≠ [42]) : gateF c s u = true := decide_eq_true (.inr (.inr (.inr (.inl ⟨h, h'⟩))))
theorem gate5 (h : u.right ≠ 0) : gateF c s u = true := decide_eq_true (.inr (.inr (.inr (.inr h))))
theorem gate6 (h1 : c ≠ [42]) (h2 : s ≠ [42]) (h3 : strB u.c = c ∨ strB u.c = [42]) (h4 : strB u.s = s ∨ strB u.s = [42]) (h5 : u.right = 0) : gateF c s u = false := by
  refine decide_eq_false ?_
  rintro (h | h | ⟨h, h'⟩ | ⟨h, h'⟩ | h)
  · exact h1 h
  · exact h2 h
  · exact h3.elim h h'
  · exact h4.elim h h'
  · exact h h5
end
def FindTells (c s : List Int) (us : List SV) (w : World) (e : Ending) (w' : World) : Prop :=
  Below w.heap.size w w' ∧ match findF c s us with
    | none => e = .returned (.tuple #[.agg zSec, .bool false])
    | some u => ∃ v : SV, e = .returned (.tuple #[v.val, .bool true]) ∧ v.dat = u.dat ∧ v.n = u.n ∧ w'.ownsRow w.heap.size 2 1 (.slice v.A v.n v.k) v.n (nums .i64 v.xs)
set_option maxRecDepth 100000 in
set_option maxHeartbeats 4000000 in
theorem find_any (A : Option Addr) (n c : Nat) (us : List SV) (cb sb : ByteArray) (hn : us.length = n) (hn' : n ≤ 17592186044416) (w : World) (hx : SecsAt w A us) :
    Calls Try.prog 102 #[.slice A n c, .string cb, .string sb] w (FindTells (strB cb) (strB sb) us w) := by
  have Hn := Lib.hid hn
  have HX := Lib.hid hx
  clear hn hx
  obtain ⟨cl, hcl⟩ : ∃ cl, strB cb = cl := ⟨_, rfl⟩
  obtain ⟨sl, hsl⟩ : ∃ sl, strB sb = sl := ⟨_, rfl⟩
  rw [hcl, hsl]
  have HCL := Lib.hid hcl
  have HSL := Lib.hid hsl
  clear hcl hsl
  go_enter Try.func102, Try.ntmps102
  go_upto_region 3 with fail
  obtain ⟨wb, hwb⟩ : ∃ wb, w.alloc (.cells zSec 44) = wb := ⟨_, rfl⟩
  have HP : Hid (wb.heap[w.heap.size]? = some (.cells zSec 44 (0, 0))) := by unfold Hid; rw [← hwb]; exact at_new w _
  have HWB : Hid (Ext w wb) := by unfold Hid; rw [← hwb]; exact inferInstance
  have SB : Step wb w := ⟨HWB.out.out⟩
  rw [hwb]
  clear hwb
  go_loopw [15, 8, 9, 10, 11, 12] (fun i b a x5 x6 x7 wr => ∃ (k : Nat) (bb : Int) (aa : Nat), i = .int .i64 k ∧ k ≤ n ∧ b = .int .i64 bb ∧ a = .int .i64 (aa : Int) ∧ Hid (bestF cl sl 0 us (-1, 0) = bestF cl sl k (us.drop k) (bb, aa)) ∧ Hid (bb < 0 ∨ aa < n) ∧ Hid (Ext wb wr)) (fun i _ _ _ _ _ _ => n - (intOf i).toNat)
  case atStart => exact ⟨0, -1, 0, rfl, by omega, rfl, rfl, rfl, by unfold Hid; omega, (inferInstance : Ext wb wb)⟩
  case round =>
    obtain ⟨k, bb, aa, rfl, hk, rfl, rfl, HBF, HLI, HW⟩ := hrel
    have Sr : Step wr wb := ⟨HW.out.out⟩
    by_cases hlt : k < n
    · obtain ⟨u, hu⟩ : ∃ u, us[k]? = some u := ⟨_, List.getElem?_eq_getElem (by rw [Hn.out]; exact hlt)⟩
      obtain ⟨ad, rfl, hc0, hc1, hc2, hc3⟩ := sec_at (HX.out.ext (w' := wr)).x hu
      have HK := Lib.hid ((HX.out.ext (w' := wr)).ok u (List.mem_of_getElem? hu))
      rw [drop_at hu] at HBF
      clear hu
      obtain ⟨uc, uss, ud, uA, un, uk, ux⟩ := u
      simp only at hc0 hc1 hc2 hc3
      go_upto_region 5 with fail
      obtain ⟨wq, hwq⟩ : ∃ wq, wr.alloc (.cells #[.string uc, .string uss, .string ud, .slice uA un uk] 44) = wq := ⟨_, rfl⟩
      have HU : Hid (wq.heap[wr.heap.size]? = some (.cells #[.string uc, .string uss, .string ud, .slice uA un uk] 44 (0, 0))) := by unfold Hid; rw [← hwq]; exact at_new wr _
      have Sq : Step wq wr := ⟨by rw [← hwq]; exact Ext.out⟩
      rw [hwq]
      clear hwq
      obtain ⟨q, hq⟩ : ∃ q, gateF cl sl ⟨uc, uss, ud, uA, un, uk, ux⟩ = q := ⟨_, rfl⟩
      have HQ := Lib.hid hq
      clear hq
      go_cut [52] (fun s wx => s = .bool q ∧ Hid (Ext wq wx))
      case first =>
        have u0 : wq.cell? ⟨wr.heap.size, 0, none⟩ = some (.string uc) := at_cell HU.out 0
        have u1 : wq.cell? ⟨wr.heap.size, 1, none⟩ = some (.string uss) := at_cell HU.out 1
        have u2 : wq.cell? ⟨wr.heap.size, 2, none⟩ = some (.string ud) := at_cell HU.out 2
        have u3 : wq.cell? ⟨wr.heap.size, 3, none⟩ = some (.slice uA un uk) := at_cell HU.out 3
        by_cases e1 : cb.toList = [42]
        · go_wp2_with fail
          go_meet
          case rel => exact ⟨by rw [← HQ.out, gate1 (by rw [← HCL.out]; exact strB_star.2 e1)], (inferInstance : Ext wq wq)⟩
        by_cases e2 : sb.toList = [42]
        · go_wp2_with fail
          go_meet
          case rel => exact ⟨by rw [← HQ.out, gate2 (by rw [← HSL.out]; exact strB_star.2 e2)], (inferInstance : Ext wq wq)⟩
        have E1 : Hid (cl ≠ [42]) := fun h => e1 (strB_star.1 (HCL.out.trans h))
        have E2 : Hid (sl ≠ [42]) := fun h => e2 (strB_star.1 (HSL.out.trans h))
        have b1 : (cb.toList == [42]) = false := by simpa using e1
        have b2 : (sb.toList == [42]) = false := by simpa using e2
        clear e1 e2
        by_cases c1 : uc.toList = cb.toList
        · have C1 : Hid (strB uc = cl ∨ strB uc = [42]) := .inl ((strB_iff.2 c1).trans HCL.out)
          by_cases d1 : uss.toList = sb.toList
          · have D1 : Hid (strB uss = sl ∨ strB uss = [42]) := .inl ((strB_iff.2 d1).trans HSL.out)
            go_wp2_with fail
            refine (right_any uc uss ud uA un uk ux HK.out.c HK.out.s HK.out.d HK.out.n _ (by exact HK.out.x.ext)).mono ?_
            rintro e w2 ⟨rfl, hb2⟩
            obtain ⟨R, hR⟩ : ∃ R, rightF (strB uc) (strB uss) (strB ud) ux = R := ⟨_, rfl⟩
            have HRR := Lib.hid hR
            rw [hR]
            clear hR
            by_cases hr : R = 0
            · subst hr
              go_wp2_with fail
              go_meet
              case rel => exact ⟨by rw [← HQ.out, gate6 (u := ⟨uc, uss, ud, uA, un, uk, ux⟩) E1.out E2.out C1.out D1.out HRR.out], ⟨hb2⟩⟩
            · have hr' : (R != 0) = true := by simpa using hr
              go_wp2_with fail
              go_meet
              case rel => exact ⟨by rw [← HQ.out, gate5 (u := ⟨uc, uss, ud, uA, un, uk, ux⟩) (fun h => hr (HRR.out.symm.trans h))], ⟨hb2⟩⟩
          by_cases d2 : uss.toList = [42]
          · have D1 : Hid (strB uss = sl ∨ strB uss = [42]) := .inr (strB_star.2 d2)
            have n5 : ¬ [42] = sb.toList := fun h => d1 (d2.trans h)
            have b5 : ([42] == sb.toList) = false := by simpa using n5
            go_wp2_with fail
            refine (right_any uc uss ud uA un uk ux HK.out.c HK.out.s HK.out.d HK.out.n _ (by exact HK.out.x.ext)).mono ?_
            rintro e w2 ⟨rfl, hb2⟩
            obtain ⟨R, hR⟩ : ∃ R, rightF (strB uc) (strB uss) (strB ud) ux = R := ⟨_, rfl⟩
            have HRR := Lib.hid hR
            rw [hR]
            clear hR
            by_cases hr : R = 0
            · subst hr
              go_wp2_with fail
              go_meet
              case rel => exact ⟨by rw [← HQ.out, gate6 (u := ⟨uc, uss, ud, uA, un, uk, ux⟩) E1.out E2.out C1.out D1.out HRR.out], ⟨hb2⟩⟩
            · have hr' : (R != 0) = true := by simpa using hr
              go_wp2_with fail
              go_meet
              case rel => exact ⟨by rw [← HQ.out, gate5 (u := ⟨uc, uss, ud, uA, un, uk, ux⟩) (fun h => hr (HRR.out.symm.trans h))], ⟨hb2⟩⟩
          have b5 : (uss.toList == sb.toList) = false := by simpa using d1
          have b6 : (uss.toList == [42]) = false := by simpa using d2
          go_wp2_with fail
          go_meet
          case rel => exact ⟨by rw [← HQ.out, gate4 (fun h => d1 (strB_iff.1 (h.trans HSL.out.symm))) (fun h => d2 (strB_star.1 h))], (inferInstance : Ext wq wq)⟩
        by_cases c2 : uc.toList = [42]
        · have C1 : Hid (strB uc = cl ∨ strB uc = [42]) := .inr (strB_star.2 c2)
          have n3 : ¬ [42] = cb.toList := fun h => c1 (c2.trans h)
          have b3 : ([42] == cb.toList) = false := by simpa using n3
          by_cases d1 : uss.toList = sb.toList
          · have D1 : Hid (strB uss = sl ∨ strB uss = [42]) := .inl ((strB_iff.2 d1).trans HSL.out)
            go_wp2_with fail
            refine (right_any uc uss ud uA un uk ux HK.out.c HK.out.s HK.out.d HK.out.n _ (by exact HK.out.x.ext)).mono ?_
            rintro e w2 ⟨rfl, hb2⟩
            obtain ⟨R, hR⟩ : ∃ R, rightF (strB uc) (strB uss) (strB ud) ux = R := ⟨_, rfl⟩
            have HRR := Lib.hid hR
            rw [hR]
            clear hR
            by_cases hr : R = 0
            · subst hr
              go_wp2_with fail
              go_meet
              case rel => exact ⟨by rw [← HQ.out, gate6 (u := ⟨uc, uss, ud, uA, un, uk, ux⟩) E1.out E2.out C1.out D1.out HRR.out], ⟨hb2⟩⟩
            · have hr' : (R != 0) = true := by simpa using hr
              go_wp2_with fail
              go_meet
              case rel => exact ⟨by rw [← HQ.out, gate5 (u := ⟨uc, uss, ud, uA, un, uk, ux⟩) (fun h => hr (HRR.out.symm.trans h))], ⟨hb2⟩⟩
          by_cases d2 : uss.toList = [42]
          · have D1 : Hid (strB uss = sl ∨ strB uss = [42]) := .inr (strB_star.2 d2)
            have n5 : ¬ [42] = sb.toList := fun h => d1 (d2.trans h)
            have b5 : ([42] == sb.toList) = false := by simpa using n5
            go_wp2_with fail
            refine (right_any uc uss ud uA un uk ux HK.out.c HK.out.s HK.out.d HK.out.n _ (by exact HK.out.x.ext)).mono ?_
            rintro e w2 ⟨rfl, hb2⟩
            obtain ⟨R, hR⟩ : ∃ R, rightF (strB uc) (strB uss) (strB ud) ux = R := ⟨_, rfl⟩
            have HRR := Lib.hid hR
            rw [hR]
            clear hR
            by_cases hr : R = 0
            · subst hr
              go_wp2_with fail
              go_meet
              case rel => exact ⟨by rw [← HQ.out, gate6 (u := ⟨uc, uss, ud, uA, un, uk, ux⟩) E1.out E2.out C1.out D1.out HRR.out], ⟨hb2⟩⟩
            · have hr' : (R != 0) = true := by simpa using hr
              go_wp2_with fail
              go_meet
              case rel => exact ⟨by rw [← HQ.out, gate5 (u := ⟨uc, uss, ud, uA, un, uk, ux⟩) (fun h => hr (HRR.out.symm.trans h))], ⟨hb2⟩⟩
          have b5 : (uss.toList == sb.toList) = false := by simpa using d1
          have b6 : (uss.toList == [42]) = false := by simpa using d2
          go_wp2_with fail
          go_meet
          case rel => exact ⟨by rw [← HQ.out, gate4 (fun h => d1 (strB_iff.1 (h.trans HSL.out.symm))) (fun h => d2 (strB_star.1 h))], (inferInstance : Ext wq wq)⟩
        have b3 : (uc.toList == cb.toList) = false := by simpa using c1
        have b4 : (uc.toList == [42]) = false := by simpa using c2
        go_wp2_with fail
        go_meet
        case rel => exact ⟨by rw [← HQ.out, gate3 (fun h => c1 (strB_iff.1 (h.trans HCL.out.symm))) (fun h => c2 (strB_star.1 h))], (inferInstance : Ext wq wq)⟩
      case' rest =>
        obtain ⟨rfl, HX2⟩ := hcut
        generalize wc = y2 at *
        have HY := Lib.hid (HX2.out)
        clear HX2
        have SY : Step y2 wq := ⟨HY.out.out⟩
        cases q
        case true =>
          have HBF2 : Hid (bestF cl sl 0 us (-1, 0) = bestF cl sl (k + 1) (us.drop (k + 1)) (bb, aa)) := by
            refine HBF.out.trans ?_
            rw [bestF_cons]
            unfold bestStep
            rw [if_neg (by rw [HQ.out]; simp)]
          go_wp2_with fail
          go_roundw
          case rel => exact ⟨k + 1, bb, aa, by go_num, by omega, rfl, rfl, HBF2.out, HLI.out, (inferInstance : Ext wb y2)⟩
          case measure => simp [intOf]; omega
        case false =>
          obtain ⟨rk, hrk⟩ : ∃ rk, rankF cl sl ⟨uc, uss, ud, uA, un, uk, ux⟩ = rk := ⟨_, rfl⟩
          have HRK := Lib.hid hrk
          clear hrk
          have HBF2 : Hid (bestF cl sl 0 us (-1, 0) = bestF cl sl (k + 1) (us.drop (k + 1)) (if bb < rk then (rk, k) else (bb, aa))) := by
            refine HBF.out.trans ?_
            rw [bestF_cons]
            unfold bestStep
            rw [HQ.out, HRK.out]
            simp
          have u0 : y2.cell? ⟨wr.heap.size, 0, none⟩ = some (.string uc) := at_cell (at_ext HU.out) 0
          have u1 : y2.cell? ⟨wr.heap.size, 1, none⟩ = some (.string uss) := at_cell (at_ext HU.out) 1
          obtain ⟨r1, hr1⟩ : ∃ r1 : Int, (if strB uc = cl then 2 else 0) = r1 := ⟨_, rfl⟩
          have HR1 := Lib.hid hr1
          have l1 : 0 ≤ r1 := by subst hr1; split <;> omega
          have l2 : r1 ≤ 2 := by subst hr1; split <;> omega
          clear hr1
          go_upto_if 56 with fail
          obtain ⟨p1, hp1⟩ : ∃ p1, (uc.toList == cb.toList) = p1 := ⟨_, rfl⟩
          rw [hp1]
          have HP1 := Lib.hid hp1
          clear hp1
          go_cut [12] (fun s wx => s = .int .i64 r1 ∧ y2 = wx)
          case first =>
            cases p1
            · have HV : Hid (r1 = 0) := by unfold Hid; rw [← HR1.out, if_neg (fun h => by have := HP1.out; rw [strB_iff.1 (h.trans HCL.out.symm)] at this; simp at this)]
              go_wp2_with fail
              go_meet
              case rel => exact ⟨by rw [HV.out]; try go_num, rfl⟩
            · have HV : Hid (r1 = 2) := by unfold Hid; rw [← HR1.out, if_pos ((strB_iff.2 (by simpa using HP1.out)).trans HCL.out)]
              go_wp2_with fail
              go_meet
              case rel => exact ⟨by rw [HV.out]; try go_num, rfl⟩
          case' rest =>
            obtain ⟨rfl, rfl⟩ := hcut
          go_upto_if 62 with fail
          obtain ⟨p2, hp2⟩ : ∃ p2, (uss.toList == sb.toList) = p2 := ⟨_, rfl⟩
          rw [hp2]
          have HP2 := Lib.hid hp2
          clear hp2
          go_cut [12] (fun s wx => s = .int .i64 rk ∧ Hid (Ext y2 wx))
          case first =>
            cases p2
            · have HV : Hid (rk = r1) := by unfold Hid; rw [← HRK.out, ← HR1.out]; unfold rankF; rw [if_neg (c := strB uss = sl) (fun h => by have := HP2.out; rw [strB_iff.1 (h.trans HSL.out.symm)] at this; simp at this), Int.add_zero]
              go_wp2_with fail
              go_meet
              case rel => exact ⟨by rw [HV.out]; try go_num, (inferInstance : Ext y2 y2)⟩
            · have HV : Hid (rk = r1 + 1) := by unfold Hid; rw [← HRK.out, ← HR1.out]; unfold rankF; rw [if_pos ((strB_iff.2 (by simpa using HP2.out)).trans HSL.out)]
              go_wp2_with fail
              go_meet
              case rel => exact ⟨by rw [HV.out]; try go_num, (inferInstance : Ext y2 y2)⟩
          case' rest =>
            obtain ⟨rfl, HX3⟩ := hcut
            generalize wc = y3 at *
            have HZ := Lib.hid (HX3.out)
            clear HX3
            have SZ : Step y3 y2 := ⟨HZ.out.out⟩
            by_cases hb : bb < rk
            · have HBF3 : Hid (bestF cl sl 0 us (-1, 0) = bestF cl sl (k + 1) (us.drop (k + 1)) (rk, k)) := by have h := HBF2.out; rwa [if_pos hb] at h
              go_wp2_with fail
              go_roundw
              case rel => exact ⟨k + 1, rk, k, by go_num, by omega, rfl, rfl, HBF3.out, (by unfold Hid; omega), (inferInstance : Ext wb y3)⟩
              case measure => simp [intOf]; omega
            · have HBF3 : Hid (bestF cl sl 0 us (-1, 0) = bestF cl sl (k + 1) (us.drop (k + 1)) (bb, aa)) := by have h := HBF2.out; rwa [if_neg hb] at h
              go_wp2_with fail
              go_roundw
              case rel => exact ⟨k + 1, bb, aa, by go_num, by omega, rfl, rfl, HBF3.out, HLI.out, (inferInstance : Ext wb y3)⟩
              case measure => simp [intOf]; omega
    · obtain rfl : k = n := by omega
      have HBZ : Hid (bestF cl sl 0 us (-1, 0) = (bb, aa)) := by rw [List.drop_of_length_le (by rw [Hn.out]; exact Nat.le_refl _)] at HBF; exact HBF.out
      by_cases hz : bb < 0
      · have HF : Hid (findF cl sl us = none) := by unfold Hid findF; rw [HBZ.out, if_pos hz]
        have HPr : Hid (wr.heap[w.heap.size]? = some (.cells zSec 44 (0, 0))) := at_ext HP.out
        go_wp2_with
          (refine wpList_store_row_o rfl 44 (.tmp 6) (.tmp 73) rfl w.heap.size zSec rfl rfl 44 zSec HPr.out (by kernel_rfl) rfl (by simp [Value.oneCell']) ?_
           intro w3 hr3 ho3 hz3 hb3)
        refine bodyPost_ret (results_cell_row2 Try.results102 _ _ w.heap.size 44 zSec (0, 0) _ (.bool false) rfl rfl hr3 Try.underlying44 rfl (by kernel_rfl)) rfl ?_
        refine ⟨hb3 _ _ (inferInstance : Ext w wr).out (Nat.le_refl _), ?_⟩
        rw [HF.out]
      · obtain ⟨u, hu⟩ : ∃ u, us[aa]? = some u := ⟨_, List.getElem?_eq_getElem (by have := HLI.out; rw [Hn.out]; omega)⟩
        have HF : Hid (findF cl sl us = some u) := by unfold Hid findF; rw [HBZ.out, if_neg hz]; exact hu
        obtain ⟨ad, rfl, hc0, hc1, hc2, hc3⟩ := sec_at (HX.out.ext (w' := wr)).x hu
        have HK := Lib.hid ((HX.out.ext (w' := wr)).ok u (List.mem_of_getElem? hu))
        have hak : aa < k := by have := HLI.out; omega
        clear hu
        obtain ⟨uc, uss, ud, uA, un, uk, ux⟩ := u
        simp only at hc0 hc1 hc2 hc3
        go_wp2_with fail
        refine (own_any ⟨uc, uss, ud, uA, un, uk, ux⟩ _ HK.out).mono ?_
        rintro e w2 ⟨A2, k2, rfl, ho2, hb2⟩
        simp only [SV.val]
        have HO2 := Lib.hid ho2
        have S2 : Step w2 _ := ⟨hb2⟩
        have HP2 : Hid (w2.heap[w.heap.size]? = some (.cells zSec 44 (0, 0))) := at_ext HP.out
        have HX2 : Hid (Ext w w2) := (inferInstance : Ext w w2)
        clear ho2 hb2
        go_wp2_with
          (refine wpList_store_row_o rfl 44 (.tmp 6) (.tmp 78) rfl w.heap.size #[.string uc, .string uss, .string ud, .slice A2 un k2] rfl rfl 44 zSec HP2.out (by kernel_rfl) rfl (by simp [Value.oneCell']) ?_
           intro w3 hr3 ho3 hz3 hb3)
        refine bodyPost_ret (results_cell_row2 Try.results102 _ _ w.heap.size 44 #[.string uc, .string uss, .string ud, .slice A2 un k2] (0, 0) _ (.bool true) rfl rfl hr3 Try.underlying44 rfl (by kernel_rfl)) rfl ?_
        refine ⟨hb3 _ _ HX2.out.out (Nat.le_refl _), ?_⟩
        rw [HF.out]
        have hlt0 : w.heap.size < wr.heap.size := at_lt (at_ext (w' := wr) HP.out)
        exact ⟨⟨uc, uss, ud, A2, un, k2, ux⟩, rfl, rfl, rfl, own_weaken (own_heap HO2.out fun j hj => ho3 j (by omega)) (by omega)⟩
end Go.Proofs.Ytobddmpiljknpaa
