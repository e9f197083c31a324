/-
  ref06: fits, Find, Check, Fault. Conditions: sizes.
-/
import Derived.Test.YtodibldfolognaaPqC
import Derived.Test.YtodibldfolognaaPpK
import Derived.Deep.CutBlock
namespace Go.Proofs.Ytodibldfolognaa
open Go.RowKit
set_option linter.unusedVariables false
set_option linter.unusedSimpArgs false

def fitI (c s : List Int) (u : SV) : Int := if strB u.c ≠ c ∧ strB u.c ≠ [42] then -1 else if strB u.s ≠ s ∧ strB u.s ≠ [42] then -1 else rankF c s u
theorem rank_le {c s : List Int} {u : SV} : 0 ≤ rankF c s u ∧ rankF c s u ≤ 3 := by
  unfold rankF
  split <;> split <;> omega
theorem fit_step {c s : List Int} {u : SV} (h1 : c ≠ [42]) (h2 : s ≠ [42]) {i : Nat} {b : Int} {a : Nat} (hb : -1 ≤ b) : bestStep c s i u (b, a) = if u.right = 0 ∧ b < fitI c s u then (fitI c s u, i) else (b, a) := by
  unfold bestStep fitI gateF
  have hr := rank_le (c := c) (s := s) (u := u)
  by_cases p : strB u.c ≠ c ∧ strB u.c ≠ [42]
  · rw [if_pos p, decide_eq_true (.inr (.inr (.inl p))), if_neg (by simp), if_neg (by omega)]
  rw [if_neg p]
  by_cases q : strB u.s ≠ s ∧ strB u.s ≠ [42]
  · rw [if_pos q, decide_eq_true (.inr (.inr (.inr (.inl q)))), if_neg (by simp), if_neg (by omega)]
  rw [if_neg q]
  by_cases r : u.right = 0
  · rw [decide_eq_false (by rintro (h | h | h | h | h); exact h1 h; exact h2 h; exact p h; exact q h; exact h r)]
    simp [r]
  · rw [decide_eq_true (.inr (.inr (.inr (.inr r)))), if_neg (by simp), if_neg (by rintro ⟨h, _⟩; exact r h)]
set_option maxRecDepth 100000 in
set_option maxHeartbeats 4000000 in
theorem fits_any (u : SV) (cb sb : ByteArray) (w : World) :
    Calls Try.prog 126 #[u.val, .string cb, .string sb] w fun e w' => e = .returned (.int .i64 (fitI (strB cb) (strB sb) u)) ∧ Below w.heap.size w w' := by
  obtain ⟨uc, uss, ud, uA, un, uk, ux⟩ := u
  unfold SV.val
  simp only
  have p0 : ∀ o, (w.alloc (.cells #[.string uc, .string uss, .string ud, .slice uA un uk] o)).cell? ⟨w.heap.size, 0, none⟩ = some (.string uc) := fun o => at_cell (at_new w _) 0
  have p1 : ∀ o, (w.alloc (.cells #[.string uc, .string uss, .string ud, .slice uA un uk] o)).cell? ⟨w.heap.size, 1, none⟩ = some (.string uss) := fun o => at_cell (at_new w _) 1
  go_enter Try.func126, Try.ntmps126
  by_cases c1 : uc.toList = cb.toList
  · have hc1 : strB uc = strB cb := strB_iff.2 c1
    have hq : (if strB uc = strB cb then (2 : Int) else 0) = 2 := if_pos hc1
    have hp : strB uc = strB cb ∨ strB uc = [42] := .inl hc1
    have HP := Lib.hid (show ¬(strB uc ≠ strB cb ∧ strB uc ≠ [42]) by rintro ⟨h, _⟩; exact h hc1)
    have HQ := Lib.hid hq
    clear hc1 hq hp
    by_cases d1 : uss.toList = sb.toList
    · have hd1 : strB uss = strB sb := strB_iff.2 d1
      have HF : Hid (fitI (strB cb) (strB sb) ⟨uc, uss, ud, uA, un, uk, ux⟩ = 2 + 1) := by unfold Hid fitI rankF; rw [if_neg (by simpa using HP.out), if_neg (by rintro ⟨h, _⟩; exact h hd1)]; rw [HQ.out, if_pos hd1]
      clear hd1
      go_wp2_with fail
      go_ret
      exact ⟨by rw [HF.out]; rfl, Ext.out⟩
    by_cases d2 : uss.toList = [42]
    · have hd1 : strB uss ≠ strB sb := fun h => d1 (strB_iff.1 h)
      have hd2 : strB uss = [42] := strB_star.2 d2
      have HF : Hid (fitI (strB cb) (strB sb) ⟨uc, uss, ud, uA, un, uk, ux⟩ = 2) := by unfold Hid fitI rankF; rw [if_neg (by simpa using HP.out), if_neg (by rintro ⟨_, h⟩; exact h hd2)]; rw [HQ.out, if_neg hd1]; rfl
      have n5 : ¬ [42] = sb.toList := fun h => d1 (d2.trans h)
      have b5 : ([42] == sb.toList) = false := by simpa using n5
      clear hd1 hd2
      go_wp2_with fail
      go_ret
      exact ⟨by rw [HF.out]; rfl, Ext.out⟩
    have hd1 : strB uss ≠ strB sb := fun h => d1 (strB_iff.1 h)
    have hd2 : strB uss ≠ [42] := fun h => d2 (strB_star.1 h)
    have HF : Hid (fitI (strB cb) (strB sb) ⟨uc, uss, ud, uA, un, uk, ux⟩ = -1) := by unfold Hid fitI; rw [if_neg (by simpa using HP.out), if_pos ⟨hd1, hd2⟩]
    have b5 : (uss.toList == sb.toList) = false := by simpa using d1
    have b6 : (uss.toList == [42]) = false := by simpa using d2
    clear hd1 hd2
    go_wp2_with fail
    go_ret
    exact ⟨by rw [HF.out]; rfl, Ext.out⟩
  by_cases c2 : uc.toList = [42]
  · have hc1 : strB uc ≠ strB cb := fun h => c1 (strB_iff.1 h)
    have HP := Lib.hid (show ¬(strB uc ≠ strB cb ∧ strB uc ≠ [42]) by rintro ⟨_, h⟩; exact h (strB_star.2 c2))
    have HQ : Hid ((if strB uc = strB cb then (2 : Int) else 0) = 0) := if_neg hc1
    have n3 : ¬ [42] = cb.toList := fun h => c1 (c2.trans h)
    have b3 : ([42] == cb.toList) = false := by simpa using n3
    clear hc1
    by_cases d1 : uss.toList = sb.toList
    · have hd1 : strB uss = strB sb := strB_iff.2 d1
      have HF : Hid (fitI (strB cb) (strB sb) ⟨uc, uss, ud, uA, un, uk, ux⟩ = 0 + 1) := by unfold Hid fitI rankF; rw [if_neg (by simpa using HP.out), if_neg (by rintro ⟨h, _⟩; exact h hd1)]; rw [HQ.out, if_pos hd1]
      clear hd1
      go_wp2_with fail
      go_ret
      exact ⟨by rw [HF.out]; rfl, Ext.out⟩
    by_cases d2 : uss.toList = [42]
    · have hd1 : strB uss ≠ strB sb := fun h => d1 (strB_iff.1 h)
      have hd2 : strB uss = [42] := strB_star.2 d2
      have HF : Hid (fitI (strB cb) (strB sb) ⟨uc, uss, ud, uA, un, uk, ux⟩ = 0) := by unfold Hid fitI rankF; rw [if_neg (by simpa using HP.out), if_neg (by rintro ⟨_, h⟩; exact h hd2)]; rw [HQ.out, if_neg hd1]; rfl
      have n5 : ¬ [42] = sb.toList := fun h => d1 (d2.trans h)
      have b5 : ([42] == sb.toList) = false := by simpa using n5
      clear hd1 hd2
      go_wp2_with fail
      go_ret
      exact ⟨by rw [HF.out]; rfl, Ext.out⟩
    have hd1 : strB uss ≠ strB sb := fun h => d1 (strB_iff.1 h)
    have hd2 : strB uss ≠ [42] := fun h => d2 (strB_star.1 h)
    have HF : Hid (fitI (strB cb) (strB sb) ⟨uc, uss, ud, uA, un, uk, ux⟩ = -1) := by unfold Hid fitI; rw [if_neg (by simpa using HP.out), if_pos ⟨hd1, hd2⟩]
    have b5 : (uss.toList == sb.toList) = false := by simpa using d1
    have b6 : (uss.toList == [42]) = false := by simpa using d2
    clear hd1 hd2
    go_wp2_with fail
    go_ret
    exact ⟨by rw [HF.out]; rfl, Ext.out⟩
  have hc1 : strB uc ≠ strB cb := fun h => c1 (strB_iff.1 h)
  have hc2 : strB uc ≠ [42] := fun h => c2 (strB_star.1 h)
  have HF : Hid (fitI (strB cb) (strB sb) ⟨uc, uss, ud, uA, un, uk, ux⟩ = -1) := by unfold Hid fitI; rw [if_pos ⟨hc1, hc2⟩]
  have b5 : (uc.toList == cb.toList) = false := by simpa using c1
  have b6 : (uc.toList == [42]) = false := by simpa using c2
  clear hc1 hc2
  go_wp2_with fail
  go_ret
  exact ⟨by rw [HF.out]; rfl, Ext.out⟩
def RFindTells (c s : List Int) (us : List SV) (w : World) (e : Ending) (w' : World) : Prop :=
  Below w.heap.size w w' ∧ match findF c s us with
    | none => e = .returned (.tuple #[.agg zSec, .bool false])
    | some u => e = .returned (.tuple #[u.val, .bool true])
theorem best_star {c s : List Int} (h : c = [42] ∨ s = [42]) : ∀ (us : List SV) (i : Nat) (p : Int × Nat), bestF c s i us p = p := by
  intro us
  induction us with
  | nil => intro i p; rfl
  | cons u us ih =>
    intro i p
    rw [bestF_cons, ih]
    unfold bestStep
    rw [if_neg]
    rintro ⟨h1, _⟩
    rcases h with h | h
    · rw [gate1 h] at h1; cases h1
    · rw [gate2 h] at h1; cases h1
set_option maxRecDepth 100000 in
set_option maxHeartbeats 8000000 in
theorem rfind_any (A : Option Addr) (n c : Nat) (us : List SV) (cb sb : ByteArray) (hn : us.length = n) (hn' : n ≤ 17592186044416) (w : World) (hx : SecsAt w A us) :
    Calls Try.prog 114 #[.slice A n c, .string cb, .string sb] w (RFindTells (strB cb) (strB sb) us w) := by
  have Hn := Lib.hid hn
  have HX := Lib.hid hx
  clear hn hx
  by_cases e1 : cb.toList = [42]
  · skip
    have HF : Hid (findF (strB cb) (strB sb) us = none) := by unfold Hid findF; rw [best_star (.inl (strB_star.2 e1))]; rfl
    go_enter Try.func114, Try.ntmps114
    go_wp2_with
      (refine wpList_store_row_o rfl 79 (.tmp 6) (.tmp 19) rfl w.heap.size zSec rfl rfl 79 zSec (at_new w (.cells zSec 79)) (by kernel_rfl) rfl (by simp [Value.oneCell']) ?_
       intro w3 hr3 ho3 hz3 hb3)
    refine bodyPost_ret (results_cell_row2 Try.results114 _ _ w.heap.size 79 zSec (0, 0) _ (.bool false) rfl rfl hr3 Try.underlying79 rfl (by kernel_rfl)) rfl ?_
    refine ⟨hb3 _ _ (inferInstance : Ext w (w.alloc _)).out (Nat.le_refl _), ?_⟩
    rw [HF.out]
  by_cases e2 : sb.toList = [42]
  · skip
    have HF : Hid (findF (strB cb) (strB sb) us = none) := by unfold Hid findF; rw [best_star (.inr (strB_star.2 e2))]; rfl
    go_enter Try.func114, Try.ntmps114
    go_wp2_with
      (refine wpList_store_row_o rfl 79 (.tmp 6) (.tmp 19) rfl w.heap.size zSec rfl rfl 79 zSec (at_new w (.cells zSec 79)) (by kernel_rfl) rfl (by simp [Value.oneCell']) ?_
       intro w3 hr3 ho3 hz3 hb3)
    refine bodyPost_ret (results_cell_row2 Try.results114 _ _ w.heap.size 79 zSec (0, 0) _ (.bool false) rfl rfl hr3 Try.underlying79 rfl (by kernel_rfl)) rfl ?_
    refine ⟨hb3 _ _ (inferInstance : Ext w (w.alloc _)).out (Nat.le_refl _), ?_⟩
    rw [HF.out]
  have E1 : Hid (strB cb ≠ [42]) := fun h => e1 (strB_star.1 h)
  have E2 : Hid (strB sb ≠ [42]) := fun h => e2 (strB_star.1 h)
  have b1 : (cb.toList == [42]) = false := by simpa using e1
  have b2 : (sb.toList == [42]) = false := by simpa using e2
  clear e1 e2
  go_enter Try.func114, Try.ntmps114
  go_upto_block 0 with fail
  obtain ⟨wb, hwb⟩ : ∃ wb, w.alloc (.cells zSec 79) = wb := ⟨_, rfl⟩
  have HP : Hid (wb.heap[w.heap.size]? = some (.cells zSec 79 (0, 0))) := by unfold Hid; rw [← hwb]; exact at_new w _
  have HWB : Hid (Ext w wb) := by unfold Hid; rw [← hwb]; exact inferInstance
  have SB : Step wb w := ⟨HWB.out.out⟩
  rw [hwb]
  clear hwb b1 b2
  go_wp2_with fail
  go_loopw [22, 8, 9, 10, 11, 12] (fun i b a x5 x6 x7 wr => ∃ (k : Nat) (bb av : Int) (aa : Nat), i = .int .i64 k ∧ k ≤ n ∧ b = .int .i64 bb ∧ a = .int .i64 av ∧ Hid (bestF (strB cb) (strB sb) 0 us (-1, 0) = bestF (strB cb) (strB sb) k (us.drop k) (bb, aa)) ∧ Hid ((bb < 0 ∧ av = -1) ∨ (0 ≤ bb ∧ av = aa ∧ aa < n)) ∧ Hid (-1 ≤ bb) ∧ Hid (Ext wb wr)) (fun i _ _ _ _ _ _ => n - (intOf i).toNat)
  case atStart => exact ⟨0, -1, -1, 0, rfl, by omega, rfl, rfl, rfl, by unfold Hid; omega, by unfold Hid; omega, (inferInstance : Ext wb wb)⟩
  case round =>
    obtain ⟨k, bb, av, aa, rfl, hk, rfl, rfl, HBF, HLI, HBM, HW⟩ := hrel
    have Sr : Step wr wb := ⟨HW.out.out⟩
    by_cases hlt : k < n
    · obtain ⟨u, hu⟩ : ∃ u, us[k]? = some u := ⟨_, List.getElem?_eq_getElem (by rw [Hn.out]; exact hlt)⟩
      obtain ⟨ad, rfl, hc0, hc1, hc2, hc3⟩ := sec_at (HX.out.ext (w' := wr)).x hu
      have HK := Lib.hid ((HX.out.ext (w' := wr)).ok u (List.mem_of_getElem? hu))
      rw [drop_at hu, bestF_cons, fit_step E1.out E2.out HBM.out] at HBF
      clear hu
      obtain ⟨uc, uss, ud, uA, un, uk, ux⟩ := u
      simp only at hc0 hc1 hc2 hc3
      go_upto_region 7 with fail
      obtain ⟨wq, hwq⟩ : ∃ wq, wr.alloc (.cells #[.string uc, .string uss, .string ud, .slice uA un uk] 79) = wq := ⟨_, rfl⟩
      have HU : Hid (wq.heap[wr.heap.size]? = some (.cells #[.string uc, .string uss, .string ud, .slice uA un uk] 79 (0, 0))) := by unfold Hid; rw [← hwq]; exact at_new wr _
      have Sq : Step wq wr := ⟨by rw [← hwq]; exact Ext.out⟩
      rw [hwq]
      clear hwq hc0 hc1 hc2 hc3
      have u0 : wq.cell? ⟨wr.heap.size, 0, none⟩ = some (.string uc) := at_cell (at_ext HU.out) 0
      have u1 : wq.cell? ⟨wr.heap.size, 1, none⟩ = some (.string uss) := at_cell (at_ext HU.out) 1
      have u2 : wq.cell? ⟨wr.heap.size, 2, none⟩ = some (.string ud) := at_cell (at_ext HU.out) 2
      have u3 : wq.cell? ⟨wr.heap.size, 3, none⟩ = some (.slice uA un uk) := at_cell (at_ext HU.out) 3
      go_wp2_with fail
      refine (fits_any ⟨uc, uss, ud, uA, un, uk, ux⟩ cb sb _).mono ?_
      rintro e w3 ⟨rfl, hb3⟩
      have S3 : Step w3 wq := ⟨hb3⟩
      obtain ⟨ft, hft⟩ : ∃ ft, fitI (strB cb) (strB sb) ⟨uc, uss, ud, uA, un, uk, ux⟩ = ft := ⟨_, rfl⟩
      rw [hft] at HBF ⊢
      clear hft hb3 u0 u1 u2 u3
      have u0 : w3.cell? ⟨wr.heap.size, 0, none⟩ = some (.string uc) := at_cell (at_ext HU.out) 0
      have u1 : w3.cell? ⟨wr.heap.size, 1, none⟩ = some (.string uss) := at_cell (at_ext HU.out) 1
      have u2 : w3.cell? ⟨wr.heap.size, 2, none⟩ = some (.string ud) := at_cell (at_ext HU.out) 2
      have u3 : w3.cell? ⟨wr.heap.size, 3, none⟩ = some (.slice uA un uk) := at_cell (at_ext HU.out) 3
      go_wp2_with fail
      refine (rright_any uc uss ud uA un uk ux HK.out.c HK.out.s HK.out.d HK.out.n HK.out.k _ (by exact HK.out.x.ext)).mono ?_
      rintro e w4 ⟨rfl, hb4⟩
      have S4 : Step w4 w3 := ⟨hb4⟩
      obtain ⟨R, hR⟩ : ∃ R, rightF (strB uc) (strB uss) (strB ud) ux = R := ⟨_, rfl⟩
      have hR' : SV.right ⟨uc, uss, ud, uA, un, uk, ux⟩ = R := hR
      rw [hR'] at HBF
      rw [hR]
      clear hR hR' hb4
      by_cases hr : R = 0
      · subst hr
        by_cases hb : bb < ft
        · rw [if_pos ⟨rfl, hb⟩] at HBF
          go_wp2_with fail
          go_roundw
          case rel => exact ⟨k + 1, ft, k, k, by go_num, by omega, rfl, rfl, HBF.out, by have := HBM.out; unfold Hid; omega, by have := HBM.out; unfold Hid; omega, (inferInstance : Ext wb w4)⟩
          case measure => simp [intOf]; omega
        · rw [if_neg (by rintro ⟨_, h⟩; exact hb h)] at HBF
          go_wp2_with fail
          go_roundw
          case rel => exact ⟨k + 1, bb, av, aa, by go_num, by omega, rfl, rfl, HBF.out, HLI.out, HBM.out, (inferInstance : Ext wb w4)⟩
          case measure => simp [intOf]; omega
      · have hr' : (R == 0) = false := by simpa using hr
        rw [if_neg (by rintro ⟨h, _⟩; exact hr h)] at HBF
        clear hr
        go_wp2_with fail
        go_roundw
        case rel => exact ⟨k + 1, bb, av, aa, by go_num, by omega, rfl, rfl, HBF.out, HLI.out, HBM.out, (inferInstance : Ext wb w4)⟩
        case measure => simp [intOf]; omega
    · obtain rfl : k = n := by omega
      have HBZ : Hid (bestF (strB cb) (strB sb) 0 us (-1, 0) = (bb, aa)) := by rw [List.drop_of_length_le (by rw [Hn.out]; exact Nat.le_refl _)] at HBF; exact HBF.out
      by_cases hz : bb < 0
      · have hav : av = -1 := by have := HLI.out; omega
        have HF : Hid (findF (strB cb) (strB sb) us = none) := by unfold Hid findF; rw [HBZ.out, if_pos hz]
        have HPr : Hid (wr.heap[w.heap.size]? = some (.cells zSec 79 (0, 0))) := at_ext HP.out
        subst hav
        go_wp2_with
          (refine wpList_store_row_o rfl 79 (.tmp 6) (.tmp 44) rfl w.heap.size zSec rfl rfl 79 zSec HPr.out (by kernel_rfl) rfl (by simp [Value.oneCell']) ?_
           intro w3 hr3 ho3 hz3 hb3)
        refine bodyPost_ret (results_cell_row2 Try.results114 _ _ w.heap.size 79 zSec (0, 0) _ (.bool false) rfl rfl hr3 Try.underlying79 rfl (by kernel_rfl)) rfl ?_
        refine ⟨hb3 _ _ (inferInstance : Ext w wr).out (Nat.le_refl _), ?_⟩
        rw [HF.out]
      · have hav : av = (aa : Int) ∧ aa < k := by have := HLI.out; omega
        obtain ⟨rfl, hak⟩ := hav
        obtain ⟨u, hu⟩ : ∃ u, us[aa]? = some u := ⟨_, List.getElem?_eq_getElem (by rw [Hn.out]; omega)⟩
        have HF : Hid (findF (strB cb) (strB sb) us = some u) := by unfold Hid findF; rw [HBZ.out, if_neg hz]; exact hu
        obtain ⟨ad, rfl, hc0, hc1, hc2, hc3⟩ := sec_at (HX.out.ext (w' := wr)).x hu
        have hnn : ¬ (aa : Int) < 0 := by omega
        clear hu
        obtain ⟨uc, uss, ud, uA, un, uk, ux⟩ := u
        simp only at hc0 hc1 hc2 hc3
        have HPr : Hid (wr.heap[w.heap.size]? = some (.cells zSec 79 (0, 0))) := at_ext HP.out
        go_wp2_with
          (refine wpList_store_row_o rfl 79 (.tmp 6) (.tmp 48) rfl w.heap.size #[.string uc, .string uss, .string ud, .slice uA un uk] rfl rfl 79 zSec HPr.out (by kernel_rfl) rfl (by simp [Value.oneCell']) ?_
           intro w3 hr3 ho3 hz3 hb3)
        refine bodyPost_ret (results_cell_row2 Try.results114 _ _ w.heap.size 79 #[.string uc, .string uss, .string ud, .slice uA un uk] (0, 0) _ (.bool true) rfl rfl hr3 Try.underlying79 rfl (by kernel_rfl)) rfl ?_
        refine ⟨hb3 _ _ (inferInstance : Ext w wr).out (Nat.le_refl _), ?_⟩
        rw [HF.out]
        rfl
set_option maxRecDepth 100000 in
set_option maxHeartbeats 2000000 in
theorem rcheck_any (A : Option Addr) (n c : Nat) (us : List SV) (cb sb db : ByteArray) (hn : us.length = n) (hn' : n ≤ 17592186044416) (w : World) (hx : SecsAt w A us) :
    Calls Try.prog 67 #[.slice A n c, .string cb, .string sb, .string db] w fun e w' => e = .returned (.int .i64 (checkF (strB cb) (strB sb) (strB db) us)) ∧ Below w.heap.size w w' := by
  have Hn := Lib.hid hn
  have HX := Lib.hid hx
  clear hn hx
  rcases hq : findF (strB cb) (strB sb) us with _ | ⟨uc, uss, ud, uA, un, uk, ux⟩
  · have HQ := Lib.hid hq
    have HF : Hid (checkF (strB cb) (strB sb) (strB db) us = 5) := by unfold Hid checkF; rw [hq]
    clear hq
    go_enter Try.func67, Try.ntmps67
    go_wp2_with fail
    refine (rfind_any A n c us cb sb Hn.out hn' _ HX.out).mono ?_
    rintro e w2 ⟨hb2, he⟩
    have S2 : Step w2 w := ⟨hb2⟩
    have HX2 : Hid (Ext w w2) := (inferInstance : Ext w w2)
    rw [HQ.out] at he
    simp only at he
    clear hb2
    subst he
    have p2 : ∀ o, (w2.alloc o).heap[w2.heap.size]? = some o := at_new w2
    go_wp2_with
      (refine wpList_store_row_o rfl 79 (.tmp 9) (.tmp 16) rfl w2.heap.size zSec rfl rfl 79 zSec (p2 _) (by kernel_rfl) rfl (by simp [Value.oneCell']) ?_
       intro w3 hr3 ho3 hz3 hb3
       have HX3 : Hid (Ext w w3) := ⟨hb3 _ _ (inferInstance : Ext w (w2.alloc _)).out HX2.out.out.size⟩
       have p3 : w3.cell? ⟨w2.heap.size, 2, none⟩ = some (.string ⟨#[]⟩) := at_cell hr3 2)
    go_ret
    exact ⟨by rw [HF.out]; rfl, HX3.out.out⟩
  · have HQ := Lib.hid hq
    by_cases h1 : ud.toList = []
    · have HF : Hid (checkF (strB cb) (strB sb) (strB db) us = 120) := by unfold Hid checkF; rw [hq]; exact if_pos (.inl (by unfold strB; rw [← Lib.toList_data, h1]; rfl))
      clear hq
      go_enter Try.func67, Try.ntmps67
      go_wp2_with fail
      refine (rfind_any A n c us cb sb Hn.out hn' _ HX.out).mono ?_
      rintro e w2 ⟨hb2, he⟩
      have S2 : Step w2 w := ⟨hb2⟩
      have HX2 : Hid (Ext w w2) := (inferInstance : Ext w w2)
      rw [HQ.out] at he
      simp only at he
      clear hb2
      subst he
      simp only [SV.val]
      have p2 : ∀ o, (w2.alloc o).heap[w2.heap.size]? = some o := at_new w2
      go_wp2_with
        (refine wpList_store_row_o rfl 79 (.tmp 9) (.tmp 16) rfl w2.heap.size #[.string uc, .string uss, .string ud, .slice uA un uk] rfl rfl 79 zSec (p2 _) (by kernel_rfl) rfl (by simp [Value.oneCell']) ?_
         intro w3 hr3 ho3 hz3 hb3
         have HX3 : Hid (Ext w w3) := ⟨hb3 _ _ (inferInstance : Ext w (w2.alloc _)).out HX2.out.out.size⟩
         have p3 : w3.cell? ⟨w2.heap.size, 2, none⟩ = some (.string ud) := at_cell hr3 2)
      go_ret
      exact ⟨by rw [HF.out]; rfl, HX3.out.out⟩
    have h1' : ¬ strB ud = [] := fun h => h1 (by unfold strB at h; rw [Lib.toList_data]; exact List.map_eq_nil_iff.1 h)
    by_cases h2 : ud.toList = db.toList
    · have HF : Hid (checkF (strB cb) (strB sb) (strB db) us = 0) := by unfold Hid checkF; rw [hq]; exact if_neg (by rintro (h | h); exact h1' h; exact h (strB_iff.2 h2))
      clear hq h1'
      go_enter Try.func67, Try.ntmps67
      go_wp2_with fail
      refine (rfind_any A n c us cb sb Hn.out hn' _ HX.out).mono ?_
      rintro e w2 ⟨hb2, he⟩
      have S2 : Step w2 w := ⟨hb2⟩
      have HX2 : Hid (Ext w w2) := (inferInstance : Ext w w2)
      rw [HQ.out] at he
      simp only at he
      clear hb2
      subst he
      have b1 : (ud.toList == []) = false := by simpa using h1
      have b2 : (ud.toList == db.toList) = true := by simpa using h2
      rw [h2] at h1
      have b3 : (db.toList == []) = false := by simpa using h1
      simp only [SV.val]
      have p2 : ∀ o, (w2.alloc o).heap[w2.heap.size]? = some o := at_new w2
      go_wp2_with
        (refine wpList_store_row_o rfl 79 (.tmp 9) (.tmp 16) rfl w2.heap.size #[.string uc, .string uss, .string ud, .slice uA un uk] rfl rfl 79 zSec (p2 _) (by kernel_rfl) rfl (by simp [Value.oneCell']) ?_
         intro w3 hr3 ho3 hz3 hb3
         have HX3 : Hid (Ext w w3) := ⟨hb3 _ _ (inferInstance : Ext w (w2.alloc _)).out HX2.out.out.size⟩
         have p3 : w3.cell? ⟨w2.heap.size, 2, none⟩ = some (.string ud) := at_cell hr3 2)
      go_ret
      exact ⟨by rw [HF.out]; rfl, HX3.out.out⟩
    · have HF : Hid (checkF (strB cb) (strB sb) (strB db) us = 120) := by unfold Hid checkF; rw [hq]; exact if_pos (.inr (fun h => h2 (strB_iff.1 h)))
      clear hq h1'
      go_enter Try.func67, Try.ntmps67
      go_wp2_with fail
      refine (rfind_any A n c us cb sb Hn.out hn' _ HX.out).mono ?_
      rintro e w2 ⟨hb2, he⟩
      have S2 : Step w2 w := ⟨hb2⟩
      have HX2 : Hid (Ext w w2) := (inferInstance : Ext w w2)
      rw [HQ.out] at he
      simp only at he
      clear hb2
      subst he
      have b1 : (ud.toList == []) = false := by simpa using h1
      have b2 : (ud.toList == db.toList) = false := by simpa using h2
      simp only [SV.val]
      have p2 : ∀ o, (w2.alloc o).heap[w2.heap.size]? = some o := at_new w2
      go_wp2_with
        (refine wpList_store_row_o rfl 79 (.tmp 9) (.tmp 16) rfl w2.heap.size #[.string uc, .string uss, .string ud, .slice uA un uk] rfl rfl 79 zSec (p2 _) (by kernel_rfl) rfl (by simp [Value.oneCell']) ?_
         intro w3 hr3 ho3 hz3 hb3
         have HX3 : Hid (Ext w w3) := ⟨hb3 _ _ (inferInstance : Ext w (w2.alloc _)).out HX2.out.out.size⟩
         have p3 : w3.cell? ⟨w2.heap.size, 2, none⟩ = some (.string ud) := at_cell hr3 2)
      go_ret
      exact ⟨by rw [HF.out]; rfl, HX3.out.out⟩
set_option maxRecDepth 100000 in
set_option maxHeartbeats 4000000 in
theorem rfault_any (A : Option Addr) (n c : Nat) (us : List SV) (hn : us.length = n) (hn' : n ≤ 17592186044416) (w : World) (hx : SecsAt w A us) :
    Calls Try.prog 100 #[.slice A n c] w fun e w' => e = .returned (.tuple #[.int .i64 (wrongF us).1, .int .i64 (wrongF us).2]) ∧ Below w.heap.size w w' := by
  have Hn := Lib.hid hn
  have HX := Lib.hid hx
  clear hn hx
  by_cases hl : 64 < n
  · have HF : Hid (wrongF us = (7, 0)) := if_pos (by rw [Hn.out]; exact hl)
    have hl' : 64 < (n : Int) := by omega
    go_enter Try.func100, Try.ntmps100
    go_wp2
    go_ret2
    exact ⟨by rw [HF.out]; rfl, Below.refl _ _⟩
  · have HF : Hid (wrongF us = wrongAt 0 us) := if_neg (by rw [Hn.out]; exact hl)
    have hl' : ¬ 64 < (n : Int) := by omega
    have HL := Lib.hid hl
    clear hl
    go_enter Try.func100, Try.ntmps100
    go_wp2
    go_loopw [12, 4, 5, 6] (fun i a b e wr => ∃ k : Nat, i = .int .i64 k ∧ k ≤ n ∧ Hid (wrongF us = wrongAt k (us.drop k)) ∧ Hid (Ext w wr)) (fun i _ _ _ _ => n - (intOf i).toNat)
    case atStart => exact ⟨0, rfl, by omega, HF.out, (inferInstance : Ext w w)⟩
    case round =>
      obtain ⟨k, rfl, hk, HD, HW⟩ := hrel
      have Sr : Step wr w := ⟨HW.out.out⟩
      by_cases hlt : k < n
      · obtain ⟨u, hu⟩ : ∃ u, us[k]? = some u := ⟨_, List.getElem?_eq_getElem (by rw [Hn.out]; exact hlt)⟩
        obtain ⟨ad, rfl, hc0, hc1, hc2, hc3⟩ := sec_at (HX.out.ext (w' := wr)).x hu
        have HK := Lib.hid ((HX.out.ext (w' := wr)).ok u (List.mem_of_getElem? hu))
        rw [drop_at hu] at HD
        clear hu
        obtain ⟨uc, uss, ud, uA, un, uk, ux⟩ := u
        simp only at hc0 hc1 hc2 hc3
        go_wp2_with fail
        refine (rright_any uc uss ud uA un uk ux HK.out.c HK.out.s HK.out.d HK.out.n HK.out.k _ (by exact HK.out.x.ext)).mono ?_
        rintro e w2 ⟨rfl, hb2⟩
        have S2 : Step w2 _ := ⟨hb2⟩
        obtain ⟨R, hR⟩ : ∃ R, rightF (strB uc) (strB uss) (strB ud) ux = R := ⟨_, rfl⟩
        rw [hR]
        have HD2 : Hid (wrongF us = if R ≠ 0 then (R, k) else wrongAt (k + 1) (us.drop (k + 1))) := by unfold Hid; rw [← hR]; exact HD.out
        clear hR hb2
        by_cases hr : R = 0
        · subst hr
          go_wp2_with fail
          go_roundw
          case rel => exact ⟨k + 1, by go_num, by omega, HD2.out, (inferInstance : Ext w w2)⟩
          case measure => simp [intOf]; omega
        · have hr' : (R != 0) = true := by simpa using hr
          have HZ : Hid (wrongF us = (R, k)) := HD2.out.trans (if_pos hr)
          clear hr
          go_wp2_with fail
          go_ret2
          exact ⟨by rw [HZ.out]; rfl, (inferInstance : Ext w w2).out⟩
      · obtain rfl : k = n := by omega
        have HZ : Hid (wrongF us = (0, 0)) := by rw [List.drop_of_length_le (by rw [Hn.out]; exact Nat.le_refl _)] at HD; exact HD.out
        go_wp2
        go_ret2
        exact ⟨by rw [HZ.out]; rfl, HW.out.out⟩
end Go.Proofs.Ytodibldfolognaa
