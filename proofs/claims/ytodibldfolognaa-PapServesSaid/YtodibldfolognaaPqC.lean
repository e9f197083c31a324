/-
  ref06.Right: what is wrong of a secret. Conditions: sizes.
-/
import Derived.Test.YtodibldfolognaaPpW
import Derived.Test.YtodibldfolognaaPpJ
namespace Go.Proofs.Ytodibldfolognaa
open Go.RowKit
set_option linter.unusedVariables false
set_option linter.unusedSimpArgs false

theorem take_getD {xs : List Int} {k : Nat} (hk : k < xs.length) : xs.take (k + 1) = xs.take k ++ [xs.getD k 0] := by
  rw [List.take_add_one, List.getElem?_eq_getElem hk, List.getD_eq_getElem?_getD, List.getElem?_eq_getElem hk]
  rfl
theorem getD_mem_take {xs : List Int} {m j : Nat} (hm : m < xs.length) (h : m < j) : xs.getD m 0 ∈ xs.take j := by
  rw [List.getD_eq_getElem?_getD, List.getElem?_eq_getElem hm]
  exact List.mem_take_iff_getElem.2 ⟨m, by omega, rfl⟩
theorem not_nodup {xs : List Int} {k : Nat} (hk : k < xs.length) (h : xs.getD k 0 ∈ xs.take k) : decide xs.Nodup = false := by
  refine decide_eq_false (fun hn => ?_)
  have h1 := nodup_snoc hk
  rw [decide_eq_true h] at h1
  have h2 : (xs.take (k + 1)).Nodup := List.Nodup.sublist (List.take_sublist _ _) hn
  rw [decide_eq_true h2] at h1
  simp at h1
set_option maxRecDepth 100000 in
set_option maxHeartbeats 8000000 in
theorem rright_any (c s d : ByteArray) (A : Option Addr) (n cp : Nat) (xs : List Int) (hc : c.size ≤ 140737488355328) (hs : s.size ≤ 140737488355328) (hd : d.size ≤ 140737488355328) (hn : xs.length = n) (hcp : n ≤ cp) (w : World) (hx : Cells w A (nums .i64 xs)) :
    Calls Try.prog 124 #[.agg #[.string c, .string s, .string d, .slice A n cp]] w fun e w' => e = .returned (.int .i64 (rightF (strB c) (strB s) (strB d) xs)) ∧ Below w.heap.size w w' := by
  have Hn := Lib.hid hn
  have HX := Lib.hid hx
  clear hn hx
  go_enter Try.func124, Try.ntmps124
  go_upto_region 1 with fail
  obtain ⟨wb, hwb⟩ : ∃ wb, w.alloc (.cells #[.string c, .string s, .string d, .slice A n cp] 79) = wb := ⟨_, rfl⟩
  have HP : Hid (wb.heap[w.heap.size]? = some (.cells #[.string c, .string s, .string d, .slice A n cp] 79 (0, 0))) := by unfold Hid; rw [← hwb]; exact at_new w _
  have HW : Hid (Ext w wb) := by unfold Hid; rw [← hwb]; exact inferInstance
  rw [hwb]
  clear hwb
  have p0 : wb.cell? ⟨w.heap.size, 0, none⟩ = some (.string c) := at_cell HP.out 0
  have p1 : wb.cell? ⟨w.heap.size, 1, none⟩ = some (.string s) := at_cell HP.out 1
  have p2 : wb.cell? ⟨w.heap.size, 2, none⟩ = some (.string d) := at_cell HP.out 2
  have p3 : wb.cell? ⟨w.heap.size, 3, none⟩ = some (.slice A n cp) := at_cell HP.out 3
  rcases hb1 : nameF (strB c) with _ | _
  · have HA := Lib.hid hb1
    have HF : Hid (rightF (strB c) (strB s) (strB d) xs = 60) := if_pos (by rw [hb1]; rfl)
    clear hb1
    go_wp2_with fail
    refine (rname_any c hc _).mono ?_
    rintro e w1 ⟨rfl, rfl⟩
    rw [HA.out]
    go_wp2_with fail
    go_ret
    exact ⟨by rw [HF.out]; rfl, HW.out.out⟩
  have HA := Lib.hid hb1
  rcases hb2 : nameF (strB s) with _ | _
  · have HB := Lib.hid hb2
    have HF : Hid (rightF (strB c) (strB s) (strB d) xs = 60) := if_pos (by rw [hb1, hb2]; rfl)
    clear hb1 hb2
    go_wp2_with fail
    refine (rname_any c hc _).mono ?_
    rintro e w1 ⟨rfl, rfl⟩
    rw [HA.out]
    go_wp2_with fail
    refine (rname_any s hs _).mono ?_
    rintro e w1 ⟨rfl, rfl⟩
    rw [HB.out]
    go_wp2_with fail
    go_ret
    exact ⟨by rw [HF.out]; rfl, HW.out.out⟩
  have HB := Lib.hid hb2
  have HG : Hid (∀ r, (if strB d ≠ [] ∧ nameF (strB d) = false then 52 else if 16 < xs.length then 7 else if xs.all adOk = false then 150 else if decide xs.Nodup = false then 6 else 0) = r → rightF (strB c) (strB s) (strB d) xs = r) := fun r h => (if_neg (by rw [hb1, hb2]; simp)).trans h
  clear hb1 hb2
  go_wp2_with fail
  refine (rname_any c hc _).mono ?_
  rintro e w1 ⟨rfl, rfl⟩
  rw [HA.out]
  go_wp2_with fail
  refine (rname_any s hs _).mono ?_
  rintro e w1 ⟨rfl, rfl⟩
  rw [HB.out]
  go_upto_region 3 with fail
  obtain ⟨q2, hq2⟩ : ∃ q2, (decide (strB d ≠ []) && !(nameF (strB d))) = q2 := ⟨_, rfl⟩
  have HQ2 := Lib.hid hq2
  clear hq2
  go_cut [20] (fun s wx => s = .bool q2 ∧ wb = wx)
  case first =>
    by_cases hds : d.toList = []
    · have HD0 : Hid (strB d = []) := by unfold Hid strB; rw [← Lib.toList_data, hds]; rfl
      go_wp2_with fail
      go_meet
      case rel => exact ⟨by rw [← HQ2.out, HD0.out]; rfl, rfl⟩
    · have HD0 : Hid (decide (strB d ≠ []) = true) := decide_eq_true (fun h => hds (by unfold strB at h; rw [Lib.toList_data]; exact List.map_eq_nil_iff.1 h))
      have hdb : (d.toList == []) = false := by simpa using hds
      go_wp2_with fail
      refine (rname_any d hd _).mono ?_
      rintro e w1 ⟨rfl, rfl⟩
      obtain ⟨dn, hdn⟩ : ∃ dn, nameF (strB d) = dn := ⟨_, rfl⟩
      rw [hdn]
      have HDN := Lib.hid hdn
      clear hdn
      cases dn
      · go_wp2_with fail
        go_meet
        case rel => exact ⟨by rw [← HQ2.out, HD0.out, HDN.out]; rfl, rfl⟩
      · go_wp2_with fail
        go_meet
        case rel => exact ⟨by rw [← HQ2.out, HD0.out, HDN.out]; rfl, rfl⟩
  case' rest =>
    obtain ⟨rfl, rfl⟩ := hcut
  cases q2
  case true =>
    have HF : Hid (rightF (strB c) (strB s) (strB d) xs = 52) := HG.out _ (if_pos (by have h := HQ2.out; simpa using h))
    go_wp2_with fail
    go_ret
    exact ⟨by rw [HF.out]; rfl, HW.out.out⟩
  have HG2 : Hid (∀ r, (if 16 < xs.length then 7 else if xs.all adOk = false then 150 else if decide xs.Nodup = false then 6 else 0) = r → rightF (strB c) (strB s) (strB d) xs = r) := fun r h => HG.out _ ((if_neg (fun h' => by have h := HQ2.out; rw [decide_eq_true h'.1, h'.2] at h; cases h)).trans h)
  clear HG HQ2
  by_cases hl : 16 < n
  · have HF : Hid (rightF (strB c) (strB s) (strB d) xs = 7) := HG2.out _ (if_pos (by rw [Hn.out]; exact hl))
    have hl' : 16 < (n : Int) := by omega
    go_wp2_with fail
    go_ret
    exact ⟨by rw [HF.out]; rfl, HW.out.out⟩
  have HG3 : Hid (∀ r, (if xs.all adOk = false then 150 else if decide xs.Nodup = false then 6 else 0) = r → rightF (strB c) (strB s) (strB d) xs = r) := fun r h => HG2.out _ ((if_neg (by rw [Hn.out]; exact hl)).trans h)
  have hl' : ¬ 16 < (n : Int) := by omega
  clear HG2
  have HX3 : Hid (Cells wb A (nums .i64 xs)) := by have := HW.out; exact HX.out.ext
  go_wp2_with fail
  go_loopw [38, 4] (fun i t wr => ∃ k : Nat, i = .int .i64 k ∧ k ≤ n ∧ Hid ((xs.take k).all adOk = true) ∧ wb = wr) (fun i _ _ => n - (intOf i).toNat)
  case atStart => exact ⟨0, rfl, by omega, rfl, rfl⟩
  case round =>
    obtain ⟨k, rfl, hk, HAk, rfl⟩ := hrel
    by_cases hlt : k < n
    · obtain ⟨ad, rfl, hcl⟩ := HX3.out.num (by rw [Hn.out]; exact hlt)
      have HLT := Lib.hid (show k < xs.length by rw [Hn.out]; exact hlt)
      obtain ⟨X, hX⟩ : ∃ X, xs.getD k 0 = X := ⟨_, rfl⟩
      rw [hX] at hcl
      have HXk := Lib.hid hX
      clear hX
      by_cases p1 : X < 1
      · have HF : Hid (rightF (strB c) (strB s) (strB d) xs = 150) := HG3.out _ (if_pos (all_not HLT.out (by rw [HXk.out]; unfold adOk; exact decide_eq_false (by omega))))
        go_wp2_with fail
        go_ret
        exact ⟨by rw [HF.out]; rfl, HW.out.out⟩
      by_cases p2 : 4294967295 < X
      · have HF : Hid (rightF (strB c) (strB s) (strB d) xs = 150) := HG3.out _ (if_pos (all_not HLT.out (by rw [HXk.out]; unfold adOk; exact decide_eq_false (by omega))))
        go_wp2_with fail
        go_ret
        exact ⟨by rw [HF.out]; rfl, HW.out.out⟩
      have HA2 := Lib.hid (all_take_succ HAk.out HLT.out (by rw [HXk.out]; unfold adOk; exact decide_eq_true (by omega)))
      go_wp2_with fail
      go_roundw
      case rel => exact ⟨k + 1, by go_num, by omega, HA2.out, trivial⟩
      case measure => simp [intOf]; omega
    · obtain rfl : k = n := by omega
      have hall := HAk.out
      rw [List.take_of_length_le (by rw [Hn.out]; exact Nat.le_refl _)] at hall
      have HG4 : Hid (∀ r, (if decide xs.Nodup = false then 6 else 0) = r → rightF (strB c) (strB s) (strB d) xs = r) := fun r h => HG3.out r ((if_neg (by rw [hall]; simp)).trans h)
      clear HG3 HAk hall
      go_wp2_with fail
      go_loopw [52, 5, 6, 8] (fun i x5 x6 x8 wr => ∃ j : Nat, i = .int .i64 j ∧ j ≤ k ∧ Hid (decide (xs.take j).Nodup = true) ∧ wb = wr) (fun i _ _ _ _ => k - (intOf i).toNat)
      case atStart => exact ⟨0, rfl, by omega, rfl, rfl⟩
      case round =>
        obtain ⟨j, rfl, hj, HND, rfl⟩ := hrel
        by_cases hlt2 : j < k
        · obtain ⟨ad, rfl, hcl⟩ := HX3.out.num (by rw [Hn.out]; exact hlt2)
          have HLT := Lib.hid (show j < xs.length by rw [Hn.out]; exact hlt2)
          obtain ⟨X, hX⟩ : ∃ X, xs.getD j 0 = X := ⟨_, rfl⟩
          rw [hX] at hcl
          have HXj := Lib.hid hX
          have b1 : (j : Int) ≤ (cp : Int) := by omega
          have b2 : ¬ (cp : Int) < (j : Int) := by omega
          clear hX
          go_wp2_with fail
          go_loopw [62, 8] (fun i x8 wr => ∃ m : Nat, i = .int .i64 m ∧ m ≤ j ∧ Hid (X ∉ xs.take m) ∧ wb = wr) (fun i _ _ => j - (intOf i).toNat)
          case atStart => exact ⟨0, rfl, by omega, by unfold Hid; simp, rfl⟩
          case round =>
            obtain ⟨m, rfl, hm, HNM, rfl⟩ := hrel
            by_cases hlt3 : m < j
            · have HLM := Lib.hid (show m < xs.length by rw [Hn.out]; omega)
              have hcm : wb.cell? (ad.add m) = some (.int .i64 (xs.getD m 0)) := by
                obtain ⟨ad', he, hc'⟩ := HX3.out.num (i := m) HLM.out
                injection he with he
                rw [he]
                exact hc'
              obtain ⟨Y, hY⟩ : ∃ Y, xs.getD m 0 = Y := ⟨_, rfl⟩
              rw [hY] at hcm
              have HYm := Lib.hid hY
              clear hY
              by_cases hxy : X = Y
              · have HF : Hid (rightF (strB c) (strB s) (strB d) xs = 6) := HG4.out _ (if_pos (not_nodup HLT.out (by rw [HXj.out, hxy, ← HYm.out]; exact getD_mem_take HLM.out hlt3)))
                subst hxy
                go_wp2_with fail
                go_ret
                exact ⟨by rw [HF.out]; rfl, HW.out.out⟩
              · have hxyb : (X == Y) = false := by simpa using hxy
                have HNM2 : Hid (X ∉ xs.take (m + 1)) := by
                  unfold Hid
                  rw [take_getD HLM.out, List.mem_append, HYm.out]
                  rintro (h | h)
                  · exact HNM.out h
                  · simp at h; exact hxy h
                go_wp2_with fail
                go_roundw
                case rel => exact ⟨m + 1, by go_num, by omega, HNM2.out, trivial⟩
                case measure => simp [intOf]; omega
            · obtain rfl : m = j := by omega
              have HND2 : Hid (decide (xs.take (m + 1)).Nodup = true) := by unfold Hid; rw [nodup_snoc HLT.out, HND.out, HXj.out, decide_eq_false HNM.out]; rfl
              go_wp2_with fail
              go_roundw
              case rel => exact ⟨m + 1, by go_num, by omega, HND2.out, trivial⟩
              case measure => simp [intOf]; omega
        · obtain rfl : j = k := by omega
          have HF : Hid (rightF (strB c) (strB s) (strB d) xs = 0) := HG4.out _ (if_neg (by
            have h := HND.out
            rw [List.take_of_length_le (by rw [Hn.out]; exact Nat.le_refl _)] at h
            rw [h]; simp))
          go_wp2_with fail
          go_ret
          exact ⟨by rw [HF.out]; rfl, HW.out.out⟩
end Go.Proofs.Ytodibldfolognaa
