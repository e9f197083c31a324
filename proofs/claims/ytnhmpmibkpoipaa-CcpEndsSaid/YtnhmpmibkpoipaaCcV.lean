/-
  ccp.Reject, and the reference's last, Nak and Reject. Conditions: the list is no longer than the model's memory.
-/
import Derived.Test.YtnhmpmibkpoipaaCcU
namespace Go.Proofs.Ytnhmpmibkpoipaa
open Go.RowKit
set_option linter.unusedVariables false
set_option linter.unusedSimpArgs false

abbrev cQ (d b : Int) : Obj := .cells #[.int .i64 d, .int .i64 b] 43
set_option maxRecDepth 100000 in
set_option maxHeartbeats 8000000 in
theorem reject22_any (cf : Array Value) (d b : Int) (A : Option Addr) (n c : Nat) (vs : List OV) (hn : vs.length = n) (hn' : n ≤ 4398046511104)
    (w : World) (hx : Cells w A (flat vs)) :
    Calls Try.prog 35 #[.agg cf, .agg #[.int .i64 d, .int .i64 b], .slice A n c] w (NakTells22 ((vs.map OV.opt).foldl rejU (d, b), true) w) := by
  have Hn := Lib.hid hn
  have HX := Lib.hid hx
  obtain ⟨R, hR⟩ : ∃ R, (vs.map OV.opt).foldl rejU (d, b) = R := ⟨_, rfl⟩
  have HR := Lib.hid hR
  rw [hR]
  clear hn hx hR
  have HO : Hid ((((w.alloc (.cells cf 39)).alloc (cP d b)).alloc (cP 0 0)).heap[w.heap.size + 1]? = some (cP d b)) := at_ext (w := (w.alloc (.cells cf 39)).alloc (cP d b)) (at_new1 (by simp))
  have HZ0 : Hid ((((w.alloc (.cells cf 39)).alloc (cP d b)).alloc (cP 0 0)).heap[w.heap.size + 1 + 1]? = some (cP 0 0)) := at_new1 (by simp)
  go_enter Try.func35, Try.ntmps35
  go_wp2
  go_loopw [12] (fun i wr => ∃ (k : Nat) (sd sb : Int), i = .int .i64 k ∧ k ≤ n ∧ Hid (((vs.map OV.opt).drop k).foldl rejU (sd, sb) = R) ∧ Hid (wr.heap[w.heap.size + 1]? = some (cP sd sb)) ∧ Hid (wr.heap[w.heap.size + 1 + 1]? = some (cP 0 0)) ∧ Hid (Ext (w.alloc (.cells cf 39)) wr)) (fun i _ => n - (intOf i).toNat)
  case atStart => exact ⟨0, d, b, rfl, by omega, HR.out, HO.out, HZ0.out, (inferInstance : Ext _ _)⟩
  case round =>
    obtain ⟨k, sd, sb, rfl, hk, HRK, HS, HZ, HXR⟩ := hrel
    have XR : Ext (w.alloc (.cells cf 39)) wr := HXR.out
    have YR : Ext w wr := Ext.trans_ inferInstance XR
    have f0 := at_frozen HS.out 0
    have f1 := at_frozen HS.out 1
    have r0 : wr.cell? ⟨w.heap.size + 1, 0, none⟩ = some (.int .i64 sd) := at_cell HS.out 0
    have r1 : wr.cell? ⟨w.heap.size + 1, 1, none⟩ = some (.int .i64 sb) := at_cell HS.out 1
    by_cases hlt : k < n
    · obtain ⟨v, hv, hvm⟩ := optD (vs := vs) (k := k) (by rw [Hn.out]; exact hlt)
      obtain ⟨ad, rfl, hc0, hc1⟩ := opt_at (HX.out.ext (w' := wr)) hv
      have HV : Hid ((vs.map OV.opt)[k]? = some v.opt) := by unfold Hid; rw [List.getElem?_map, hv]; rfl
      have HRS := Lib.hid (fold_step HRK.out HV.out)
      have q0 : ∀ o, (wr.alloc o).cell? ⟨w.heap.size + 1, 0, none⟩ = some (.int .i64 sd) := fun o => cell_ext r0
      have q1 : ∀ o, (wr.alloc o).cell? ⟨w.heap.size + 1, 1, none⟩ = some (.int .i64 sb) := fun o => cell_ext r1
      have g0 : ∀ o, (wr.alloc o).frozen? ⟨w.heap.size + 1, 0, none⟩ = false := fun o => at_frozen (at_ext HS.out) 0
      have g1 : ∀ o, (wr.alloc o).frozen? ⟨w.heap.size + 1, 1, none⟩ = false := fun o => at_frozen (at_ext HS.out) 1
      clear hv hvm
      obtain ⟨t, VA, vn, vc, xs⟩ := v
      simp only at hc0 hc1
      by_cases ht : t = 26
      · subst ht
        have HRN : Hid (((vs.map OV.opt).drop (k + 1)).foldl rejU (0, sb) = R) := HRS.out
        clear HRS
        go_wp2
        go_roundw
        case rel => exact ⟨k + 1, 0, sb, by go_num, by omega, HRN, at_set (at_ext HS.out) 0 _, at_other _ (at_ext HZ.out) (by simp), Ext.setG inferInstance _ _ _ (by simp)⟩
        case measure => simp [intOf]; omega
      have ht' : (t == 26) = false := by simpa using ht
      by_cases hu : t = 21
      · subst hu
        have HRN : Hid (((vs.map OV.opt).drop (k + 1)).foldl rejU (sd, 0) = R) := HRS.out
        clear HRS ht ht'
        go_wp2
        go_roundw
        case rel => exact ⟨k + 1, sd, 0, by go_num, by omega, HRN, at_set (at_ext HS.out) 1 _, at_other _ (at_ext HZ.out) (by simp), Ext.setG inferInstance _ _ _ (by simp)⟩
        case measure => simp [intOf]; omega
      · have hu' : (t == 21) = false := by simpa using hu
        have HRN : Hid (((vs.map OV.opt).drop (k + 1)).foldl rejU (sd, sb) = R) := by
          have h := HRS.out
          rw [show rejU (sd, sb) (OV.opt ⟨t, VA, vn, vc, xs⟩) = (sd, sb) from by show rejU (sd, sb) (t, xs) = _; unfold rejU; simp only [if_neg ht, if_neg hu]] at h
          exact h
        clear HRS ht hu
        go_wp2
        go_roundw
        case rel => exact ⟨k + 1, sd, sb, by go_num, by omega, HRN, at_ext HS.out, at_ext HZ.out, (inferInstance : Ext _ _)⟩
        case measure => simp [intOf]; omega
    · have hRE := fold_end HRK.out (by rw [List.length_map, Hn.out]; omega)
      subst hRE
      have f2 := at_frozen HZ.out 0
      have f3 := at_frozen HZ.out 1
      have r2 : wr.cell? ⟨w.heap.size + 1 + 1, 0, none⟩ = some (.int .i64 0) := at_cell HZ.out 0
      have r3 : wr.cell? ⟨w.heap.size + 1 + 1, 1, none⟩ = some (.int .i64 0) := at_cell HZ.out 1
      go_wp2
      have hd0 := at_cell (at_set2 (.int .i64 sd) (.int .i64 sb) HZ.out) 0
      have hd1 := at_cell (at_set2 (.int .i64 sd) (.int .i64 sb) HZ.out) 1
      simp only [List.getElem?_toArray, List.getElem?_cons_zero, List.getElem?_cons_succ] at hd0 hd1
      exact bodyPost_ret (v := .tuple #[.agg #[.int .i64 sd, .int .i64 sb], .bool true]) (by simp [results, Try.results35, go_sem, hd0, hd1]) rfl ⟨rfl, Ext.out⟩
set_option maxRecDepth 100000 in
set_option maxHeartbeats 8000000 in
theorem rreject22_any (d b : Int) (A : Option Addr) (n c : Nat) (vs : List OV) (hn : vs.length = n) (hn' : n ≤ 4398046511104)
    (w : World) (hx : Cells w A (flat vs)) :
    Calls Try.prog 36 #[.agg #[.int .i64 d, .int .i64 b], .slice A n c] w fun e w' => e = .returned (.agg #[.int .i64 ((vs.map OV.opt).foldl rejU (d, b)).1, .int .i64 ((vs.map OV.opt).foldl rejU (d, b)).2]) ∧ Below w.heap.size w w' := by
  have Hn := Lib.hid hn
  have HX := Lib.hid hx
  obtain ⟨R, hR⟩ : ∃ R, (vs.map OV.opt).foldl rejU (d, b) = R := ⟨_, rfl⟩
  have HR := Lib.hid hR
  rw [hR]
  clear hn hx hR
  have HO : Hid (((w.alloc (cQ d b)).alloc (cQ 0 0)).heap[w.heap.size]? = some (cQ d b)) := at_ext (at_new w (cQ d b))
  have HZ0 : Hid (((w.alloc (cQ d b)).alloc (cQ 0 0)).heap[w.heap.size + 1]? = some (cQ 0 0)) := at_new1 (by simp)
  go_enter Try.func36, Try.ntmps36
  go_wp2
  go_loopw [9] (fun i wr => ∃ (k : Nat) (sd sb : Int), i = .int .i64 k ∧ k ≤ n ∧ Hid (((vs.map OV.opt).drop k).foldl rejU (sd, sb) = R) ∧ Hid (wr.heap[w.heap.size]? = some (cQ sd sb)) ∧ Hid (wr.heap[w.heap.size + 1]? = some (cQ 0 0)) ∧ Hid (Ext w wr)) (fun i _ => n - (intOf i).toNat)
  case atStart => exact ⟨0, d, b, rfl, by omega, HR.out, HO.out, HZ0.out, (inferInstance : Ext _ _)⟩
  case round =>
    obtain ⟨k, sd, sb, rfl, hk, HRK, HS, HZ, HXR⟩ := hrel
    have XR : Ext w wr := HXR.out
    have YR : Ext w wr := Ext.trans_ inferInstance XR
    have f0 := at_frozen HS.out 0
    have f1 := at_frozen HS.out 1
    have r0 : wr.cell? ⟨w.heap.size, 0, none⟩ = some (.int .i64 sd) := at_cell HS.out 0
    have r1 : wr.cell? ⟨w.heap.size, 1, none⟩ = some (.int .i64 sb) := at_cell HS.out 1
    by_cases hlt : k < n
    · obtain ⟨v, hv, hvm⟩ := optD (vs := vs) (k := k) (by rw [Hn.out]; exact hlt)
      obtain ⟨ad, rfl, hc0, hc1⟩ := opt_at (HX.out.ext (w' := wr)) hv
      have HV : Hid ((vs.map OV.opt)[k]? = some v.opt) := by unfold Hid; rw [List.getElem?_map, hv]; rfl
      have HRS := Lib.hid (fold_step HRK.out HV.out)
      have q0 : ∀ o, (wr.alloc o).cell? ⟨w.heap.size, 0, none⟩ = some (.int .i64 sd) := fun o => cell_ext r0
      have q1 : ∀ o, (wr.alloc o).cell? ⟨w.heap.size, 1, none⟩ = some (.int .i64 sb) := fun o => cell_ext r1
      have g0 : ∀ o, (wr.alloc o).frozen? ⟨w.heap.size, 0, none⟩ = false := fun o => at_frozen (at_ext HS.out) 0
      have g1 : ∀ o, (wr.alloc o).frozen? ⟨w.heap.size, 1, none⟩ = false := fun o => at_frozen (at_ext HS.out) 1
      clear hv hvm
      obtain ⟨t, VA, vn, vc, xs⟩ := v
      simp only at hc0 hc1
      by_cases ht : t = 26
      · subst ht
        have HRN : Hid (((vs.map OV.opt).drop (k + 1)).foldl rejU (0, sb) = R) := HRS.out
        clear HRS
        go_wp2
        go_roundw
        case rel => exact ⟨k + 1, 0, sb, by go_num, by omega, HRN, at_set (at_ext HS.out) 0 _, at_other _ (at_ext HZ.out) (by simp), Ext.setG inferInstance _ _ _ (by simp)⟩
        case measure => simp [intOf]; omega
      have ht' : (t == 26) = false := by simpa using ht
      by_cases hu : t = 21
      · subst hu
        have HRN : Hid (((vs.map OV.opt).drop (k + 1)).foldl rejU (sd, 0) = R) := HRS.out
        clear HRS ht ht'
        go_wp2
        go_roundw
        case rel => exact ⟨k + 1, sd, 0, by go_num, by omega, HRN, at_set (at_ext HS.out) 1 _, at_other _ (at_ext HZ.out) (by simp), Ext.setG inferInstance _ _ _ (by simp)⟩
        case measure => simp [intOf]; omega
      · have hu' : (t == 21) = false := by simpa using hu
        have HRN : Hid (((vs.map OV.opt).drop (k + 1)).foldl rejU (sd, sb) = R) := by
          have h := HRS.out
          rw [show rejU (sd, sb) (OV.opt ⟨t, VA, vn, vc, xs⟩) = (sd, sb) from by show rejU (sd, sb) (t, xs) = _; unfold rejU; simp only [if_neg ht, if_neg hu]] at h
          exact h
        clear HRS ht hu
        go_wp2
        go_roundw
        case rel => exact ⟨k + 1, sd, sb, by go_num, by omega, HRN, at_ext HS.out, at_ext HZ.out, (inferInstance : Ext _ _)⟩
        case measure => simp [intOf]; omega
    · have hRE := fold_end HRK.out (by rw [List.length_map, Hn.out]; omega)
      subst hRE
      have f2 := at_frozen HZ.out 0
      have f3 := at_frozen HZ.out 1
      have r2 : wr.cell? ⟨w.heap.size + 1, 0, none⟩ = some (.int .i64 0) := at_cell HZ.out 0
      have r3 : wr.cell? ⟨w.heap.size + 1, 1, none⟩ = some (.int .i64 0) := at_cell HZ.out 1
      go_wp2
      have hd0 := at_cell (at_set2 (.int .i64 sd) (.int .i64 sb) HZ.out) 0
      have hd1 := at_cell (at_set2 (.int .i64 sd) (.int .i64 sb) HZ.out) 1
      simp only [List.getElem?_toArray, List.getElem?_cons_zero, List.getElem?_cons_succ] at hd0 hd1
      exact bodyPost_ret (v := .agg #[.int .i64 sd, .int .i64 sb]) (by simp [results, Try.results36, go_sem, hd0, hd1]) rfl ⟨rfl, Ext.out⟩
set_option maxRecDepth 100000 in
set_option maxHeartbeats 8000000 in
theorem last22_any (A : Option Addr) (n c : Nat) (vs : List OV) (kind : Int) (hn : vs.length = n) (hn' : n ≤ 4398046511104)
    (w : World) (hx : Cells w A (flat vs)) (gx : Good w vs) :
    Calls Try.prog 83 #[.slice A n c, .int .i64 kind] w fun e w' => e = .returned (.int .i64 ((vs.map OV.opt).foldl (lastU kind) 0)) ∧ Below w.heap.size w w' := by
  have Hn := Lib.hid hn
  have HX := Lib.hid hx
  have GX := Lib.hid gx
  obtain ⟨R, hR⟩ : ∃ R, (vs.map OV.opt).foldl (lastU kind) 0 = R := ⟨_, rfl⟩
  have HR := Lib.hid hR
  rw [hR]
  clear hn hx gx hR
  go_enter Try.func83, Try.ntmps83
  go_wp2
  go_loopw [5, 10] (fun m i wr => ∃ (k : Nat) (s : Int), i = .int .i64 k ∧ m = .int .i64 s ∧ k ≤ n ∧ Hid (((vs.map OV.opt).drop k).foldl (lastU kind) s = R) ∧ Hid (Ext w wr)) (fun _ i _ => n - (intOf i).toNat)
  case atStart => exact ⟨0, 0, rfl, rfl, by omega, HR.out, Ext.refl_ _⟩
  case round =>
    obtain ⟨k, s, rfl, rfl, hk, HRK, HXR⟩ := hrel
    have XR : Ext w wr := HXR.out
    by_cases hlt : k < n
    · obtain ⟨v, hv, hvm⟩ := optD (vs := vs) (k := k) (by rw [Hn.out]; exact hlt)
      obtain ⟨ad, rfl, hc0, hc1⟩ := opt_at (HX.out.ext (w' := wr)) hv
      have GV := Lib.hid (GX.out v hvm)
      have HV : Hid ((vs.map OV.opt)[k]? = some v.opt) := by unfold Hid; rw [List.getElem?_map, hv]; rfl
      have HRS := Lib.hid (fold_step HRK.out HV.out)
      clear hv hvm
      obtain ⟨t, VA, vn, vc, xs⟩ := v
      simp only at hc0 hc1
      by_cases ht : t = kind
      · subst ht
        obtain ⟨S, hS⟩ : ∃ S, saysF (t, xs) = S := ⟨_, rfl⟩
        have HSS := Lib.hid hS
        by_cases hs : 0 < S
        · have HRN : Hid (((vs.map OV.opt).drop (k + 1)).foldl (lastU t) S = R) := by
            have h := HRS.out
            rw [show lastU t s (OV.opt ⟨t, VA, vn, vc, xs⟩) = S from by show lastU t s (t, xs) = S; unfold lastU; rw [if_pos ⟨rfl, by rw [hS]; exact hs⟩]; exact hS] at h
            exact h
          clear hS HRS
          go_wp2_with fail
          refine (says22_any t VA vn vc xs GV.out.1 GV.out.2.2.2.1 _ (by exact GV.out.2.2.2.2.ext)).mono ?_
          rintro e w1 ⟨rfl, hb1⟩
          rw [HSS.out]
          have S1 : Step w1 _ := ⟨hb1⟩
          have P1 := at_ext (w' := w1) (at_new wr (.cells #[.int .i64 t, .slice VA vn vc] 109))
          have p0 : w1.cell? ⟨wr.heap.size, 0, none⟩ = some (.int .i64 t) := at_cell P1 0
          have p1 : w1.cell? ⟨wr.heap.size, 1, none⟩ = some (.slice VA vn vc) := at_cell P1 1
          clear hb1 P1
          go_wp2_with fail
          refine (says22_any t VA vn vc xs GV.out.1 GV.out.2.2.2.1 _ (by exact GV.out.2.2.2.2.ext)).mono ?_
          rintro e w2 ⟨rfl, hb2⟩
          rw [HSS.out]
          have S2 : Step w2 _ := ⟨hb2⟩
          clear hb2
          go_wp2
          go_roundw
          case rel => exact ⟨k + 1, S, by go_num, rfl, by omega, HRN, (inferInstance : Ext _ _)⟩
          case measure => simp [intOf]; omega
        · have HRN : Hid (((vs.map OV.opt).drop (k + 1)).foldl (lastU t) s = R) := by
            have h := HRS.out
            rw [show lastU t s (OV.opt ⟨t, VA, vn, vc, xs⟩) = s from by show lastU t s (t, xs) = s; unfold lastU; rw [if_neg (by rintro ⟨_, h⟩; rw [hS] at h; exact hs h)]] at h
            exact h
          clear hS HRS
          go_wp2_with fail
          refine (says22_any t VA vn vc xs GV.out.1 GV.out.2.2.2.1 _ (by exact GV.out.2.2.2.2.ext)).mono ?_
          rintro e w1 ⟨rfl, hb1⟩
          rw [HSS.out]
          have S1 : Step w1 _ := ⟨hb1⟩
          have P1 := at_ext (w' := w1) (at_new wr (.cells #[.int .i64 t, .slice VA vn vc] 109))
          have p0 : w1.cell? ⟨wr.heap.size, 0, none⟩ = some (.int .i64 t) := at_cell P1 0
          have p1 : w1.cell? ⟨wr.heap.size, 1, none⟩ = some (.slice VA vn vc) := at_cell P1 1
          clear hb1 P1
          go_wp2
          go_roundw
          case rel => exact ⟨k + 1, s, by go_num, rfl, by omega, HRN, (inferInstance : Ext _ _)⟩
          case measure => simp [intOf]; omega
      · have ht' : (t == kind) = false := by simpa using ht
        have HRN : Hid (((vs.map OV.opt).drop (k + 1)).foldl (lastU kind) s = R) := by
          have h := HRS.out
          rw [show lastU kind s (OV.opt ⟨t, VA, vn, vc, xs⟩) = s from by show lastU kind s (t, xs) = s; unfold lastU; rw [if_neg (by rintro ⟨h, _⟩; exact ht h)]] at h
          exact h
        clear HRS ht
        go_wp2
        go_roundw
        case rel => exact ⟨k + 1, s, by go_num, rfl, by omega, HRN, (inferInstance : Ext _ _)⟩
        case measure => simp [intOf]; omega
    · have hRE := fold_end HRK.out (by rw [List.length_map, Hn.out]; omega)
      subst hRE
      go_wp2
      go_ret
      exact ⟨rfl, Ext.out⟩
set_option maxRecDepth 100000 in
set_option maxHeartbeats 8000000 in
theorem rnak22_any (d b : Int) (A : Option Addr) (n c : Nat) (vs : List OV) (hn : vs.length = n) (hn' : n ≤ 4398046511104)
    (w : World) (hx : Cells w A (flat vs)) (gx : Good w vs) :
    Calls Try.prog 34 #[.agg #[.int .i64 d, .int .i64 b], .slice A n c] w (NakTells22 (nakF22 d b ((vs.map OV.opt).foldl nakU (0, 0))) w) := by
  have hby : ∀ o ∈ vs.map OV.opt, Byt o.2 := by
    intro o ho
    obtain ⟨v, hv, rfl⟩ := List.mem_map.1 ho
    exact (gx v hv).2.2.2.1
  obtain ⟨l1, l2⟩ := last_nak (vs.map OV.opt) 0 0 hby
  obtain ⟨z1, z2⟩ := nak_nn (vs.map OV.opt) 0 0 hby (by omega) (by omega)
  obtain ⟨R, hR⟩ : ∃ R, (vs.map OV.opt).foldl nakU (0, 0) = R := ⟨_, rfl⟩
  rw [hR] at l1 l2 z1 z2 ⊢
  obtain ⟨sd, sb⟩ := R
  simp only at l1 l2 z1 z2
  have HR1 := Lib.hid l1
  have HR2 := Lib.hid l2
  have Hn := Lib.hid hn
  have HX := Lib.hid hx
  have GX := Lib.hid gx
  clear hn hx gx hR l1 l2 hby
  go_enter Try.func34, Try.ntmps34
  go_wp2_with fail
  refine (last22_any A n c vs 26 Hn.out hn' _ (by exact HX.out.ext) (by exact GX.out.ext)).mono ?_
  rintro e w1 ⟨rfl, hb1⟩
  rw [HR1.out]
  have S1 : Step w1 _ := ⟨hb1⟩
  have HB0 : Hid (w1.heap[w.heap.size]? = some (cQ d b)) := at_ext (w := ((w.alloc (cQ d b)).alloc (cQ 0 0)).alloc (cQ d b)) (at_ext (at_new w (cQ d b)))
  have HB1 : Hid (w1.heap[w.heap.size + 1]? = some (cQ 0 0)) := at_ext (w := ((w.alloc (cQ d b)).alloc (cQ 0 0)).alloc (cQ d b)) (at_ext (w := (w.alloc (cQ d b)).alloc (cQ 0 0)) (at_new1 (by simp)))
  have HB2 : Hid (w1.heap[w.heap.size + 1 + 1]? = some (cQ d b)) := at_ext (w := ((w.alloc (cQ d b)).alloc (cQ 0 0)).alloc (cQ d b)) (at_new1 (by simp))
  clear hb1
  have e0 : w1.cell? ⟨w.heap.size, 0, none⟩ = some (.int .i64 d) := at_cell HB0.out 0
  have e1 : w1.cell? ⟨w.heap.size, 1, none⟩ = some (.int .i64 b) := at_cell HB0.out 1
  have e2 : w1.cell? ⟨w.heap.size + 1, 0, none⟩ = some (.int .i64 0) := at_cell HB1.out 0
  have e3 : w1.cell? ⟨w.heap.size + 1, 1, none⟩ = some (.int .i64 0) := at_cell HB1.out 1
  have e4 : w1.cell? ⟨w.heap.size + 1 + 1, 0, none⟩ = some (.int .i64 d) := at_cell HB2.out 0
  have e5 : w1.cell? ⟨w.heap.size + 1 + 1, 1, none⟩ = some (.int .i64 b) := at_cell HB2.out 1
  have f0 := at_frozen HB0.out 0
  have f1 := at_frozen HB0.out 1
  have f2 := at_frozen HB1.out 0
  have f3 := at_frozen HB1.out 1
  by_cases hd0 : d = 0
  · have LD := Lib.hid (lowF_no (d := d) (s := sd) (fun h => h.1 hd0))
    have hd1 : (d != 0) = false := by simpa using hd0
    clear hd0
    go_wp2_with fail
    refine (last22_any A n c vs 21 Hn.out hn' _ (by exact HX.out.ext) (by exact GX.out.ext)).mono ?_
    rintro e w2 ⟨rfl, hb2⟩
    rw [HR2.out]
    have S2 : Step w2 _ := ⟨hb2⟩
    have HQ0 := Lib.hid (at_ext (w' := w2) HB0.out)
    have HQ1 := Lib.hid (at_ext (w' := w2) HB1.out)
    have HQ2 := Lib.hid (at_ext (w' := w2) HB2.out)
    clear hb2 f0 f1 f2 f3 e0 e1 e2 e3 e4 e5
    have e0 : w2.cell? ⟨w.heap.size, 0, none⟩ = some (.int .i64 d) := at_cell HQ0.out 0
    have e1 : w2.cell? ⟨w.heap.size, 1, none⟩ = some (.int .i64 b) := at_cell HQ0.out 1
    have e2 : w2.cell? ⟨w.heap.size + 1, 0, none⟩ = some (.int .i64 0) := at_cell HQ1.out 0
    have e3 : w2.cell? ⟨w.heap.size + 1, 1, none⟩ = some (.int .i64 0) := at_cell HQ1.out 1
    have e4 : w2.cell? ⟨w.heap.size + 1 + 1, 0, none⟩ = some (.int .i64 d) := at_cell HQ2.out 0
    have e5 : w2.cell? ⟨w.heap.size + 1 + 1, 1, none⟩ = some (.int .i64 b) := at_cell HQ2.out 1
    have f0 := at_frozen HQ0.out 0
    have f1 := at_frozen HQ0.out 1
    have f2 := at_frozen HQ1.out 0
    have f3 := at_frozen HQ1.out 1
    by_cases hb0 : b = 0
    · have LB := Lib.hid (lowF_no (d := b) (s := sb) (fun h => h.1 hb0))
      have hb1 : (b != 0) = false := by simpa using hb0
      clear hb0
      go_wp2
      go_region
      all_goals go_wp2
      all_goals
        have hd0 := at_cell (at_set2 (.int .i64 d) (.int .i64 b) HQ1.out) 0
        have hd1 := at_cell (at_set2 (.int .i64 d) (.int .i64 b) HQ1.out) 1
        simp only [List.getElem?_toArray, List.getElem?_cons_zero, List.getElem?_cons_succ] at hd0 hd1
        exact bodyPost_ret (v := .tuple #[.agg #[.int .i64 d, .int .i64 b], .bool false]) (by simp [results, Try.results34, go_sem, hd0, hd1]) rfl (nakTells22_of LD.out LB.out (by show decide (_ ∨ _) = _; rw [LD.out, LB.out]; exact chg_no) Ext.out)
    have hb1 : (b != 0) = true := by simpa using hb0
    by_cases hb2 : 0 < sb
    · by_cases hb4 : sb < b
      · have LB := Lib.hid (lowF_yes hb0 (by omega) hb4)
        have hb5 : (sb == b) = false := by rw [beq_eq_false_iff_ne]; omega
        clear hb0
        go_wp2
        go_region
        all_goals go_wp2
        all_goals
          have hd0 := at_cell (at_set2 (.int .i64 d) (.int .i64 sb) (at_other (p := ⟨w.heap.size, 1, none⟩) (.int .i64 sb) HQ1.out (by simp))) 0
          have hd1 := at_cell (at_set2 (.int .i64 d) (.int .i64 sb) (at_other (p := ⟨w.heap.size, 1, none⟩) (.int .i64 sb) HQ1.out (by simp))) 1
          simp only [List.getElem?_toArray, List.getElem?_cons_zero, List.getElem?_cons_succ] at hd0 hd1
          exact bodyPost_ret (v := .tuple #[.agg #[.int .i64 d, .int .i64 sb], .bool true]) (by simp [results, Try.results34, go_sem, hd0, hd1]) rfl (nakTells22_of LD.out LB.out (by show decide (_ ∨ _) = _; rw [LD.out, LB.out]; exact (chg_b hb4)) Ext.out)
      · have LB := Lib.hid (lowF_no (d := b) (s := sb) (fun h => hb4 h.2.2))
        clear hb0
        go_wp2
        go_region
        all_goals go_wp2
        all_goals
          have hd0 := at_cell (at_set2 (.int .i64 d) (.int .i64 b) HQ1.out) 0
          have hd1 := at_cell (at_set2 (.int .i64 d) (.int .i64 b) HQ1.out) 1
          simp only [List.getElem?_toArray, List.getElem?_cons_zero, List.getElem?_cons_succ] at hd0 hd1
          exact bodyPost_ret (v := .tuple #[.agg #[.int .i64 d, .int .i64 b], .bool false]) (by simp [results, Try.results34, go_sem, hd0, hd1]) rfl (nakTells22_of LD.out LB.out (by show decide (_ ∨ _) = _; rw [LD.out, LB.out]; exact chg_no) Ext.out)
    · have LB := Lib.hid (lowF_no (d := b) (s := sb) (fun h => hb2 (by omega)))
      clear hb0
      go_wp2
      go_region
      all_goals go_wp2
      all_goals
        have hd0 := at_cell (at_set2 (.int .i64 d) (.int .i64 b) HQ1.out) 0
        have hd1 := at_cell (at_set2 (.int .i64 d) (.int .i64 b) HQ1.out) 1
        simp only [List.getElem?_toArray, List.getElem?_cons_zero, List.getElem?_cons_succ] at hd0 hd1
        exact bodyPost_ret (v := .tuple #[.agg #[.int .i64 d, .int .i64 b], .bool false]) (by simp [results, Try.results34, go_sem, hd0, hd1]) rfl (nakTells22_of LD.out LB.out (by show decide (_ ∨ _) = _; rw [LD.out, LB.out]; exact chg_no) Ext.out)
  have hd1 : (d != 0) = true := by simpa using hd0
  by_cases hd2 : 0 < sd
  · by_cases hd4 : sd < d
    · have LD := Lib.hid (lowF_yes hd0 (by omega) hd4)
      have hd5 : (sd == d) = false := by rw [beq_eq_false_iff_ne]; omega
      clear hd0
      go_wp2_with fail
      refine (last22_any A n c vs 21 Hn.out hn' _ (by exact HX.out.ext) (by exact GX.out.ext)).mono ?_
      rintro e w2 ⟨rfl, hb2⟩
      rw [HR2.out]
      have S2 : Step w2 _ := ⟨hb2⟩
      have HQ0 := Lib.hid (at_ext (w' := w2) (at_set HB0.out 0 (.int .i64 sd)))
      have HQ1 := Lib.hid (at_ext (w' := w2) (at_other (p := ⟨w.heap.size, 0, none⟩) (.int .i64 sd) HB1.out (by simp)))
      have HQ2 := Lib.hid (at_ext (w' := w2) (at_other (p := ⟨w.heap.size, 0, none⟩) (.int .i64 sd) HB2.out (by simp; omega)))
      clear hb2 f0 f1 f2 f3 e0 e1 e2 e3 e4 e5
      have e0 : w2.cell? ⟨w.heap.size, 0, none⟩ = some (.int .i64 sd) := at_cell HQ0.out 0
      have e1 : w2.cell? ⟨w.heap.size, 1, none⟩ = some (.int .i64 b) := at_cell HQ0.out 1
      have e2 : w2.cell? ⟨w.heap.size + 1, 0, none⟩ = some (.int .i64 0) := at_cell HQ1.out 0
      have e3 : w2.cell? ⟨w.heap.size + 1, 1, none⟩ = some (.int .i64 0) := at_cell HQ1.out 1
      have e4 : w2.cell? ⟨w.heap.size + 1 + 1, 0, none⟩ = some (.int .i64 d) := at_cell HQ2.out 0
      have e5 : w2.cell? ⟨w.heap.size + 1 + 1, 1, none⟩ = some (.int .i64 b) := at_cell HQ2.out 1
      have f0 := at_frozen HQ0.out 0
      have f1 := at_frozen HQ0.out 1
      have f2 := at_frozen HQ1.out 0
      have f3 := at_frozen HQ1.out 1
      by_cases hb0 : b = 0
      · have LB := Lib.hid (lowF_no (d := b) (s := sb) (fun h => h.1 hb0))
        have hb1 : (b != 0) = false := by simpa using hb0
        clear hb0
        go_wp2
        go_region
        all_goals go_wp2
        all_goals
          have hd0 := at_cell (at_set2 (.int .i64 sd) (.int .i64 b) HQ1.out) 0
          have hd1 := at_cell (at_set2 (.int .i64 sd) (.int .i64 b) HQ1.out) 1
          simp only [List.getElem?_toArray, List.getElem?_cons_zero, List.getElem?_cons_succ] at hd0 hd1
          exact bodyPost_ret (v := .tuple #[.agg #[.int .i64 sd, .int .i64 b], .bool true]) (by simp [results, Try.results34, go_sem, hd0, hd1]) rfl (nakTells22_of LD.out LB.out (by show decide (_ ∨ _) = _; rw [LD.out, LB.out]; exact (chg_d hd4)) Ext.out)
      have hb1 : (b != 0) = true := by simpa using hb0
      by_cases hb2 : 0 < sb
      · by_cases hb4 : sb < b
        · have LB := Lib.hid (lowF_yes hb0 (by omega) hb4)
          have hb5 : (sb == b) = false := by rw [beq_eq_false_iff_ne]; omega
          clear hb0
          go_wp2
          go_region
          all_goals go_wp2
          all_goals
            have hd0 := at_cell (at_set2 (.int .i64 sd) (.int .i64 sb) (at_other (p := ⟨w.heap.size, 1, none⟩) (.int .i64 sb) HQ1.out (by simp))) 0
            have hd1 := at_cell (at_set2 (.int .i64 sd) (.int .i64 sb) (at_other (p := ⟨w.heap.size, 1, none⟩) (.int .i64 sb) HQ1.out (by simp))) 1
            simp only [List.getElem?_toArray, List.getElem?_cons_zero, List.getElem?_cons_succ] at hd0 hd1
            exact bodyPost_ret (v := .tuple #[.agg #[.int .i64 sd, .int .i64 sb], .bool true]) (by simp [results, Try.results34, go_sem, hd0, hd1]) rfl (nakTells22_of LD.out LB.out (by show decide (_ ∨ _) = _; rw [LD.out, LB.out]; exact (chg_d hd4)) Ext.out)
        · have LB := Lib.hid (lowF_no (d := b) (s := sb) (fun h => hb4 h.2.2))
          clear hb0
          go_wp2
          go_region
          all_goals go_wp2
          all_goals
            have hd0 := at_cell (at_set2 (.int .i64 sd) (.int .i64 b) HQ1.out) 0
            have hd1 := at_cell (at_set2 (.int .i64 sd) (.int .i64 b) HQ1.out) 1
            simp only [List.getElem?_toArray, List.getElem?_cons_zero, List.getElem?_cons_succ] at hd0 hd1
            exact bodyPost_ret (v := .tuple #[.agg #[.int .i64 sd, .int .i64 b], .bool true]) (by simp [results, Try.results34, go_sem, hd0, hd1]) rfl (nakTells22_of LD.out LB.out (by show decide (_ ∨ _) = _; rw [LD.out, LB.out]; exact (chg_d hd4)) Ext.out)
      · have LB := Lib.hid (lowF_no (d := b) (s := sb) (fun h => hb2 (by omega)))
        clear hb0
        go_wp2
        go_region
        all_goals go_wp2
        all_goals
          have hd0 := at_cell (at_set2 (.int .i64 sd) (.int .i64 b) HQ1.out) 0
          have hd1 := at_cell (at_set2 (.int .i64 sd) (.int .i64 b) HQ1.out) 1
          simp only [List.getElem?_toArray, List.getElem?_cons_zero, List.getElem?_cons_succ] at hd0 hd1
          exact bodyPost_ret (v := .tuple #[.agg #[.int .i64 sd, .int .i64 b], .bool true]) (by simp [results, Try.results34, go_sem, hd0, hd1]) rfl (nakTells22_of LD.out LB.out (by show decide (_ ∨ _) = _; rw [LD.out, LB.out]; exact (chg_d hd4)) Ext.out)
    · have LD := Lib.hid (lowF_no (d := d) (s := sd) (fun h => hd4 h.2.2))
      clear hd0
      go_wp2_with fail
      refine (last22_any A n c vs 21 Hn.out hn' _ (by exact HX.out.ext) (by exact GX.out.ext)).mono ?_
      rintro e w2 ⟨rfl, hb2⟩
      rw [HR2.out]
      have S2 : Step w2 _ := ⟨hb2⟩
      have HQ0 := Lib.hid (at_ext (w' := w2) HB0.out)
      have HQ1 := Lib.hid (at_ext (w' := w2) HB1.out)
      have HQ2 := Lib.hid (at_ext (w' := w2) HB2.out)
      clear hb2 f0 f1 f2 f3 e0 e1 e2 e3 e4 e5
      have e0 : w2.cell? ⟨w.heap.size, 0, none⟩ = some (.int .i64 d) := at_cell HQ0.out 0
      have e1 : w2.cell? ⟨w.heap.size, 1, none⟩ = some (.int .i64 b) := at_cell HQ0.out 1
      have e2 : w2.cell? ⟨w.heap.size + 1, 0, none⟩ = some (.int .i64 0) := at_cell HQ1.out 0
      have e3 : w2.cell? ⟨w.heap.size + 1, 1, none⟩ = some (.int .i64 0) := at_cell HQ1.out 1
      have e4 : w2.cell? ⟨w.heap.size + 1 + 1, 0, none⟩ = some (.int .i64 d) := at_cell HQ2.out 0
      have e5 : w2.cell? ⟨w.heap.size + 1 + 1, 1, none⟩ = some (.int .i64 b) := at_cell HQ2.out 1
      have f0 := at_frozen HQ0.out 0
      have f1 := at_frozen HQ0.out 1
      have f2 := at_frozen HQ1.out 0
      have f3 := at_frozen HQ1.out 1
      by_cases hb0 : b = 0
      · have LB := Lib.hid (lowF_no (d := b) (s := sb) (fun h => h.1 hb0))
        have hb1 : (b != 0) = false := by simpa using hb0
        clear hb0
        go_wp2
        go_region
        all_goals go_wp2
        all_goals
          have hd0 := at_cell (at_set2 (.int .i64 d) (.int .i64 b) HQ1.out) 0
          have hd1 := at_cell (at_set2 (.int .i64 d) (.int .i64 b) HQ1.out) 1
          simp only [List.getElem?_toArray, List.getElem?_cons_zero, List.getElem?_cons_succ] at hd0 hd1
          exact bodyPost_ret (v := .tuple #[.agg #[.int .i64 d, .int .i64 b], .bool false]) (by simp [results, Try.results34, go_sem, hd0, hd1]) rfl (nakTells22_of LD.out LB.out (by show decide (_ ∨ _) = _; rw [LD.out, LB.out]; exact chg_no) Ext.out)
      have hb1 : (b != 0) = true := by simpa using hb0
      by_cases hb2 : 0 < sb
      · by_cases hb4 : sb < b
        · have LB := Lib.hid (lowF_yes hb0 (by omega) hb4)
          have hb5 : (sb == b) = false := by rw [beq_eq_false_iff_ne]; omega
          clear hb0
          go_wp2
          go_region
          all_goals go_wp2
          all_goals
            have hd0 := at_cell (at_set2 (.int .i64 d) (.int .i64 sb) (at_other (p := ⟨w.heap.size, 1, none⟩) (.int .i64 sb) HQ1.out (by simp))) 0
            have hd1 := at_cell (at_set2 (.int .i64 d) (.int .i64 sb) (at_other (p := ⟨w.heap.size, 1, none⟩) (.int .i64 sb) HQ1.out (by simp))) 1
            simp only [List.getElem?_toArray, List.getElem?_cons_zero, List.getElem?_cons_succ] at hd0 hd1
            exact bodyPost_ret (v := .tuple #[.agg #[.int .i64 d, .int .i64 sb], .bool true]) (by simp [results, Try.results34, go_sem, hd0, hd1]) rfl (nakTells22_of LD.out LB.out (by show decide (_ ∨ _) = _; rw [LD.out, LB.out]; exact (chg_b hb4)) Ext.out)
        · have LB := Lib.hid (lowF_no (d := b) (s := sb) (fun h => hb4 h.2.2))
          clear hb0
          go_wp2
          go_region
          all_goals go_wp2
          all_goals
            have hd0 := at_cell (at_set2 (.int .i64 d) (.int .i64 b) HQ1.out) 0
            have hd1 := at_cell (at_set2 (.int .i64 d) (.int .i64 b) HQ1.out) 1
            simp only [List.getElem?_toArray, List.getElem?_cons_zero, List.getElem?_cons_succ] at hd0 hd1
            exact bodyPost_ret (v := .tuple #[.agg #[.int .i64 d, .int .i64 b], .bool false]) (by simp [results, Try.results34, go_sem, hd0, hd1]) rfl (nakTells22_of LD.out LB.out (by show decide (_ ∨ _) = _; rw [LD.out, LB.out]; exact chg_no) Ext.out)
      · have LB := Lib.hid (lowF_no (d := b) (s := sb) (fun h => hb2 (by omega)))
        clear hb0
        go_wp2
        go_region
        all_goals go_wp2
        all_goals
          have hd0 := at_cell (at_set2 (.int .i64 d) (.int .i64 b) HQ1.out) 0
          have hd1 := at_cell (at_set2 (.int .i64 d) (.int .i64 b) HQ1.out) 1
          simp only [List.getElem?_toArray, List.getElem?_cons_zero, List.getElem?_cons_succ] at hd0 hd1
          exact bodyPost_ret (v := .tuple #[.agg #[.int .i64 d, .int .i64 b], .bool false]) (by simp [results, Try.results34, go_sem, hd0, hd1]) rfl (nakTells22_of LD.out LB.out (by show decide (_ ∨ _) = _; rw [LD.out, LB.out]; exact chg_no) Ext.out)
  · have LD := Lib.hid (lowF_no (d := d) (s := sd) (fun h => hd2 (by omega)))
    clear hd0
    go_wp2_with fail
    refine (last22_any A n c vs 21 Hn.out hn' _ (by exact HX.out.ext) (by exact GX.out.ext)).mono ?_
    rintro e w2 ⟨rfl, hb2⟩
    rw [HR2.out]
    have S2 : Step w2 _ := ⟨hb2⟩
    have HQ0 := Lib.hid (at_ext (w' := w2) HB0.out)
    have HQ1 := Lib.hid (at_ext (w' := w2) HB1.out)
    have HQ2 := Lib.hid (at_ext (w' := w2) HB2.out)
    clear hb2 f0 f1 f2 f3 e0 e1 e2 e3 e4 e5
    have e0 : w2.cell? ⟨w.heap.size, 0, none⟩ = some (.int .i64 d) := at_cell HQ0.out 0
    have e1 : w2.cell? ⟨w.heap.size, 1, none⟩ = some (.int .i64 b) := at_cell HQ0.out 1
    have e2 : w2.cell? ⟨w.heap.size + 1, 0, none⟩ = some (.int .i64 0) := at_cell HQ1.out 0
    have e3 : w2.cell? ⟨w.heap.size + 1, 1, none⟩ = some (.int .i64 0) := at_cell HQ1.out 1
    have e4 : w2.cell? ⟨w.heap.size + 1 + 1, 0, none⟩ = some (.int .i64 d) := at_cell HQ2.out 0
    have e5 : w2.cell? ⟨w.heap.size + 1 + 1, 1, none⟩ = some (.int .i64 b) := at_cell HQ2.out 1
    have f0 := at_frozen HQ0.out 0
    have f1 := at_frozen HQ0.out 1
    have f2 := at_frozen HQ1.out 0
    have f3 := at_frozen HQ1.out 1
    by_cases hb0 : b = 0
    · have LB := Lib.hid (lowF_no (d := b) (s := sb) (fun h => h.1 hb0))
      have hb1 : (b != 0) = false := by simpa using hb0
      clear hb0
      go_wp2
      go_region
      all_goals go_wp2
      all_goals
        have hd0 := at_cell (at_set2 (.int .i64 d) (.int .i64 b) HQ1.out) 0
        have hd1 := at_cell (at_set2 (.int .i64 d) (.int .i64 b) HQ1.out) 1
        simp only [List.getElem?_toArray, List.getElem?_cons_zero, List.getElem?_cons_succ] at hd0 hd1
        exact bodyPost_ret (v := .tuple #[.agg #[.int .i64 d, .int .i64 b], .bool false]) (by simp [results, Try.results34, go_sem, hd0, hd1]) rfl (nakTells22_of LD.out LB.out (by show decide (_ ∨ _) = _; rw [LD.out, LB.out]; exact chg_no) Ext.out)
    have hb1 : (b != 0) = true := by simpa using hb0
    by_cases hb2 : 0 < sb
    · by_cases hb4 : sb < b
      · have LB := Lib.hid (lowF_yes hb0 (by omega) hb4)
        have hb5 : (sb == b) = false := by rw [beq_eq_false_iff_ne]; omega
        clear hb0
        go_wp2
        go_region
        all_goals go_wp2
        all_goals
          have hd0 := at_cell (at_set2 (.int .i64 d) (.int .i64 sb) (at_other (p := ⟨w.heap.size, 1, none⟩) (.int .i64 sb) HQ1.out (by simp))) 0
          have hd1 := at_cell (at_set2 (.int .i64 d) (.int .i64 sb) (at_other (p := ⟨w.heap.size, 1, none⟩) (.int .i64 sb) HQ1.out (by simp))) 1
          simp only [List.getElem?_toArray, List.getElem?_cons_zero, List.getElem?_cons_succ] at hd0 hd1
          exact bodyPost_ret (v := .tuple #[.agg #[.int .i64 d, .int .i64 sb], .bool true]) (by simp [results, Try.results34, go_sem, hd0, hd1]) rfl (nakTells22_of LD.out LB.out (by show decide (_ ∨ _) = _; rw [LD.out, LB.out]; exact (chg_b hb4)) Ext.out)
      · have LB := Lib.hid (lowF_no (d := b) (s := sb) (fun h => hb4 h.2.2))
        clear hb0
        go_wp2
        go_region
        all_goals go_wp2
        all_goals
          have hd0 := at_cell (at_set2 (.int .i64 d) (.int .i64 b) HQ1.out) 0
          have hd1 := at_cell (at_set2 (.int .i64 d) (.int .i64 b) HQ1.out) 1
          simp only [List.getElem?_toArray, List.getElem?_cons_zero, List.getElem?_cons_succ] at hd0 hd1
          exact bodyPost_ret (v := .tuple #[.agg #[.int .i64 d, .int .i64 b], .bool false]) (by simp [results, Try.results34, go_sem, hd0, hd1]) rfl (nakTells22_of LD.out LB.out (by show decide (_ ∨ _) = _; rw [LD.out, LB.out]; exact chg_no) Ext.out)
    · have LB := Lib.hid (lowF_no (d := b) (s := sb) (fun h => hb2 (by omega)))
      clear hb0
      go_wp2
      go_region
      all_goals go_wp2
      all_goals
        have hd0 := at_cell (at_set2 (.int .i64 d) (.int .i64 b) HQ1.out) 0
        have hd1 := at_cell (at_set2 (.int .i64 d) (.int .i64 b) HQ1.out) 1
        simp only [List.getElem?_toArray, List.getElem?_cons_zero, List.getElem?_cons_succ] at hd0 hd1
        exact bodyPost_ret (v := .tuple #[.agg #[.int .i64 d, .int .i64 b], .bool false]) (by simp [results, Try.results34, go_sem, hd0, hd1]) rfl (nakTells22_of LD.out LB.out (by show decide (_ ∨ _) = _; rw [LD.out, LB.out]; exact chg_no) Ext.out)
end Go.Proofs.Ytnhmpmibkpoipaa
