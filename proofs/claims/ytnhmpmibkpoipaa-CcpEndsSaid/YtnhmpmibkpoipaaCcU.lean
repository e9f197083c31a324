/-
  ccp: what is asked behind a Nak or a Reject, and the reference's. Conditions: the list is no longer than the model's memory.
-/
import Derived.Test.YtnhmpmibkpoipaaCcP
import Derived.Test.YtnhmpmibkpoipaaCcO
namespace Go.Proofs.Ytnhmpmibkpoipaa
open Go.RowKit
set_option linter.unusedVariables false
set_option linter.unusedSimpArgs false

theorem Ext.setG {w w' : World} (h : Ext w w') (g i : Nat) (u : Value) (hg : w.heap.size ≤ g) : Ext w (w'.setCell ⟨g, i, none⟩ u) := ⟨h.out.setCell (p := ⟨g, i, none⟩) hg u⟩
def nakU (s : Int × Int) (o : Int × List Int) : Int × Int := if saysF o = 0 then s else rdU s o
def lastU (kind : Int) (n : Int) (o : Int × List Int) : Int := if o.1 = kind ∧ 0 < saysF o then saysF o else n
def rejU (s : Int × Int) (o : Int × List Int) : Int × Int := (if o.1 = 26 then 0 else s.1, if o.1 = 21 then 0 else s.2)
theorem fold_end {α : Type} {f : α → (Int × List Int) → α} {os : List (Int × List Int)} {k : Nat} {s r : α} (h : (os.drop k).foldl f s = r) (hk : os.length ≤ k) : s = r := by
  rw [List.drop_of_length_le hk] at h
  exact h
theorem fold_step {α : Type} {f : α → (Int × List Int) → α} {os : List (Int × List Int)} {k : Nat} {s r : α} {o : Int × List Int} (h : (os.drop k).foldl f s = r) (ho : os[k]? = some o) : (os.drop (k + 1)).foldl f (f s o) = r := by
  rw [drop_at ho] at h
  exact h
theorem says_nn {t : Int} {xs : List Int} (hb : Byt xs) : saysF (t, xs) = 0 ∨ 0 < saysF (t, xs) := by
  have h0 := hb.getD 0
  unfold saysF
  split
  · simp only; omega
  · split
    · simp only at *; omega
    · exact .inl rfl
theorem says_kind {t : Int} {xs : List Int} (h : saysF (t, xs) ≠ 0) : t = 26 ∨ t = 21 := by
  by_cases h1 : t = 26
  · exact .inl h1
  · by_cases h2 : t = 21
    · exact .inr h2
    · exact absurd (saysF_none h1 h2) h
theorem last_nak : ∀ (os : List (Int × List Int)) (a b : Int), (∀ o ∈ os, Byt o.2) → os.foldl (lastU 26) a = (os.foldl nakU (a, b)).1 ∧ os.foldl (lastU 21) b = (os.foldl nakU (a, b)).2
  | [], _, _, _ => ⟨rfl, rfl⟩
  | (t, xs) :: os, a, b, h => by
    have hb : Byt xs := h (t, xs) (by simp)
    have ho : ∀ o ∈ os, Byt o.2 := fun o ho => h o (by simp [ho])
    simp only [List.foldl_cons]
    rcases says_nn (t := t) hb with h0 | h0
    · have e1 : lastU 26 a (t, xs) = a := by unfold lastU; rw [if_neg (by rw [h0]; omega)]
      have e2 : lastU 21 b (t, xs) = b := by unfold lastU; rw [if_neg (by rw [h0]; omega)]
      have e3 : nakU (a, b) (t, xs) = (a, b) := by unfold nakU; rw [if_pos h0]
      rw [e1, e2, e3]
      exact last_nak os a b ho
    · have hne : saysF (t, xs) ≠ 0 := by omega
      rcases says_kind hne with rfl | rfl
      · have e1 : lastU 26 a (26, xs) = saysF (26, xs) := by unfold lastU; rw [if_pos ⟨rfl, h0⟩]
        have e2 : lastU 21 b (26, xs) = b := by unfold lastU; rw [if_neg (by simp)]
        have e3 : nakU (a, b) (26, xs) = (saysF (26, xs), b) := by unfold nakU; rw [if_neg hne]; rfl
        rw [e1, e2, e3]
        exact last_nak os _ b ho
      · have e1 : lastU 26 a (21, xs) = a := by unfold lastU; rw [if_neg (by simp)]
        have e2 : lastU 21 b (21, xs) = saysF (21, xs) := by unfold lastU; rw [if_pos ⟨rfl, h0⟩]
        have e3 : nakU (a, b) (21, xs) = (a, saysF (21, xs)) := by unfold nakU; rw [if_neg hne]; rfl
        rw [e1, e2, e3]
        exact last_nak os a _ ho
theorem nak_nn : ∀ (os : List (Int × List Int)) (a b : Int), (∀ o ∈ os, Byt o.2) → 0 ≤ a → 0 ≤ b → 0 ≤ (os.foldl nakU (a, b)).1 ∧ 0 ≤ (os.foldl nakU (a, b)).2
  | [], _, _, _, ha, hb => ⟨ha, hb⟩
  | (t, xs) :: os, a, b, h, ha, hb => by
    have hbt : Byt xs := h (t, xs) (by simp)
    have ho : ∀ o ∈ os, Byt o.2 := fun o ho => h o (by simp [ho])
    simp only [List.foldl_cons]
    rcases says_nn (t := t) hbt with h0 | h0
    · have e3 : nakU (a, b) (t, xs) = (a, b) := by unfold nakU; rw [if_pos h0]
      rw [e3]
      exact nak_nn os a b ho ha hb
    · by_cases ht : t = 26
      · have e3 : nakU (a, b) (t, xs) = (saysF (t, xs), b) := by unfold nakU; rw [if_neg (by omega)]; unfold rdU; rw [if_pos ht]
        rw [e3]
        exact nak_nn os _ b ho (by omega) hb
      · have e3 : nakU (a, b) (t, xs) = (a, saysF (t, xs)) := by unfold nakU; rw [if_neg (by omega)]; unfold rdU; rw [if_neg ht]
        rw [e3]
        exact nak_nn os a _ ho ha (by omega)
def lowF (d s : Int) : Int := if d ≠ 0 ∧ s ≠ 0 ∧ s < d then s else d
def nakF22 (d b : Int) (s : Int × Int) : (Int × Int) × Bool := ((lowF d s.1, lowF b s.2), decide (lowF d s.1 ≠ d ∨ lowF b s.2 ≠ b))
theorem lowF_yes {d s : Int} (h1 : d ≠ 0) (h2 : s ≠ 0) (h3 : s < d) : lowF d s = s := by unfold lowF; rw [if_pos ⟨h1, h2, h3⟩]
theorem lowF_no {d s : Int} (h : ¬ (d ≠ 0 ∧ s ≠ 0 ∧ s < d)) : lowF d s = d := by unfold lowF; rw [if_neg h]
def NakTells22 (r : (Int × Int) × Bool) (w : World) (e : Ending) (w' : World) : Prop := e = .returned (.tuple #[.agg #[.int .i64 r.1.1, .int .i64 r.1.2], .bool r.2]) ∧ Below w.heap.size w w'
theorem nakTells22_of {r : (Int × Int) × Bool} {a b : Int} {c : Bool} {w w' : World} (h1 : r.1.1 = a) (h2 : r.1.2 = b) (h3 : r.2 = c) (hb : Below w.heap.size w w') : NakTells22 r w (.returned (.tuple #[.agg #[.int .i64 a, .int .i64 b], .bool c])) w' := by
  subst h1 h2 h3
  exact ⟨rfl, hb⟩
abbrev cP (d b : Int) : Obj := .cells #[.int .i64 d, .int .i64 b] 34
theorem chg_no {d b : Int} : decide (d ≠ d ∨ b ≠ b) = false := by simp
theorem chg_d {s d x y : Int} (h : s < d) : decide (s ≠ d ∨ x ≠ y) = true := decide_eq_true (.inl (by omega))
theorem chg_b {s d x y : Int} (h : s < d) : decide (x ≠ y ∨ s ≠ d) = true := decide_eq_true (.inr (by omega))
set_option maxRecDepth 100000 in
set_option maxHeartbeats 8000000 in
theorem nak22_any (cf : Array Value) (d b : Int) (A : Option Addr) (n c : Nat) (vs : List OV) (hn : vs.length = n) (hn' : n ≤ 4398046511104)
    (w : World) (hx : Cells w A (flat vs)) (gx : Good w vs) :
    Calls Try.prog 33 #[.agg cf, .agg #[.int .i64 d, .int .i64 b], .slice A n c] w (NakTells22 (nakF22 d b ((vs.map OV.opt).foldl nakU (0, 0))) w) := by
  have Hn := Lib.hid hn
  have HX := Lib.hid hx
  have GX := Lib.hid gx
  obtain ⟨R, hR⟩ : ∃ R, (vs.map OV.opt).foldl nakU (0, 0) = R := ⟨_, rfl⟩
  have HR := Lib.hid hR
  rw [hR]
  clear hn hx gx hR
  have HZ : Hid ((((((w.alloc (.cells cf 39)).alloc (cP d b)).alloc (cP 0 0)).alloc (cP d b)).alloc (cP 0 0)).heap[w.heap.size + 4]? = some (cP 0 0)) := at_new1 (by simp)
  go_enter Try.func33, Try.ntmps33
  go_wp2
  go_loopw [16] (fun i wr => ∃ (k : Nat) (sd sb : Int), i = .int .i64 k ∧ k ≤ n ∧ Hid (((vs.map OV.opt).drop k).foldl nakU (sd, sb) = R) ∧ Hid (wr.heap[w.heap.size + 4]? = some (cP sd sb)) ∧ Hid (Ext ((((w.alloc (.cells cf 39)).alloc (cP d b)).alloc (cP 0 0)).alloc (cP d b)) wr)) (fun i _ => n - (intOf i).toNat)
  case atStart => exact ⟨0, 0, 0, rfl, by omega, HR.out, HZ.out, (inferInstance : Ext _ _)⟩
  case round =>
    obtain ⟨k, sd, sb, rfl, hk, HRK, HS, HXR⟩ := hrel
    have XR : Ext ((((w.alloc (.cells cf 39)).alloc (cP d b)).alloc (cP 0 0)).alloc (cP d b)) wr := HXR.out
    have YR : Ext w wr := Ext.trans_ inferInstance XR
    by_cases hlt : k < n
    · obtain ⟨v, hv, hvm⟩ := optD (vs := vs) (k := k) (by rw [Hn.out]; exact hlt)
      obtain ⟨ad, rfl, hc0, hc1⟩ := opt_at (HX.out.ext (w' := wr)) hv
      have GV := Lib.hid (GX.out v hvm)
      have HV : Hid ((vs.map OV.opt)[k]? = some v.opt) := by unfold Hid; rw [List.getElem?_map, hv]; rfl
      have HRS := Lib.hid (fold_step HRK.out HV.out)
      clear hv hvm
      obtain ⟨t, VA, vn, vc, xs⟩ := v
      simp only at hc0 hc1
      obtain ⟨S, hS⟩ : ∃ S, saysF (t, xs) = S := ⟨_, rfl⟩
      have HSS := Lib.hid hS
      by_cases hs0 : S = 0
      · have HRN : Hid (((vs.map OV.opt).drop (k + 1)).foldl nakU (sd, sb) = R) := by
          have h := HRS.out
          rw [show nakU (sd, sb) (OV.opt ⟨t, VA, vn, vc, xs⟩) = (sd, sb) from by show nakU (sd, sb) (t, xs) = _; unfold nakU; rw [if_pos (hS.trans hs0)]] at h
          exact h
        have hs1 : (S == 0) = true := by simpa using hs0
        clear hS hs0 HRS
        go_wp2_with fail
        refine (bits22_any t VA vn vc xs GV.out.1 GV.out.2.2.2.1 _ (by exact GV.out.2.2.2.2.ext)).mono ?_
        rintro e w1 ⟨rfl, hb1⟩
        rw [HSS.out]
        have S1 : Step w1 _ := ⟨hb1⟩
        have HS1 := Lib.hid (at_ext (w' := w1) HS.out)
        have f0 := at_frozen HS1.out 0
        have f1 := at_frozen HS1.out 1
        have r0 : w1.cell? ⟨w.heap.size + 4, 0, none⟩ = some (.int .i64 sd) := at_cell HS1.out 0
        have r1 : w1.cell? ⟨w.heap.size + 4, 1, none⟩ = some (.int .i64 sb) := at_cell HS1.out 1
        have r4 : w1.cell? ⟨wr.heap.size, 0, none⟩ = some (.int .i64 t) := at_cell (at_ext (w' := w1) (at_new wr (.cells #[.int .i64 t, .slice VA vn vc] 109))) 0
        clear hb1
        go_wp2
        go_roundw
        case rel => exact ⟨k + 1, sd, sb, by go_num, by omega, HRN, HS1, (inferInstance : Ext _ _)⟩
        case measure => simp [intOf]; omega
      have hs1 : (S == 0) = false := by simpa using hs0
      by_cases ht : t = 26
      · have HRN : Hid (((vs.map OV.opt).drop (k + 1)).foldl nakU (S, sb) = R) := by
          have h := HRS.out
          rw [show nakU (sd, sb) (OV.opt ⟨t, VA, vn, vc, xs⟩) = (S, sb) from by show nakU (sd, sb) (t, xs) = _; unfold nakU; rw [if_neg (fun h => hs0 (hS.symm.trans h))]; unfold rdU; rw [if_pos ht]; exact congrArg (fun x => (x, sb)) hS] at h
          exact h
        subst ht
        clear hS hs0 HRS
        go_wp2_with fail
        refine (bits22_any 26 VA vn vc xs GV.out.1 GV.out.2.2.2.1 _ (by exact GV.out.2.2.2.2.ext)).mono ?_
        rintro e w1 ⟨rfl, hb1⟩
        rw [HSS.out]
        have S1 : Step w1 _ := ⟨hb1⟩
        have HS1 := Lib.hid (at_ext (w' := w1) HS.out)
        have f0 := at_frozen HS1.out 0
        have f1 := at_frozen HS1.out 1
        have r0 : w1.cell? ⟨w.heap.size + 4, 0, none⟩ = some (.int .i64 sd) := at_cell HS1.out 0
        have r1 : w1.cell? ⟨w.heap.size + 4, 1, none⟩ = some (.int .i64 sb) := at_cell HS1.out 1
        have r4 : w1.cell? ⟨wr.heap.size, 0, none⟩ = some (.int .i64 26) := at_cell (at_ext (w' := w1) (at_new wr (.cells #[.int .i64 26, .slice VA vn vc] 109))) 0
        clear hb1
        go_wp2
        go_roundw
        case rel => exact ⟨k + 1, S, sb, by go_num, by omega, HRN, at_set HS1.out 0 _, Ext.setG inferInstance _ _ _ (by simp)⟩
        case measure => simp [intOf]; omega
      · have HRN : Hid (((vs.map OV.opt).drop (k + 1)).foldl nakU (sd, S) = R) := by
          have h := HRS.out
          rw [show nakU (sd, sb) (OV.opt ⟨t, VA, vn, vc, xs⟩) = (sd, S) from by show nakU (sd, sb) (t, xs) = _; unfold nakU; rw [if_neg (fun h => hs0 (hS.symm.trans h))]; unfold rdU; rw [if_neg ht]; exact congrArg (fun x => (sd, x)) hS] at h
          exact h
        have ht' : (t == 26) = false := by simpa using ht
        clear hS hs0 HRS ht
        go_wp2_with fail
        refine (bits22_any t VA vn vc xs GV.out.1 GV.out.2.2.2.1 _ (by exact GV.out.2.2.2.2.ext)).mono ?_
        rintro e w1 ⟨rfl, hb1⟩
        rw [HSS.out]
        have S1 : Step w1 _ := ⟨hb1⟩
        have HS1 := Lib.hid (at_ext (w' := w1) HS.out)
        have f0 := at_frozen HS1.out 0
        have f1 := at_frozen HS1.out 1
        have r0 : w1.cell? ⟨w.heap.size + 4, 0, none⟩ = some (.int .i64 sd) := at_cell HS1.out 0
        have r1 : w1.cell? ⟨w.heap.size + 4, 1, none⟩ = some (.int .i64 sb) := at_cell HS1.out 1
        have r4 : w1.cell? ⟨wr.heap.size, 0, none⟩ = some (.int .i64 t) := at_cell (at_ext (w' := w1) (at_new wr (.cells #[.int .i64 t, .slice VA vn vc] 109))) 0
        clear hb1
        go_wp2
        go_roundw
        case rel => exact ⟨k + 1, sd, S, by go_num, by omega, HRN, at_set HS1.out 1 _, Ext.setG inferInstance _ _ _ (by simp)⟩
        case measure => simp [intOf]; omega
    · have hRE := fold_end HRK.out (by rw [List.length_map, Hn.out]; omega)
      subst hRE
      have Q1 : wr.heap[w.heap.size + 1]? = some (cP d b) := at_ext (w' := wr) (w := (((w.alloc (.cells cf 39)).alloc (cP d b)).alloc (cP 0 0)).alloc (cP d b)) (at_ext (w := (w.alloc (.cells cf 39)).alloc (cP d b)) (at_new1 (by simp)))
      have Q2 : wr.heap[w.heap.size + 1 + 1]? = some (cP 0 0) := at_ext (w' := wr) (w := (((w.alloc (.cells cf 39)).alloc (cP d b)).alloc (cP 0 0)).alloc (cP d b)) (at_ext (w := ((w.alloc (.cells cf 39)).alloc (cP d b)).alloc (cP 0 0)) (at_new1 (by simp)))
      have Q3 : wr.heap[w.heap.size + 3]? = some (cP d b) := at_ext (w' := wr) (w := (((w.alloc (.cells cf 39)).alloc (cP d b)).alloc (cP 0 0)).alloc (cP d b)) (at_new1 (by simp))
      have e0 : wr.cell? ⟨w.heap.size + 1, 0, none⟩ = some (.int .i64 d) := at_cell Q1 0
      have e1 : wr.cell? ⟨w.heap.size + 1, 1, none⟩ = some (.int .i64 b) := at_cell Q1 1
      have e2 : wr.cell? ⟨w.heap.size + 2, 0, none⟩ = some (.int .i64 0) := at_cell Q2 0
      have e3 : wr.cell? ⟨w.heap.size + 2, 1, none⟩ = some (.int .i64 0) := at_cell Q2 1
      have e4 : wr.cell? ⟨w.heap.size + 3, 0, none⟩ = some (.int .i64 d) := at_cell Q3 0
      have e5 : wr.cell? ⟨w.heap.size + 3, 1, none⟩ = some (.int .i64 b) := at_cell Q3 1
      have e6 : wr.cell? ⟨w.heap.size + 4, 0, none⟩ = some (.int .i64 sd) := at_cell HS.out 0
      have e7 : wr.cell? ⟨w.heap.size + 4, 1, none⟩ = some (.int .i64 sb) := at_cell HS.out 1
      have f0 := at_frozen Q1 0
      have f1 := at_frozen Q1 1
      have f2 := at_frozen Q2 0
      have f3 := at_frozen Q2 1
      have HQ2 := Lib.hid Q2
      clear Q1 Q2 Q3
      by_cases hd0 : d = 0
      · have LD := Lib.hid (lowF_no (d := d) (s := sd) (fun h => h.1 hd0))
        have hd1 : (d != 0) = false := by simpa using hd0
        have hde : (d != d) = false := by simp
        clear hd0
        by_cases hb0 : b = 0
        · have LB := Lib.hid (lowF_no (d := b) (s := sb) (fun h => h.1 hb0))
          have hb1 : (b != 0) = false := by simpa using hb0
          have hbe : (b != b) = false := by simp
          clear hb0
          go_wp2
          go_region
          all_goals go_wp2
          all_goals
            have hd0 := at_cell (at_set2 (.int .i64 d) (.int .i64 b) HQ2.out) 0
            have hd1 := at_cell (at_set2 (.int .i64 d) (.int .i64 b) HQ2.out) 1
            simp only [List.getElem?_toArray, List.getElem?_cons_zero, List.getElem?_cons_succ] at hd0 hd1
            exact bodyPost_ret (v := .tuple #[.agg #[.int .i64 d, .int .i64 b], .bool false]) (by simp [results, Try.results33, go_sem, hd0, hd1]) rfl (nakTells22_of LD.out LB.out (by show decide (_ ∨ _) = _; rw [LD.out, LB.out]; exact chg_no) Ext.out)
        have hb1 : (b != 0) = true := by simpa using hb0
        by_cases hb2 : sb = 0
        · have LB := Lib.hid (lowF_no (d := b) (s := sb) (fun h => h.2.1 hb2))
          have hb3 : (sb != 0) = false := by simpa using hb2
          clear hb0 hb2
          go_wp2
          go_region
          all_goals go_wp2
          all_goals
            have hd0 := at_cell (at_set2 (.int .i64 d) (.int .i64 b) HQ2.out) 0
            have hd1 := at_cell (at_set2 (.int .i64 d) (.int .i64 b) HQ2.out) 1
            simp only [List.getElem?_toArray, List.getElem?_cons_zero, List.getElem?_cons_succ] at hd0 hd1
            exact bodyPost_ret (v := .tuple #[.agg #[.int .i64 d, .int .i64 b], .bool false]) (by simp [results, Try.results33, go_sem, hd0, hd1]) rfl (nakTells22_of LD.out LB.out (by show decide (_ ∨ _) = _; rw [LD.out, LB.out]; exact chg_no) Ext.out)
        have hb3 : (sb != 0) = true := by simpa using hb2
        by_cases hb4 : sb < b
        · have LB := Lib.hid (lowF_yes hb0 hb2 hb4)
          have hb5 : (sb == b) = false := by rw [beq_eq_false_iff_ne]; omega
          clear hb0 hb2
          go_wp2
          go_region
          all_goals go_wp2
          all_goals
            have hd0 := at_cell (at_set2 (.int .i64 d) (.int .i64 sb) (at_other (p := ⟨w.heap.size + 1, 1, none⟩) (.int .i64 sb) HQ2.out (by simp))) 0
            have hd1 := at_cell (at_set2 (.int .i64 d) (.int .i64 sb) (at_other (p := ⟨w.heap.size + 1, 1, none⟩) (.int .i64 sb) HQ2.out (by simp))) 1
            simp only [List.getElem?_toArray, List.getElem?_cons_zero, List.getElem?_cons_succ] at hd0 hd1
            exact bodyPost_ret (v := .tuple #[.agg #[.int .i64 d, .int .i64 sb], .bool true]) (by simp [results, Try.results33, go_sem, hd0, hd1]) rfl (nakTells22_of LD.out LB.out (by show decide (_ ∨ _) = _; rw [LD.out, LB.out]; exact (chg_b hb4)) Ext.out)
        · have LB := Lib.hid (lowF_no (d := b) (s := sb) (fun h => hb4 h.2.2))
          clear hb0 hb2
          go_wp2
          go_region
          all_goals go_wp2
          all_goals
            have hd0 := at_cell (at_set2 (.int .i64 d) (.int .i64 b) HQ2.out) 0
            have hd1 := at_cell (at_set2 (.int .i64 d) (.int .i64 b) HQ2.out) 1
            simp only [List.getElem?_toArray, List.getElem?_cons_zero, List.getElem?_cons_succ] at hd0 hd1
            exact bodyPost_ret (v := .tuple #[.agg #[.int .i64 d, .int .i64 b], .bool false]) (by simp [results, Try.results33, go_sem, hd0, hd1]) rfl (nakTells22_of LD.out LB.out (by show decide (_ ∨ _) = _; rw [LD.out, LB.out]; exact chg_no) Ext.out)
      have hd1 : (d != 0) = true := by simpa using hd0
      by_cases hd2 : sd = 0
      · have LD := Lib.hid (lowF_no (d := d) (s := sd) (fun h => h.2.1 hd2))
        have hd3 : (sd != 0) = false := by simpa using hd2
        clear hd0 hd2
        by_cases hb0 : b = 0
        · have LB := Lib.hid (lowF_no (d := b) (s := sb) (fun h => h.1 hb0))
          have hb1 : (b != 0) = false := by simpa using hb0
          have hbe : (b != b) = false := by simp
          clear hb0
          go_wp2
          go_region
          all_goals go_wp2
          all_goals
            have hd0 := at_cell (at_set2 (.int .i64 d) (.int .i64 b) HQ2.out) 0
            have hd1 := at_cell (at_set2 (.int .i64 d) (.int .i64 b) HQ2.out) 1
            simp only [List.getElem?_toArray, List.getElem?_cons_zero, List.getElem?_cons_succ] at hd0 hd1
            exact bodyPost_ret (v := .tuple #[.agg #[.int .i64 d, .int .i64 b], .bool false]) (by simp [results, Try.results33, go_sem, hd0, hd1]) rfl (nakTells22_of LD.out LB.out (by show decide (_ ∨ _) = _; rw [LD.out, LB.out]; exact chg_no) Ext.out)
        have hb1 : (b != 0) = true := by simpa using hb0
        by_cases hb2 : sb = 0
        · have LB := Lib.hid (lowF_no (d := b) (s := sb) (fun h => h.2.1 hb2))
          have hb3 : (sb != 0) = false := by simpa using hb2
          clear hb0 hb2
          go_wp2
          go_region
          all_goals go_wp2
          all_goals
            have hd0 := at_cell (at_set2 (.int .i64 d) (.int .i64 b) HQ2.out) 0
            have hd1 := at_cell (at_set2 (.int .i64 d) (.int .i64 b) HQ2.out) 1
            simp only [List.getElem?_toArray, List.getElem?_cons_zero, List.getElem?_cons_succ] at hd0 hd1
            exact bodyPost_ret (v := .tuple #[.agg #[.int .i64 d, .int .i64 b], .bool false]) (by simp [results, Try.results33, go_sem, hd0, hd1]) rfl (nakTells22_of LD.out LB.out (by show decide (_ ∨ _) = _; rw [LD.out, LB.out]; exact chg_no) Ext.out)
        have hb3 : (sb != 0) = true := by simpa using hb2
        by_cases hb4 : sb < b
        · have LB := Lib.hid (lowF_yes hb0 hb2 hb4)
          have hb5 : (sb == b) = false := by rw [beq_eq_false_iff_ne]; omega
          clear hb0 hb2
          go_wp2
          go_region
          all_goals go_wp2
          all_goals
            have hd0 := at_cell (at_set2 (.int .i64 d) (.int .i64 sb) (at_other (p := ⟨w.heap.size + 1, 1, none⟩) (.int .i64 sb) HQ2.out (by simp))) 0
            have hd1 := at_cell (at_set2 (.int .i64 d) (.int .i64 sb) (at_other (p := ⟨w.heap.size + 1, 1, none⟩) (.int .i64 sb) HQ2.out (by simp))) 1
            simp only [List.getElem?_toArray, List.getElem?_cons_zero, List.getElem?_cons_succ] at hd0 hd1
            exact bodyPost_ret (v := .tuple #[.agg #[.int .i64 d, .int .i64 sb], .bool true]) (by simp [results, Try.results33, go_sem, hd0, hd1]) rfl (nakTells22_of LD.out LB.out (by show decide (_ ∨ _) = _; rw [LD.out, LB.out]; exact (chg_b hb4)) Ext.out)
        · have LB := Lib.hid (lowF_no (d := b) (s := sb) (fun h => hb4 h.2.2))
          clear hb0 hb2
          go_wp2
          go_region
          all_goals go_wp2
          all_goals
            have hd0 := at_cell (at_set2 (.int .i64 d) (.int .i64 b) HQ2.out) 0
            have hd1 := at_cell (at_set2 (.int .i64 d) (.int .i64 b) HQ2.out) 1
            simp only [List.getElem?_toArray, List.getElem?_cons_zero, List.getElem?_cons_succ] at hd0 hd1
            exact bodyPost_ret (v := .tuple #[.agg #[.int .i64 d, .int .i64 b], .bool false]) (by simp [results, Try.results33, go_sem, hd0, hd1]) rfl (nakTells22_of LD.out LB.out (by show decide (_ ∨ _) = _; rw [LD.out, LB.out]; exact chg_no) Ext.out)
      have hd3 : (sd != 0) = true := by simpa using hd2
      by_cases hd4 : sd < d
      · have LD := Lib.hid (lowF_yes hd0 hd2 hd4)
        have hd5 : (sd == d) = false := by rw [beq_eq_false_iff_ne]; omega
        clear hd0 hd2
        by_cases hb0 : b = 0
        · have LB := Lib.hid (lowF_no (d := b) (s := sb) (fun h => h.1 hb0))
          have hb1 : (b != 0) = false := by simpa using hb0
          have hbe : (b != b) = false := by simp
          clear hb0
          go_wp2
          go_region
          all_goals go_wp2
          all_goals
            have hd0 := at_cell (at_set2 (.int .i64 sd) (.int .i64 b) (at_other (p := ⟨w.heap.size + 1, 0, none⟩) (.int .i64 sd) HQ2.out (by simp))) 0
            have hd1 := at_cell (at_set2 (.int .i64 sd) (.int .i64 b) (at_other (p := ⟨w.heap.size + 1, 0, none⟩) (.int .i64 sd) HQ2.out (by simp))) 1
            simp only [List.getElem?_toArray, List.getElem?_cons_zero, List.getElem?_cons_succ] at hd0 hd1
            exact bodyPost_ret (v := .tuple #[.agg #[.int .i64 sd, .int .i64 b], .bool true]) (by simp [results, Try.results33, go_sem, hd0, hd1]) rfl (nakTells22_of LD.out LB.out (by show decide (_ ∨ _) = _; rw [LD.out, LB.out]; exact (chg_d hd4)) Ext.out)
        have hb1 : (b != 0) = true := by simpa using hb0
        by_cases hb2 : sb = 0
        · have LB := Lib.hid (lowF_no (d := b) (s := sb) (fun h => h.2.1 hb2))
          have hb3 : (sb != 0) = false := by simpa using hb2
          clear hb0 hb2
          go_wp2
          go_region
          all_goals go_wp2
          all_goals
            have hd0 := at_cell (at_set2 (.int .i64 sd) (.int .i64 b) (at_other (p := ⟨w.heap.size + 1, 0, none⟩) (.int .i64 sd) HQ2.out (by simp))) 0
            have hd1 := at_cell (at_set2 (.int .i64 sd) (.int .i64 b) (at_other (p := ⟨w.heap.size + 1, 0, none⟩) (.int .i64 sd) HQ2.out (by simp))) 1
            simp only [List.getElem?_toArray, List.getElem?_cons_zero, List.getElem?_cons_succ] at hd0 hd1
            exact bodyPost_ret (v := .tuple #[.agg #[.int .i64 sd, .int .i64 b], .bool true]) (by simp [results, Try.results33, go_sem, hd0, hd1]) rfl (nakTells22_of LD.out LB.out (by show decide (_ ∨ _) = _; rw [LD.out, LB.out]; exact (chg_d hd4)) Ext.out)
        have hb3 : (sb != 0) = true := by simpa using hb2
        by_cases hb4 : sb < b
        · have LB := Lib.hid (lowF_yes hb0 hb2 hb4)
          have hb5 : (sb == b) = false := by rw [beq_eq_false_iff_ne]; omega
          clear hb0 hb2
          go_wp2
          go_region
          all_goals go_wp2
          all_goals
            have hd0 := at_cell (at_set2 (.int .i64 sd) (.int .i64 sb) (at_other (p := ⟨w.heap.size + 1, 1, none⟩) (.int .i64 sb) (at_other (p := ⟨w.heap.size + 1, 0, none⟩) (.int .i64 sd) HQ2.out (by simp)) (by simp))) 0
            have hd1 := at_cell (at_set2 (.int .i64 sd) (.int .i64 sb) (at_other (p := ⟨w.heap.size + 1, 1, none⟩) (.int .i64 sb) (at_other (p := ⟨w.heap.size + 1, 0, none⟩) (.int .i64 sd) HQ2.out (by simp)) (by simp))) 1
            simp only [List.getElem?_toArray, List.getElem?_cons_zero, List.getElem?_cons_succ] at hd0 hd1
            exact bodyPost_ret (v := .tuple #[.agg #[.int .i64 sd, .int .i64 sb], .bool true]) (by simp [results, Try.results33, go_sem, hd0, hd1]) rfl (nakTells22_of LD.out LB.out (by show decide (_ ∨ _) = _; rw [LD.out, LB.out]; exact (chg_d hd4)) Ext.out)
        · have LB := Lib.hid (lowF_no (d := b) (s := sb) (fun h => hb4 h.2.2))
          clear hb0 hb2
          go_wp2
          go_region
          all_goals go_wp2
          all_goals
            have hd0 := at_cell (at_set2 (.int .i64 sd) (.int .i64 b) (at_other (p := ⟨w.heap.size + 1, 0, none⟩) (.int .i64 sd) HQ2.out (by simp))) 0
            have hd1 := at_cell (at_set2 (.int .i64 sd) (.int .i64 b) (at_other (p := ⟨w.heap.size + 1, 0, none⟩) (.int .i64 sd) HQ2.out (by simp))) 1
            simp only [List.getElem?_toArray, List.getElem?_cons_zero, List.getElem?_cons_succ] at hd0 hd1
            exact bodyPost_ret (v := .tuple #[.agg #[.int .i64 sd, .int .i64 b], .bool true]) (by simp [results, Try.results33, go_sem, hd0, hd1]) rfl (nakTells22_of LD.out LB.out (by show decide (_ ∨ _) = _; rw [LD.out, LB.out]; exact (chg_d hd4)) Ext.out)
      · have LD := Lib.hid (lowF_no (d := d) (s := sd) (fun h => hd4 h.2.2))
        clear hd0 hd2
        by_cases hb0 : b = 0
        · have LB := Lib.hid (lowF_no (d := b) (s := sb) (fun h => h.1 hb0))
          have hb1 : (b != 0) = false := by simpa using hb0
          have hbe : (b != b) = false := by simp
          clear hb0
          go_wp2
          go_region
          all_goals go_wp2
          all_goals
            have hd0 := at_cell (at_set2 (.int .i64 d) (.int .i64 b) HQ2.out) 0
            have hd1 := at_cell (at_set2 (.int .i64 d) (.int .i64 b) HQ2.out) 1
            simp only [List.getElem?_toArray, List.getElem?_cons_zero, List.getElem?_cons_succ] at hd0 hd1
            exact bodyPost_ret (v := .tuple #[.agg #[.int .i64 d, .int .i64 b], .bool false]) (by simp [results, Try.results33, go_sem, hd0, hd1]) rfl (nakTells22_of LD.out LB.out (by show decide (_ ∨ _) = _; rw [LD.out, LB.out]; exact chg_no) Ext.out)
        have hb1 : (b != 0) = true := by simpa using hb0
        by_cases hb2 : sb = 0
        · have LB := Lib.hid (lowF_no (d := b) (s := sb) (fun h => h.2.1 hb2))
          have hb3 : (sb != 0) = false := by simpa using hb2
          clear hb0 hb2
          go_wp2
          go_region
          all_goals go_wp2
          all_goals
            have hd0 := at_cell (at_set2 (.int .i64 d) (.int .i64 b) HQ2.out) 0
            have hd1 := at_cell (at_set2 (.int .i64 d) (.int .i64 b) HQ2.out) 1
            simp only [List.getElem?_toArray, List.getElem?_cons_zero, List.getElem?_cons_succ] at hd0 hd1
            exact bodyPost_ret (v := .tuple #[.agg #[.int .i64 d, .int .i64 b], .bool false]) (by simp [results, Try.results33, go_sem, hd0, hd1]) rfl (nakTells22_of LD.out LB.out (by show decide (_ ∨ _) = _; rw [LD.out, LB.out]; exact chg_no) Ext.out)
        have hb3 : (sb != 0) = true := by simpa using hb2
        by_cases hb4 : sb < b
        · have LB := Lib.hid (lowF_yes hb0 hb2 hb4)
          have hb5 : (sb == b) = false := by rw [beq_eq_false_iff_ne]; omega
          clear hb0 hb2
          go_wp2
          go_region
          all_goals go_wp2
          all_goals
            have hd0 := at_cell (at_set2 (.int .i64 d) (.int .i64 sb) (at_other (p := ⟨w.heap.size + 1, 1, none⟩) (.int .i64 sb) HQ2.out (by simp))) 0
            have hd1 := at_cell (at_set2 (.int .i64 d) (.int .i64 sb) (at_other (p := ⟨w.heap.size + 1, 1, none⟩) (.int .i64 sb) HQ2.out (by simp))) 1
            simp only [List.getElem?_toArray, List.getElem?_cons_zero, List.getElem?_cons_succ] at hd0 hd1
            exact bodyPost_ret (v := .tuple #[.agg #[.int .i64 d, .int .i64 sb], .bool true]) (by simp [results, Try.results33, go_sem, hd0, hd1]) rfl (nakTells22_of LD.out LB.out (by show decide (_ ∨ _) = _; rw [LD.out, LB.out]; exact (chg_b hb4)) Ext.out)
        · have LB := Lib.hid (lowF_no (d := b) (s := sb) (fun h => hb4 h.2.2))
          clear hb0 hb2
          go_wp2
          go_region
          all_goals go_wp2
          all_goals
            have hd0 := at_cell (at_set2 (.int .i64 d) (.int .i64 b) HQ2.out) 0
            have hd1 := at_cell (at_set2 (.int .i64 d) (.int .i64 b) HQ2.out) 1
            simp only [List.getElem?_toArray, List.getElem?_cons_zero, List.getElem?_cons_succ] at hd0 hd1
            exact bodyPost_ret (v := .tuple #[.agg #[.int .i64 d, .int .i64 b], .bool false]) (by simp [results, Try.results33, go_sem, hd0, hd1]) rfl (nakTells22_of LD.out LB.out (by show decide (_ ∨ _) = _; rw [LD.out, LB.out]; exact chg_no) Ext.out)
end Go.Proofs.Ytnhmpmibkpoipaa
