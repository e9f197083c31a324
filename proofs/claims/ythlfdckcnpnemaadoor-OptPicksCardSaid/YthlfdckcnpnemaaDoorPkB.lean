/-
  opt.Find and the reference's, the reference's has and Without. Conditions: the lists are no longer than the model's memory.
-/
import Derived.Test.YthlfdckcnpnemaaDoorPkA
namespace Go.Proofs.YthlfdckcnpnemaaDoor
open Go.RowKit
set_option linter.unusedVariables false
set_option linter.unusedSimpArgs false

def findF : List (Int × List Int) → Int → (Int × List Int) × Bool
  | [], _ => ((0, []), false)
  | o :: os, kind => if o.1 = kind then (o, true) else findF os kind
section
variable {os : List (Int × List Int)} {k : Nat} {kind : Int} {o : Int × List Int} {r : (Int × List Int) × Bool}
theorem findF_hit (h : findF (os.drop k) kind = r) (ho : os[k]? = some o) (ht : o.1 = kind) : r = (o, true) := by
  rw [drop_at ho, findF, if_pos ht] at h
  exact h.symm
theorem findF_miss (h : findF (os.drop k) kind = r) (ho : os[k]? = some o) (ht : ¬ o.1 = kind) : findF (os.drop (k + 1)) kind = r := by
  rw [drop_at ho, findF, if_neg ht] at h
  exact h
theorem findF_end (h : findF (os.drop k) kind = r) (hk : os.length ≤ k) : r = ((0, []), false) := by
  rw [List.drop_eq_nil_of_le hk, findF] at h
  exact h.symm
end
def Find2 (r : (Int × List Int) × Bool) (w : World) (e : Ending) (w' : World) : Prop :=
  ∃ A c, e = .returned (.tuple #[.agg #[.int .i64 r.1.1, .slice A r.1.2.length c], .bool r.2]) ∧ w'.ownsRow w.heap.size 5 1 (.slice A r.1.2.length c) r.1.2.length (nums .u8 r.1.2) ∧ Below w.heap.size w w'
def RFind2 (r : (Int × List Int) × Bool) (w : World) (e : Ending) (w' : World) : Prop :=
  ∃ A c, e = .returned (.tuple #[.agg #[.int .i64 r.1.1, .slice A r.1.2.length c], .bool r.2]) ∧ Cells w' A (nums .u8 r.1.2) ∧ Below w.heap.size w w'
abbrev zOpt : Obj := .cells #[.int .i64 0, .slice none 0 0] 34
set_option maxRecDepth 100000 in
set_option maxHeartbeats 2000000 in
theorem find2_any (A : Option Addr) (n c : Nat) (vs : List OV) (kind : Int) (hn : vs.length = n) (hn' : n ≤ 4398046511104) (w : World) (hx : Cells w A (flat vs)) (gx : Good w vs) :
    Calls Tryd.prog 13 #[.slice A n c, .int .i64 kind] w (Find2 (findF (vs.map OV.opt) kind) w) := by
  have Hn := Lib.hid hn
  have HX := Lib.hid hx
  have GX := Lib.hid gx
  obtain ⟨r, hr⟩ : ∃ r, findF (vs.map OV.opt) kind = r := ⟨_, rfl⟩
  have HR := Lib.hid hr
  rw [hr]
  clear hn hx gx hr
  go_enter Tryd.func13, Tryd.ntmps13
  go_wp2
  go_loopw [10] (fun i wr => ∃ k : Nat, i = .int .i64 k ∧ k ≤ n ∧ Hid (findF ((vs.map OV.opt).drop k) kind = r) ∧ Hid (Ext (w.alloc zOpt) wr)) (fun i _ => n - (intOf i).toNat)
  case atStart => exact ⟨0, rfl, by omega, HR.out, Ext.refl_ _⟩
  case round =>
    obtain ⟨k, rfl, hk, HT, HB⟩ := hrel
    have X0 : Ext (w.alloc zOpt) wr := HB.out
    have Y0 : Ext w wr := Ext.trans_ inferInstance X0
    by_cases hlt : k < n
    · obtain ⟨v, hv, hvm⟩ := optD (vs := vs) (k := k) (by rw [Hn.out]; exact hlt)
      obtain ⟨ad, rfl, hc0, hc1⟩ := opt_at (HX.out.ext (w' := wr)) hv
      have GV := Lib.hid ((GX.out v hvm).ext (w' := wr))
      have HV : Hid ((vs.map OV.opt)[k]? = some v.opt) := by unfold Hid; rw [List.getElem?_map, hv]; rfl
      clear hv hvm
      obtain ⟨t, VA, vn, vc, xs⟩ := v
      have HXL : Hid (xs.length = vn) := GV.out.1
      simp only at hc0 hc1
      by_cases ht : t = kind
      · subst ht
        have HH := Lib.hid (findF_hit HT.out HV.out rfl)
        go_wp2_with fail
        refine (again9_any t VA vn vc xs GV.out.1 GV.out.2.2.1 _ (by exact GV.out.2.2.2.2.ext)).mono ?_
        rintro e w1 ⟨A1, c1, rfl, ho1, hb1⟩
        have S1 : Step w1 _ := ⟨hb1⟩
        have X1 : Ext (w.alloc zOpt) w1 := inferInstance
        have HO1 := Lib.hid ho1
        have P0 := at_ext (w' := w1) (at_new w zOpt)
        have f0 := at_frozen P0 0
        have f1 := at_frozen P0 1
        have r0 : w1.cell? ⟨w.heap.size, 0, none⟩ = some (.int .i64 0) := at_cell P0 0
        have r1 : w1.cell? ⟨w.heap.size, 1, none⟩ = some (.slice none 0 0) := at_cell P0 1
        have hd0 := at_cell (at_set2 (.int .i64 t) (.slice A1 vn c1) P0) 0
        have hd1 := at_cell (at_set2 (.int .i64 t) (.slice A1 vn c1) P0) 1
        have HD0 := Lib.hid hd0
        have HD1 := Lib.hid hd1
        have HNE : Hid ((Value.slice A1 vn c1).ownBlock ≠ some w.heap.size) := fun e => by
          have h1 := own_base ho1 _ e
          have h2 := size_ext (w := w.alloc zOpt) (w' := wr)
          simp at h1 h2
          omega
        clear P0 ho1 hb1 hd0 hd1
        go_wp2
        have hd0 := HD0.out
        have hd1 := HD1.out
        simp only [List.getElem?_toArray, List.getElem?_cons_zero, List.getElem?_cons_succ] at hd0 hd1
        refine bodyPost_ret (v := .tuple #[.agg #[.int .i64 t, .slice A1 vn c1], .bool true]) (by simp [results, Tryd.results13, go_sem, hd0, hd1]) rfl ?_
        have hoo := own_setCell (own_setCell HO1.out (p := ⟨w.heap.size, 0, none⟩) HNE.out (.int .i64 t)) (p := ⟨w.heap.size, 1, none⟩) HNE.out (.slice A1 vn c1)
        rw [HH.out]
        refine ⟨A1, c1, by rw [← HXL.out]; rfl, ?_, Ext.out⟩
        show World.ownsRow _ w.heap.size _ _ (.slice A1 xs.length c1) xs.length _
        rw [HXL.out]
        exact own_weaken hoo (by first | exact size_ext | simp)
      · have ht' : (t == kind) = false := by simpa using ht
        have HN := Lib.hid (findF_miss HT.out HV.out ht)
        clear ht
        go_wp2
        go_roundw
        case rel => exact ⟨k + 1, by go_num, by omega, HN.out, (inferInstance : Ext (w.alloc zOpt) _)⟩
        case measure => simp [intOf]; omega
    · obtain rfl : n = k := by omega
      have HH := Lib.hid (findF_end HT.out (by rw [List.length_map, Hn.out]; exact Nat.le_refl _))
      have P0 := at_ext (w' := wr) (at_new w zOpt)
      have f0 := at_frozen P0 0
      have f1 := at_frozen P0 1
      have r0 : wr.cell? ⟨w.heap.size, 0, none⟩ = some (.int .i64 0) := at_cell P0 0
      have r1 : wr.cell? ⟨w.heap.size, 1, none⟩ = some (.slice none 0 0) := at_cell P0 1
      have hd0 := at_cell (at_set2 (.int .i64 0) (.slice none 0 0) P0) 0
      have hd1 := at_cell (at_set2 (.int .i64 0) (.slice none 0 0) P0) 1
      have HD0 := Lib.hid hd0
      have HD1 := Lib.hid hd1
      clear P0 hd0 hd1
      go_wp2
      have hd0 := HD0.out
      have hd1 := HD1.out
      simp only [List.getElem?_toArray, List.getElem?_cons_zero, List.getElem?_cons_succ] at hd0 hd1
      refine bodyPost_ret (v := .tuple #[.agg #[.int .i64 0, .slice none 0 0], .bool false]) (by simp [results, Tryd.results13, go_sem, hd0, hd1]) rfl ?_
      rw [HH.out]
      exact ⟨none, 0, rfl, own_nil _ _ _ _, Ext.out⟩
set_option maxRecDepth 100000 in
set_option maxHeartbeats 2000000 in
theorem rfind2_any (A : Option Addr) (n c : Nat) (vs : List OV) (kind : Int) (hn : vs.length = n) (hn' : n ≤ 4398046511104) (w : World) (hx : Cells w A (flat vs)) (gx : Good w vs) :
    Calls Tryd.prog 14 #[.slice A n c, .int .i64 kind] w (RFind2 (findF (vs.map OV.opt) kind) w) := by
  have Hn := Lib.hid hn
  have HX := Lib.hid hx
  have GX := Lib.hid gx
  obtain ⟨r, hr⟩ : ∃ r, findF (vs.map OV.opt) kind = r := ⟨_, rfl⟩
  have HR := Lib.hid hr
  rw [hr]
  clear hn hx gx hr
  go_enter Tryd.func14, Tryd.ntmps14
  go_wp2
  go_loopw [6] (fun i wr => ∃ k : Nat, i = .int .i64 k ∧ k ≤ n ∧ Hid (findF ((vs.map OV.opt).drop k) kind = r) ∧ Hid (Ext (w.alloc zOpt) wr)) (fun i _ => n - (intOf i).toNat)
  case atStart => exact ⟨0, rfl, by omega, HR.out, Ext.refl_ _⟩
  case round =>
    obtain ⟨k, rfl, hk, HT, HB⟩ := hrel
    have X0 : Ext (w.alloc zOpt) wr := HB.out
    have Y0 : Ext w wr := Ext.trans_ inferInstance X0
    have P0 := at_ext (w' := wr) (at_new w zOpt)
    have f0 := at_frozen P0 0
    have f1 := at_frozen P0 1
    have r0 : wr.cell? ⟨w.heap.size, 0, none⟩ = some (.int .i64 0) := at_cell P0 0
    have r1 : wr.cell? ⟨w.heap.size, 1, none⟩ = some (.slice none 0 0) := at_cell P0 1
    have HP0 := Lib.hid P0
    clear P0
    by_cases hlt : k < n
    · obtain ⟨v, hv, hvm⟩ := optD (vs := vs) (k := k) (by rw [Hn.out]; exact hlt)
      obtain ⟨ad, rfl, hc0, hc1⟩ := opt_at (HX.out.ext (w' := wr)) hv
      have HVC := Lib.hid (GX.out v hvm).2.2.2.2
      have GV := Lib.hid ((GX.out v hvm).ext (w' := wr))
      have HV : Hid ((vs.map OV.opt)[k]? = some v.opt) := by unfold Hid; rw [List.getElem?_map, hv]; rfl
      clear hv hvm
      obtain ⟨t, VA, vn, vc, xs⟩ := v
      have HXL : Hid (xs.length = vn) := GV.out.1
      simp only at hc0 hc1
      by_cases ht : t = kind
      · subst ht
        have HH := Lib.hid (findF_hit HT.out HV.out rfl)
        have hd0 := at_cell (at_set2 (.int .i64 t) (.slice VA vn vc) HP0.out) 0
        have hd1 := at_cell (at_set2 (.int .i64 t) (.slice VA vn vc) HP0.out) 1
        have HD0 := Lib.hid hd0
        have HD1 := Lib.hid hd1
        clear hd0 hd1
        go_wp2
        have hd0 := HD0.out
        have hd1 := HD1.out
        simp only [List.getElem?_toArray, List.getElem?_cons_zero, List.getElem?_cons_succ] at hd0 hd1
        refine bodyPost_ret (v := .tuple #[.agg #[.int .i64 t, .slice VA vn vc], .bool true]) (by simp [results, Tryd.results14, go_sem, hd0, hd1]) rfl ?_
        rw [HH.out]
        exact ⟨VA, vc, by rw [← HXL.out]; rfl, HVC.out.ext, Ext.out⟩
      · have ht' : (t == kind) = false := by simpa using ht
        have HN := Lib.hid (findF_miss HT.out HV.out ht)
        clear ht
        go_wp2
        go_roundw
        case rel => exact ⟨k + 1, by go_num, by omega, HN.out, (inferInstance : Ext (w.alloc zOpt) _)⟩
        case measure => simp [intOf]; omega
    · obtain rfl : n = k := by omega
      have HH := Lib.hid (findF_end HT.out (by rw [List.length_map, Hn.out]; exact Nat.le_refl _))
      have hd0 := at_cell (at_set2 (.int .i64 0) (.slice none 0 0) HP0.out) 0
      have hd1 := at_cell (at_set2 (.int .i64 0) (.slice none 0 0) HP0.out) 1
      have HD0 := Lib.hid hd0
      have HD1 := Lib.hid hd1
      clear hd0 hd1
      go_wp2
      have hd0 := HD0.out
      have hd1 := HD1.out
      simp only [List.getElem?_toArray, List.getElem?_cons_zero, List.getElem?_cons_succ] at hd0 hd1
      refine bodyPost_ret (v := .tuple #[.agg #[.int .i64 0, .slice none 0 0], .bool false]) (by simp [results, Tryd.results14, go_sem, hd0, hd1]) rfl ?_
      rw [HH.out]
      exact ⟨none, 0, rfl, Cells.nil_ _ _, Ext.out⟩
end Go.Proofs.YthlfdckcnpnemaaDoor
