/-
  What opt.Find tells. Conditions: the list is no longer than the model's memory.
-/
import Derived.Test.YtnhmpmibkpoipaaOptW
namespace Go.Proofs.Ytnhmpmibkpoipaa
open Go.RowKit
set_option linter.unusedVariables false
set_option linter.unusedSimpArgs false

def hasT (os : List (Int × List Int)) (t : Int) : Bool := os.any fun o => decide (o.1 = t)
theorem hasT_at {os : List (Int × List Int)} {k : Nat} {o : Int × List Int} {t : Int} (ho : os[k]? = some o) (ht : o.1 = t) : hasT os t = true := by
  unfold hasT
  rw [List.any_eq_true]
  exact ⟨o, List.mem_of_getElem? ho, by simpa using ht⟩
theorem hasT_take {os : List (Int × List Int)} {k : Nat} {o : Int × List Int} {t : Int} (h : hasT (os.take k) t = false) (ho : os[k]? = some o) (ht : o.1 ≠ t) : hasT (os.take (k + 1)) t = false := by
  unfold hasT at *
  rw [take_snoc ho, List.any_append, h]
  simpa using ht
def FindTells (os : List (Int × List Int)) (kind : Int) (w : World) (e : Ending) (w' : World) : Prop :=
  ∃ t A n c, e = .returned (.tuple #[.agg #[.int .i64 t, .slice A n c], .bool (hasT os kind)]) ∧ Below w.heap.size w w'
set_option maxRecDepth 100000 in
set_option maxHeartbeats 2000000 in
theorem find_any (A : Option Addr) (n c : Nat) (vs : List OV) (kind : Int) (hn : vs.length = n) (hn' : n ≤ 4398046511104) (w : World) (hx : Cells w A (flat vs)) (gx : Good w vs) :
    Calls Try.prog 68 #[.slice A n c, .int .i64 kind] w (FindTells (vs.map OV.opt) kind w) := by
  have Hn := Lib.hid hn
  have HX := Lib.hid hx
  have GX := Lib.hid gx
  clear hn hx gx
  go_enter Try.func68, Try.ntmps68
  go_wp2
  go_loopw [10] (fun i wr => ∃ k : Nat, i = .int .i64 k ∧ k ≤ n ∧ Hid (hasT ((vs.map OV.opt).take k) kind = false) ∧ Hid (Below (w.alloc (.cells #[.int .i64 0, .slice none 0 0] 109)).heap.size (w.alloc (.cells #[.int .i64 0, .slice none 0 0] 109)) wr)) (fun i _ => n - (intOf i).toNat)
  case atStart => exact ⟨0, rfl, by omega, rfl, Below.refl _ _⟩
  case round =>
    obtain ⟨k, rfl, hk, HT, HB⟩ := hrel
    have X0 : Ext (w.alloc (.cells #[.int .i64 0, .slice none 0 0] 109)) wr := ⟨HB.out⟩
    have Y0 : Ext w wr := Ext.trans_ inferInstance X0
    by_cases hlt : k < n
    · obtain ⟨v, hv, hvm⟩ := optD (vs := vs) (k := k) (by rw [Hn.out]; exact hlt)
      obtain ⟨ad, rfl, hc0, hc1⟩ := opt_at (HX.out.ext (w' := wr)) hv
      have GV := Lib.hid ((GX.out v hvm).ext (w' := wr))
      have HV : Hid ((vs.map OV.opt)[k]? = some v.opt) := by unfold Hid; rw [List.getElem?_map, hv]; rfl
      clear hv hvm
      obtain ⟨t, VA, vn, vc, xs⟩ := v
      simp only at hc0 hc1
      by_cases ht : t = kind
      · subst ht
        have HH : Hid (hasT (vs.map OV.opt) t = true) := hasT_at HV.out rfl
        go_wp2_with fail
        refine (again9_any t VA vn vc xs GV.out.1 GV.out.2.2.1 _ (by exact GV.out.2.2.2.2.ext)).mono ?_
        rintro e w1 ⟨A1, c1, rfl, ho1, hb1⟩
        have S1 : Step w1 _ := ⟨hb1⟩
        have X1 : Ext (w.alloc (.cells #[.int .i64 0, .slice none 0 0] 109)) w1 := inferInstance
        have P0 := at_ext (w' := w1) (at_new w (.cells #[.int .i64 0, .slice none 0 0] 109))
        have f0 := at_frozen P0 0
        have f1 := at_frozen P0 1
        have r0 : w1.cell? ⟨w.heap.size, 0, none⟩ = some (.int .i64 0) := at_cell P0 0
        have r1 : w1.cell? ⟨w.heap.size, 1, none⟩ = some (.slice none 0 0) := at_cell P0 1
        have hd0 := at_cell (at_set2 (.int .i64 t) (.slice A1 vn c1) P0) 0
        have hd1 := at_cell (at_set2 (.int .i64 t) (.slice A1 vn c1) P0) 1
        have HD0 := Lib.hid hd0
        have HD1 := Lib.hid hd1
        clear P0 ho1 hb1 hd0 hd1
        go_wp2
        have hd0 := HD0.out
        have hd1 := HD1.out
        simp only [List.getElem?_toArray, List.getElem?_cons_zero, List.getElem?_cons_succ] at hd0 hd1
        exact bodyPost_ret (v := .tuple #[.agg #[.int .i64 t, .slice A1 vn c1], .bool true]) (by simp [results, Try.results68, go_sem, hd0, hd1]) rfl ⟨t, A1, vn, c1, by rw [HH.out], Ext.out⟩
      · have ht' : (t == kind) = false := by simpa using ht
        have HN := Lib.hid (hasT_take HT.out HV.out ht)
        clear ht
        go_wp2
        go_roundw
        case rel => exact ⟨k + 1, by go_num, by omega, HN.out, Ext.out⟩
        case measure => simp [intOf]; omega
    · obtain rfl : n = k := by omega
      have HH : Hid (hasT (vs.map OV.opt) kind = false) := by
        have h1 := HT.out
        rwa [List.take_of_length_le (by rw [List.length_map, Hn.out]; omega)] at h1
      have P0 := at_ext (w' := wr) (at_new w (.cells #[.int .i64 0, .slice none 0 0] 109))
      have f0 := at_frozen P0 0
      have f1 := at_frozen P0 1
      have r0 : wr.cell? ⟨w.heap.size, 0, none⟩ = some (.int .i64 0) := at_cell P0 0
      have r1 : wr.cell? ⟨w.heap.size, 1, none⟩ = some (.slice none 0 0) := at_cell P0 1
      have hd0 := at_cell (at_set2 (.int .i64 0) (.slice none 0 0) P0) 0
      have hd1 := at_cell (at_set2 (.int .i64 0) (.slice none 0 0) P0) 1
      have HD0 := Lib.hid hd0
      have HD1 := Lib.hid hd1
      clear P0 hd0 hd1
      go_wp2
      have hd0 := HD0.out
      have hd1 := HD1.out
      simp only [List.getElem?_toArray, List.getElem?_cons_zero, List.getElem?_cons_succ] at hd0 hd1
      exact bodyPost_ret (v := .tuple #[.agg #[.int .i64 0, .slice none 0 0], .bool false]) (by simp [results, Try.results68, go_sem, hd0, hd1]) rfl ⟨0, none, 0, 0, by rw [HH.out], Ext.out⟩
end Go.Proofs.Ytnhmpmibkpoipaa
