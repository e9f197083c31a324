/-
  The reference's size, twice, Auth, Method, Default. Conditions: the lists are no longer than the model's memory.
-/
import Derived.Test.YtodibldfolognaaLcH
import Derived.Test.YtodibldfolognaaLcC
namespace Go.Proofs.Ytodibldfolognaa
open Go.RowKit
set_option linter.unusedVariables false
set_option linter.unusedSimpArgs false

def sizeN (t : Int) (n : Nat) : Bool := if t = 1 then (n : Int) == 2 else if t = 2 ∨ t = 5 then (n : Int) == 4 else if t = 3 then decide (2 ≤ (n : Int)) else if t = 7 ∨ t = 8 then (n : Int) == 0 else false
set_option maxHeartbeats 1000000 in
theorem rsize_any (t : Int) (A : Option Addr) (n c : Nat) (w : World) : Calls Try.prog 88 #[.agg #[.int .i64 t, .slice A n c]] w fun e w' => e = .returned (.bool (sizeN t n)) ∧ Below w.heap.size w w' := by
  by_cases h1 : t = 1
  · subst h1
    go_enter Try.func88, Try.ntmps88
    go_wp2
    go_ret
    exact ⟨rfl, Ext.out⟩
  by_cases h2 : t = 2
  · subst h2
    go_enter Try.func88, Try.ntmps88
    go_wp2
    go_ret
    exact ⟨rfl, Ext.out⟩
  by_cases h5 : t = 5
  · subst h5
    go_enter Try.func88, Try.ntmps88
    go_wp2
    go_ret
    exact ⟨rfl, Ext.out⟩
  by_cases h7 : t = 7
  · subst h7
    go_enter Try.func88, Try.ntmps88
    go_wp2
    go_ret
    exact ⟨rfl, Ext.out⟩
  by_cases h8 : t = 8
  · subst h8
    go_enter Try.func88, Try.ntmps88
    go_wp2
    go_ret
    exact ⟨rfl, Ext.out⟩
  by_cases h3 : t = 3
  · subst h3
    go_enter Try.func88, Try.ntmps88
    go_wp2
    go_ret
    exact ⟨rfl, Ext.out⟩
  have HL : Hid (sizeN t n = false) := by unfold Hid sizeN; simp [h1, h2, h5, h7, h8, h3]
  go_enter Try.func88, Try.ntmps88
  go_wp2
  go_ret
  exact ⟨ret_bool HL.out.symm, Ext.out⟩
set_option maxHeartbeats 2000000 in
theorem rtwice_any (ad : Addr) (n c i : Nat) (vs : List OV) (T : Int) (hn : vs.length = n) (hn' : n ≤ 4398046511104) (hi : i < n) (w : World) (hx : Cells w (some ad) (flat vs)) (hT : (vs.map OV.opt)[i]?.map Prod.fst = some T) :
    Calls Try.prog 89 #[.slice (some ad) n c, .int .i64 i] w fun e w' => e = .returned (.bool (hasTy ((vs.map OV.opt).take i) T)) ∧ Below w.heap.size w w' := by
  have Hn := Lib.hid hn
  have HX := Lib.hid hx
  have HI := Lib.hid hi
  have hcT : w.cell? (ad.add (i * 2)) = some (.int .i64 T) := by
    obtain ⟨v, hv⟩ : ∃ v, vs[i]? = some v := ⟨_, List.getElem?_eq_getElem (by rw [hn]; exact hi)⟩
    obtain ⟨ad', he, h0, _⟩ := opt_at hx hv
    injection he with he
    subst he
    rw [List.getElem?_map, hv] at hT
    simp [OV.opt] at hT
    rw [h0, hT]
  have HCT := Lib.hid hcT
  have hiI : (i : Int) < (n : Int) := by omega
  clear hn hx hT hcT hi
  go_enter Try.func89, Try.ntmps89
  go_wp2
  go_loopw [5] (fun j wr => ∃ k : Nat, j = .int .i64 k ∧ k ≤ i ∧ Hid (hasTy ((vs.map OV.opt).take k) T = false) ∧ Hid (Ext w wr)) (fun j _ => i - (intOf j).toNat)
  case atStart => exact ⟨0, rfl, by omega, (by unfold Hid; simp [hasTy]), (inferInstance : Ext w w)⟩
  case round =>
    obtain ⟨k, rfl, hk, HF, HE⟩ := hrel
    have XE : Ext w wr := HE.out
    by_cases hlt : k < i
    · obtain ⟨v, hv, hvm⟩ := optD (vs := vs) (k := k) (by rw [Hn.out]; have := HI.out; omega)
      obtain ⟨ad', he, hc0, hc1⟩ := opt_at (HX.out.ext (w' := wr)) hv
      injection he with he
      subst he
      have HLT := Lib.hid hlt
      have hkn : (k : Int) < (n : Int) := by omega
      have hcT : wr.cell? (ad.add (i * 2)) = some (.int .i64 T) := cell_ext HCT.out
      have HV : Hid ((vs.map OV.opt)[k]? = some v.opt) := by unfold Hid; rw [List.getElem?_map, hv]; rfl
      obtain ⟨t, VA, vn, vc, xs⟩ := v
      simp only at hc0 hc1
      clear hv hvm
      rcases hq : (t == T) with _ | _
      · have HN := Lib.hid (hasTy_take HV.out HF.out hq)
        have HQ := Lib.hid hq
        clear hq
        go_wp2
        go_quiet (fail)
        rw [HQ.out]
        go_wp2
        go_roundw
        case rel => exact ⟨k + 1, by go_num, HLT.out, HN.out, (inferInstance : Ext w _)⟩
        case measure => have := HLT.out; simp [intOf]; omega
      · have HN := Lib.hid (hasTy_at HV.out hlt hq)
        have HQ := Lib.hid hq
        clear hq
        go_wp2
        go_quiet (fail)
        rw [HQ.out]
        go_wp2
        go_ret
        exact ⟨ret_bool HN.out.symm, Ext.out⟩
    · obtain rfl : k = i := by omega
      go_wp2
      go_ret
      exact ⟨ret_bool HF.out.symm, Ext.out⟩
set_option maxHeartbeats 1000000 in
theorem rauth_any (m : Int) (w : World) : Calls Try.prog 37 #[.int .i64 m] w fun e w' => ∃ v, e = .returned v ∧ w'.ownsRow w.heap.size 5 1 v (authL m).length (nums .u8 (authL m)) ∧ Below w.heap.size w w' := by
  by_cases h1 : m = 1
  · subst h1
    go_enter Try.func37, Try.ntmps37
    go_wp2
    go_ret
    exact ⟨_, rfl, own_of_block (cap := 2) (at_new w _) (Nat.le_refl _) (Nat.le_refl _) (by decide) rfl, Ext.out⟩
  by_cases h2 : m = 2
  · subst h2
    go_enter Try.func37, Try.ntmps37
    go_wp2
    go_ret
    exact ⟨_, rfl, own_of_block (cap := 3) (at_new w _) (Nat.le_refl _) (Nat.le_refl _) (by decide) rfl, Ext.out⟩
  by_cases h3 : m = 3
  · subst h3
    go_enter Try.func37, Try.ntmps37
    go_wp2
    go_ret
    exact ⟨_, rfl, own_of_block (cap := 2) (at_new w _) (Nat.le_refl _) (Nat.le_refl _) (by decide) rfl, Ext.out⟩
  have HL : Hid (authL m = []) := by unfold Hid authL; simp [h1, h2, h3]
  rw [HL.out]
  go_enter Try.func37, Try.ntmps37
  go_wp2
  go_ret
  exact ⟨_, rfl, own_nil _ _ _ _, Below.refl _ _⟩
theorem rdefault_any (w : World) : Calls Try.prog 41 #[] w fun e w' => e = .returned (.agg #[.int .i64 1500, .int .i64 4294967295, .int .i64 0, .int .u32 0, .bool false, .bool false]) ∧ Below w.heap.size w w' := by
  go_enter Try.func41, Try.ntmps41
  go_wp2
  exact bodyPost_ret (v := .agg #[.int .i64 1500, .int .i64 4294967295, .int .i64 0, .int .u32 0, .bool false, .bool false]) (by simp [results, Try.results41, go_sem]) rfl ⟨rfl, Ext.out⟩
theorem ldefault_any (w : World) : Calls Try.prog 40 #[] w fun e w' => e = .returned (.agg #[.int .i64 1500, .int .i64 4294967295, .int .i64 0, .int .u32 0, .bool false, .bool false]) ∧ Below w.heap.size w w' := by
  go_enter Try.func40, Try.ntmps40
  go_wp2
  exact bodyPost_ret (v := .agg #[.int .i64 1500, .int .i64 4294967295, .int .i64 0, .int .u32 0, .bool false, .bool false]) (by simp [results, Try.results40, go_sem]) rfl ⟨rfl, Ext.out⟩
end Go.Proofs.Ytodibldfolognaa
