/-
  What Read, Want, Reject, Nak and Done of ipv6cp and of its reference tell. Conditions: the list is no longer than the model's memory.
-/
import Derived.Test.YtmopdimokoogmaaIp6M
namespace Go.Proofs.Ytmopdimokoogmaa
open Go.RowKit
set_option linter.unusedVariables false
set_option linter.unusedSimpArgs false

def readF (os : List (Int × List Int)) : Int × Bool × Int :=
  match os with
  | [] => (0, false, 0)
  | [o] => if idOk o then (idN o, true, 0) else (0, false, 91)
  | _ => (0, false, 91)
theorem readF_many {os : List (Int × List Int)} (h : 2 ≤ os.length) : readF os = (0, false, 91) := by
  match os, h with
  | _ :: _ :: _, _ => rfl
theorem readF_yes {o : Int × List Int} (h : idOk o = true) : readF [o] = (idN o, true, 0) := by unfold readF; simp [h]
theorem readF_no {o : Int × List Int} (h : idOk o = false) : readF [o] = (0, false, 91) := by unfold readF; simp [h]
def ReadTells (os : List (Int × List Int)) (w : World) (e : Ending) (w' : World) : Prop := e = .returned (.tuple #[.int .u64 (readF os).1, .bool (readF os).2.1, .int .i64 (readF os).2.2]) ∧ Below w.heap.size w w'
theorem readTells_of {os : List (Int × List Int)} {w w' : World} {a : Int} {b : Bool} {c : Int} (h : readF os = (a, b, c)) (hb : Below w.heap.size w w') : ReadTells os w (.returned (.tuple #[.int .u64 a, .bool b, .int .i64 c])) w' := ⟨by rw [h], hb⟩
theorem one_of_len {vs : List OV} (h : vs.length = 1) : ∃ v, vs = [v] := by
  match vs, h with
  | [v], _ => exact ⟨v, rfl⟩
set_option maxHeartbeats 1000000 in
theorem rread17_any (A : Option Addr) (n c : Nat) (vs : List OV) (hn : vs.length = n) (hn' : n ≤ 4398046511104) (w : World) (hx : Cells w A (flat vs)) (gx : Good w vs) :
    Calls Try.prog 19 #[.slice A n c] w (ReadTells (vs.map OV.opt) w) := by
  have Hn := Lib.hid hn
  have HX := Lib.hid hx
  have GX := Lib.hid gx
  by_cases h0 : n = 0
  · have hv : vs = [] := List.eq_nil_of_length_eq_zero (by omega)
    subst h0 hv
    clear hn hx gx
    go_enter Try.func19, Try.ntmps19
    go_wp2
    go_ret3
    exact readTells_of rfl Ext.out
  by_cases h1 : n = 1
  · subst h1
    clear hn hx gx h0
    obtain ⟨v, rfl⟩ := one_of_len Hn.out
    obtain ⟨ad, rfl, hc0, hc1⟩ := opt_at (k := 0) HX.out rfl
    have GV := Lib.hid (GX.out v (by simp))
    obtain ⟨t, VA, vn, vc, xs⟩ := v
    have hc0' : w.cell? ad = some (.int .i64 t) := hc0
    have hc1' : w.cell? ⟨ad.block, ad.off + 1, none⟩ = some (.slice VA vn vc) := hc1
    clear hc0 hc1
    by_cases ht : t = 1
    · subst ht
      by_cases h8 : vn = 8
      · subst h8
        have HI := Lib.hid (readF_yes (idOk_yes GV.out.1))
        have HN := Lib.hid (idN_yes (idOk_yes GV.out.1))
        go_enter Try.func19, Try.ntmps19
        go_wp2_with fail
        refine (number17_any 1 VA 8 vc xs GV.out.1 rfl GV.out.2.2.2.1 _ (by exact GV.out.2.2.2.2.ext)).mono ?_
        rintro e w1 ⟨rfl, hb1⟩
        have S1 : Step w1 _ := ⟨hb1⟩
        clear hb1
        go_wp2_with fail
        go_ret3
        exact readTells_of (by show readF [(1, xs)] = _; rw [HI.out, HN.out]) Ext.out
      · have h8' : ((vn : Int) != 8) = true := by simp only [bne_iff_ne, ne_eq]; omega
        have HI := Lib.hid (readF_no (idOk_len (t := 1) (xs := xs) (by have := GV.out.1; simp only at this; omega)))
        clear h8
        go_enter Try.func19, Try.ntmps19
        go_wp2
        go_ret3
        exact readTells_of HI.out Ext.out
    · have ht' : (t != 1) = true := by simpa using ht
      have HI := Lib.hid (readF_no (idOk_type (xs := xs) ht))
      clear ht
      go_enter Try.func19, Try.ntmps19
      go_wp2
      go_ret3
      exact readTells_of HI.out Ext.out
  · have h0' : ((n : Int) == 0) = false := by rw [beq_eq_false_iff_ne]; omega
    have h1' : (1 : Int) < (n : Int) := by omega
    have HI := Lib.hid (readF_many (os := vs.map OV.opt) (by rw [List.length_map]; omega))
    clear hn hx gx h0 h1
    go_enter Try.func19, Try.ntmps19
    go_wp2
    go_ret3
    exact readTells_of HI.out Ext.out

set_option maxHeartbeats 1000000 in
theorem read17_any (A : Option Addr) (n c : Nat) (vs : List OV) (hn : vs.length = n) (hn' : n ≤ 4398046511104) (w : World) (hx : Cells w A (flat vs)) (gx : Good w vs) :
    Calls Try.prog 23 #[.slice A n c] w (ReadTells (vs.map OV.opt) w) := by
  have Hn := Lib.hid hn
  have HX := Lib.hid hx
  have GX := Lib.hid gx
  by_cases h0 : n = 0
  · have hv : vs = [] := List.eq_nil_of_length_eq_zero (by omega)
    subst h0 hv
    clear hn hx gx
    go_enter Try.func23, Try.ntmps23
    go_wp2
    go_ret3
    exact readTells_of rfl Ext.out
  by_cases h1 : n = 1
  · subst h1
    clear hn hx gx h0
    obtain ⟨v, rfl⟩ := one_of_len Hn.out
    obtain ⟨ad, rfl, hc0, hc1⟩ := opt_at (k := 0) HX.out rfl
    have GV := Lib.hid (GX.out v (by simp))
    obtain ⟨t, VA, vn, vc, xs⟩ := v
    have hc0' : w.cell? ad = some (.int .i64 t) := hc0
    have hc1' : w.cell? ⟨ad.block, ad.off + 1, none⟩ = some (.slice VA vn vc) := hc1
    clear hc0 hc1
    rcases hI : idOk (t, xs) with _ | _
    · have HI := Lib.hid hI
      have HR := Lib.hid (readF_no hI)
      clear hI
      go_enter Try.func23, Try.ntmps23
      go_wp2_with fail
      refine (askedId_any t VA vn vc xs GV.out.1 GV.out.2.2.2.1 _ (by exact GV.out.2.2.2.2.ext)).mono ?_
      rintro e w1 ⟨rfl, hb1⟩
      have S1 : Step w1 _ := ⟨hb1⟩
      clear hb1
      rw [HI.out]
      go_wp2_with fail
      go_ret3
      exact readTells_of HR.out Ext.out
    · have HI := Lib.hid hI
      have HR := Lib.hid (readF_yes hI)
      clear hI
      go_enter Try.func23, Try.ntmps23
      go_wp2_with fail
      refine (askedId_any t VA vn vc xs GV.out.1 GV.out.2.2.2.1 _ (by exact GV.out.2.2.2.2.ext)).mono ?_
      rintro e w1 ⟨rfl, hb1⟩
      have S1 : Step w1 _ := ⟨hb1⟩
      clear hb1
      rw [HI.out]
      go_wp2_with fail
      go_ret3
      exact readTells_of HR.out Ext.out
  · have h0' : ((n : Int) == 0) = false := by rw [beq_eq_false_iff_ne]; omega
    have h1' : (1 : Int) < (n : Int) := by omega
    have HR := Lib.hid (readF_many (os := vs.map OV.opt) (by rw [List.length_map]; omega))
    obtain ⟨v, hv, hvm⟩ := optD (vs := vs) (k := 0) (by omega)
    obtain ⟨ad, rfl, hc0, hc1⟩ := opt_at (k := 0) HX.out hv
    have GV := Lib.hid (GX.out v hvm)
    clear hn hx gx h0 h1 hv hvm
    obtain ⟨t, VA, vn, vc, xs⟩ := v
    have hc0' : w.cell? ad = some (.int .i64 t) := hc0
    have hc1' : w.cell? ⟨ad.block, ad.off + 1, none⟩ = some (.slice VA vn vc) := hc1
    clear hc0 hc1
    have hnn : 0 < n := by omega
    go_enter Try.func23, Try.ntmps23
    go_wp2_with fail
    refine (askedId_any t VA vn vc xs GV.out.1 GV.out.2.2.2.1 _ (by exact GV.out.2.2.2.2.ext)).mono ?_
    rintro e w1 ⟨rfl, hb1⟩
    have S1 : Step w1 _ := ⟨hb1⟩
    clear hb1
    generalize idN (t, xs) = N at *
    generalize idOk (t, xs) = b at *
    cases b
    all_goals go_wp2_with fail
    all_goals go_ret3
    all_goals exact readTells_of HR.out Ext.out

def doneF (a b : Int) : Int := if a = 0 ∨ b = 0 then 150 else if a = b then 6 else 0
set_option maxHeartbeats 400000 in
theorem done17_any (a b : Int) (w : World) : Calls Try.prog 31 #[.int .u64 a, .int .u64 b] w fun e w' => e = .returned (.int .i64 (doneF a b)) ∧ w = w' := by
  by_cases h0 : a = 0
  · subst h0
    have HD : Hid (doneF 0 b = 150) := by unfold Hid doneF; simp
    go_enter Try.func31, Try.ntmps31
    go_wp2
    go_ret
    exact ⟨ret_num HD.out.symm, rfl⟩
  by_cases h1 : b = 0
  · subst h1
    have HD : Hid (doneF a 0 = 150) := by unfold Hid doneF; simp
    have h0' : (a == 0) = false := by simpa using h0
    clear h0
    go_enter Try.func31, Try.ntmps31
    go_wp2
    go_ret
    exact ⟨ret_num HD.out.symm, rfl⟩
  have h0' : (a == 0) = false := by simpa using h0
  have h1' : (b == 0) = false := by simpa using h1
  by_cases h2 : a = b
  · subst h2
    have HD : Hid (doneF a a = 6) := by unfold Hid doneF; simp [h0]
    clear h0 h1
    go_enter Try.func31, Try.ntmps31
    go_wp2
    go_ret
    exact ⟨ret_num HD.out.symm, rfl⟩
  · have h2' : (a == b) = false := by simpa using h2
    have HD : Hid (doneF a b = 0) := by unfold Hid doneF; simp [h0, h1, h2]
    clear h0 h1 h2
    go_enter Try.func31, Try.ntmps31
    go_wp2
    go_ret
    exact ⟨ret_num HD.out.symm, rfl⟩
set_option maxHeartbeats 400000 in
theorem rdone17_any (a b : Int) (w : World) : Calls Try.prog 40 #[.int .u64 a, .int .u64 b] w fun e w' => e = .returned (.int .i64 (doneF a b)) ∧ w = w' := by
  by_cases h0 : a = 0
  · subst h0
    have HD : Hid (doneF 0 b = 150) := by unfold Hid doneF; simp
    go_enter Try.func40, Try.ntmps40
    go_wp2
    go_ret
    exact ⟨ret_num HD.out.symm, rfl⟩
  by_cases h1 : b = 0
  · subst h1
    have HD : Hid (doneF a 0 = 150) := by unfold Hid doneF; simp
    have h0' : (a == 0) = false := by simpa using h0
    clear h0
    go_enter Try.func40, Try.ntmps40
    go_wp2
    go_ret
    exact ⟨ret_num HD.out.symm, rfl⟩
  have h0' : (a == 0) = false := by simpa using h0
  have h1' : (b == 0) = false := by simpa using h1
  by_cases h2 : a = b
  · subst h2
    have HD : Hid (doneF a a = 6) := by unfold Hid doneF; simp [h0]
    clear h0 h1
    go_enter Try.func40, Try.ntmps40
    go_wp2
    go_ret
    exact ⟨ret_num HD.out.symm, rfl⟩
  · have h2' : (a == b) = false := by simpa using h2
    have HD : Hid (doneF a b = 0) := by unfold Hid doneF; simp [h0, h1, h2]
    clear h0 h1 h2
    go_enter Try.func40, Try.ntmps40
    go_wp2
    go_ret
    exact ⟨ret_num HD.out.symm, rfl⟩

def wantF (id draw : Int) : Int := if id ≠ 0 then id else givF draw 0
set_option maxHeartbeats 400000 in
theorem want17_any (cf : Array Value) (id draw : Int) (hcf : cf[15]? = some (.int .u64 id)) (h2 : 0 ≤ draw) (h2' : draw < 18446744073709551616) (w : World) :
    Calls Try.prog 24 #[.agg cf, .int .u64 draw] w fun e w' => e = .returned (.int .u64 (wantF id draw)) ∧ Below w.heap.size w w' := by
  have hmf : (w.alloc (.cells cf 25)).cell? ⟨w.heap.size, 15, none⟩ = some (.int .u64 id) := (at_cell (at_new w (.cells cf 25)) 15).trans hcf
  clear hcf
  by_cases h0 : id = 0
  · subst h0
    have HD : Hid (wantF 0 draw = givF draw 0) := by unfold Hid wantF; simp
    go_enter Try.func24, Try.ntmps24
    go_wp2_with fail
    refine (given_any draw 0 h2 h2' (by omega) (by omega) _).mono ?_
    rintro e w1 ⟨rfl, rfl⟩
    go_wp2_with fail
    go_ret
    exact ⟨ret_num HD.out.symm, Ext.out⟩
  · have HD : Hid (wantF id draw = id) := by unfold Hid wantF; simp [h0]
    have h0' : (id != 0) = true := by simpa using h0
    clear h0
    go_enter Try.func24, Try.ntmps24
    go_wp2
    go_ret
    exact ⟨ret_num HD.out.symm, Ext.out⟩
set_option maxHeartbeats 400000 in
theorem rwant17_any (cf : Array Value) (id draw : Int) (hcf : cf[15]? = some (.int .u64 id)) (h2 : 0 ≤ draw) (h2' : draw < 18446744073709551616) (w : World) :
    Calls Try.prog 25 #[.agg cf, .int .u64 draw] w fun e w' => e = .returned (.int .u64 (wantF id draw)) ∧ Below w.heap.size w w' := by
  have hmf : (w.alloc (.cells cf 25)).cell? ⟨w.heap.size, 15, none⟩ = some (.int .u64 id) := (at_cell (at_new w (.cells cf 25)) 15).trans hcf
  clear hcf
  by_cases h0 : id = 0
  · subst h0
    have HD : Hid (wantF 0 draw = givF draw 0) := by unfold Hid wantF; simp
    go_enter Try.func25, Try.ntmps25
    go_wp2_with fail
    refine (rgiven_any draw 0 h2 h2' (by omega) (by omega) _).mono ?_
    rintro e w1 ⟨rfl, rfl⟩
    go_wp2_with fail
    go_ret
    exact ⟨ret_num HD.out.symm, Ext.out⟩
  · have HD : Hid (wantF id draw = id) := by unfold Hid wantF; simp [h0]
    have h0' : (id != 0) = true := by simpa using h0
    clear h0
    go_enter Try.func25, Try.ntmps25
    go_wp2
    go_ret
    exact ⟨ret_num HD.out.symm, Ext.out⟩
end Go.Proofs.Ytmopdimokoogmaa
