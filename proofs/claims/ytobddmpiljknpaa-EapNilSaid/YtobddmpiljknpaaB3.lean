/-
  What pap's texts need beyond the base: rows as results, stores of whole structs, a world but for one block. No condition: nothing here speaks of one function.
  pap and secret: texts; what secret.name, pap.plain and the reference's tell. Conditions: the texts are no longer than the model's memory.
  ref06.Name: is it a name? Condition: the text's size.
  secret.Right: what is wrong of a secret; a set of numbers that a call makes. Conditions: texts and addresses are no longer than the model's memory.
  Secrets in memory; pap.right, slices.Clone of numbers, secret.own. Conditions: texts and addresses are no longer than the model's memory.
  secret.wrong: the first secret at fault. Conditions: sizes.
  secret.New: a table of secrets. Conditions: sizes.
  secret.Find: the best line. Conditions: sizes.
  ref06.Right: what is wrong of a secret. Conditions: sizes.
  secret.Table.Find, Check; pap.NewServer. Conditions: sizes.
  ref06: fits, Find, Check, Fault. Conditions: sizes.
  What an argument's reading gives of lists of secrets; what is checked hangs on the secrets' texts alone. No condition.
-/
import Derived.Test.YtobddmpiljknpaaB1
import Derived.Test.YtobddmpiljknpaaB2
import Derived.Deep.WholeRow
import Derived.Recover
import Derived.Lib.ConvBytes
import Derived.Lib.AppendStr
import Derived.Maps.Own
import Derived.Deep.DeepCutAuto
import Derived.Maps.Views
import Derived.Deep.CutBlock
namespace Go.Proofs.Ytobddmpiljknpaa
open Go.RowKit
set_option linter.unusedVariables false
set_option linter.unusedSimpArgs false

theorem own_setRow {W : World} {base n size g : Nat} {e : TypeId} {v : Value} {cs : List Value} (h : W.ownsRow base e size v n cs) (hne : v.ownBlock ≠ some g) (row : Array Value) : (W.setRow g row).ownsRow base e size v n cs :=
  h.kept (row := some g) ⟨rfl, rfl, rfl, by simp [World.setRow], fun k _ hk => setRow_other _ _ _ _ (fun e => hk (by rw [e]))⟩ (.inr hne)
def ReplyTells (r : (Int × Int) × List Int × Int) (w : World) (e : Ending) (w' : World) : Prop :=
  ∃ A c, e = .returned (.tuple #[.agg #[.int .i64 r.1.1, .int .i64 r.1.2, .slice A r.2.1.length c], .int .i64 r.2.2]) ∧ w'.ownsRow w.heap.size 5 1 (.slice A r.2.1.length c) r.2.1.length (nums .u8 r.2.1) ∧ Below w.heap.size w w'
abbrev zPk : Obj := .cells #[.int .i64 0, .int .i64 0, .slice none 0 0] 24
theorem results_cell_row3 {P : Program} {fn : Func} {p q r : Tmp} {ty : TypeId} (h : fn.results = #[.cell p ty, .tmp q, .tmp r]) (tmps : Array Value) (w : World) (g : Nat) (t : TypeId) (cs : Array Value) (fr : Nat × Nat) (d : TypeDesc) (v u : Value)
    (hp : tmps.getD p undef = .pointer (some ⟨g, 0, none⟩)) (hq : tmps.getD q undef = v) (hr : tmps.getD r undef = u) (hg : w.heap[g]? = some (.cells cs t fr))
    (hu : P.underlying ty = some d) (hd : (match d with | .struct _ | .array _ _ => true | _ => false) = true) (hi : (P.info? ty).map (·.size) = some cs.size) :
    (results fn tmps).run P w = .ok (.tuple #[.agg cs, v, u]) w := by
  have hp' : tmps[p]?.getD undef = .pointer (some ⟨g, 0, none⟩) := by simpa using hp
  have hq' : tmps[q]?.getD undef = v := by simpa using hq
  have hr' : tmps[r]?.getD undef = u := by simpa using hr
  simp [results, h, hp', hq', hr', asAddr, run_loadVar_row w g t ty cs fr d hg hu hd hi]
structure But (w w' : World) (B : Nat) : Prop where
  os : w'.os = w.os
  tape : w'.tape = w.tape
  output : w'.output = w.output
  size : w.heap.size ≤ w'.heap.size
  block : ∀ k, k < w.heap.size → k ≠ B → w'.heap[k]? = w.heap[k]?
section
variable {w0 w w1 w2 : World} {B g : Nat} {o : Obj}
theorem But.of [h : Ext w w1] : But w w1 B := ⟨h.out.os, h.out.tape, h.out.output, h.out.size, fun k hk _ => h.out.block k hk⟩
theorem But.set (h : But w w1 B) (j : Nat) (v : Value) : But w (w1.setCell ⟨B, j, none⟩ v) B :=
  ⟨h.os, h.tape, h.output, by have := h.size; simp [World.setCell]; omega, fun k hk hB => (Below.heap_setCell _ _ _ _ hB).trans (h.block k hk hB)⟩
theorem But.at (h : But w w1 B) (hg : g ≠ B) (k : w.heap[g]? = some o) : w1.heap[g]? = some o := (h.block g (at_lt k) hg).trans k
theorem But.ext (h : But w1 w2 B) (e : Ext w w1) (hB : w.heap.size ≤ B) : Ext w w2 :=
  ⟨e.out.trans ⟨h.os, h.tape, h.output, h.size, fun k hk => h.block k (Nat.lt_of_lt_of_le hk e.out.size) (by omega)⟩⟩
end
theorem run_loadVar_int {P : Program} {w : World} {a : Addr} {v : Value} {ty : TypeId} {k : IntKind} (hu : P.underlying ty = some (.int k)) (hc : w.cell? a = some v) : (loadVar ty a).run P w = .ok v w := by
  simp [loadVar, isAgg, Go.underlying, go_sem, hu, hc]
def pkSame (c1 i1 : Int) (xs : List Int) (c2 i2 : Int) (ys : List Int) : Bool := decide (c1 = c2 ∧ i1 = i2 ∧ xs = ys)
theorem pkSame_self (a b : Int) (xs : List Int) : pkSame a b xs a b xs = true := by simp [pkSame]
theorem take_snoc {α : Type} {xs : List α} {k : Nat} {x : α} (h : xs[k]? = some x) : xs.take (k + 1) = xs.take k ++ [x] := by rw [List.take_add_one, h]; rfl
end Go.Proofs.Ytobddmpiljknpaa

namespace Go.Proofs.Ytobddmpiljknpaa
open Go.RowKit
set_option linter.unusedVariables false
set_option linter.unusedSimpArgs false

/-- What is answered. -/
def okN (c : Int) : Bool := decide (32 ≤ c ∧ c ≤ 126 ∧ c ≠ 34 ∧ c ≠ 92)
def okP (c : Int) : Bool := decide (32 ≤ c ∧ c ≤ 126)
def nameF (xs : List Int) : Bool := decide (1 ≤ xs.length ∧ xs.length ≤ 64) && xs.all okN
def plainF (xs : List Int) : Bool := xs.all okP
theorem all_take_succ {f : Int → Bool} {xs : List Int} {k : Nat} (h : (xs.take k).all f = true) (hk : k < xs.length) (hx : f (xs.getD k 0) = true) : (xs.take (k + 1)).all f = true := by
  rw [List.getD_eq_getElem?_getD, List.getElem?_eq_getElem hk] at hx
  rw [List.take_add_one, List.getElem?_eq_getElem hk, List.all_append, h]
  simpa using hx
theorem all_not {f : Int → Bool} {xs : List Int} {k : Nat} (hk : k < xs.length) (hx : f (xs.getD k 0) = false) : xs.all f = false := by
  rw [List.getD_eq_getElem?_getD, List.getElem?_eq_getElem hk] at hx
  rw [List.all_eq_false]
  exact ⟨xs[k], List.getElem_mem _, by simpa using hx⟩
set_option maxHeartbeats 4000000 in
theorem name_any (s : ByteArray) (hs : s.size ≤ 140737488355328) (w : World) : Calls Try.prog 125 #[.string s] w fun e w' => e = .returned (.bool (nameF (strB s))) ∧ Below w.heap.size w w' := by
  by_cases l1 : s.size < 1
  · have HF : Hid (nameF (strB s) = false) := by unfold Hid nameF; rw [decide_eq_false (by rw [strB_len]; omega)]; rfl
    have l1I : (s.size : Int) < 1 := by omega
    go_enter Try.func125, Try.ntmps125
    go_wp2
    go_ret
    exact ⟨ret_bool HF.out.symm, Ext.out⟩
  by_cases l2 : 64 < s.size
  · have HF : Hid (nameF (strB s) = false) := by unfold Hid nameF; rw [decide_eq_false (by rw [strB_len]; omega)]; rfl
    have l1I : ¬ (s.size : Int) < 1 := by omega
    have l2I : 64 < (s.size : Int) := by omega
    go_enter Try.func125, Try.ntmps125
    go_wp2
    go_ret
    exact ⟨ret_bool HF.out.symm, Ext.out⟩
  obtain ⟨w1, c1, hcv, hsc, hC1, hB1, hZ1⟩ := conv_str (P := Try.prog) w 9 22 5 s Try.underlying9 Try.underlying22 Try.underlying5
  have HL := Lib.hid (strB_len s)
  have S1 : Step w1 w := ⟨hB1⟩
  have HBY := Lib.hid (strB_byt s)
  obtain ⟨BA, hBA⟩ : ∃ A : Option Addr, some ⟨w.heap.size, 0, none⟩ = A := ⟨_, rfl⟩
  rw [hBA] at hcv hC1
  have HC := Lib.hid hC1
  clear hC1 hB1 hZ1 hsc hBA
  obtain ⟨xs, hxs⟩ : ∃ xs, strB s = xs := ⟨_, rfl⟩
  rw [hxs] at HL HC HBY ⊢
  clear hxs
  obtain ⟨n, hn⟩ : ∃ n, s.size = n := ⟨_, rfl⟩
  rw [hn] at hs hcv HL
  have HN := Lib.hid hn
  clear hn
  rw [HN.out] at l1 l2
  have HNF : Hid (nameF xs = xs.all okN) := by unfold Hid nameF; rw [decide_eq_true (by rw [HL.out]; omega)]; rfl
  have HNI : Hid ((s.size : Int) = n) := congrArg _ HN.out
  have l1I : ¬ (s.size : Int) < 1 := by rw [HNI.out]; omega
  have l2I : ¬ 64 < (s.size : Int) := by rw [HNI.out]; omega
  go_enter Try.func125, Try.ntmps125
  go_wp2
  clear hcv
  go_loopw [16] (fun i wr => ∃ k : Nat, i = .int .i64 k ∧ k ≤ n ∧ Hid ((xs.take k).all okN = true) ∧ Hid (Ext w1 wr)) (fun i _ => n - (intOf i).toNat)
  case atStart => exact ⟨0, rfl, by omega, rfl, (inferInstance : Ext w1 w1)⟩
  case round =>
    obtain ⟨k, rfl, hk, HA, HW⟩ := hrel
    have Sr : Step wr w1 := ⟨HW.out.out⟩
    by_cases hlt : k < n
    · obtain ⟨ad, rfl, hc⟩ := (HC.out.ext (w' := wr)).num (by rw [HL.out]; exact hlt)
      have HLT := Lib.hid (show k < xs.length by rw [HL.out]; exact hlt)
      obtain ⟨X, hX⟩ : ∃ X, xs.getD k 0 = X := ⟨_, rfl⟩
      rw [hX] at hc
      have HX := Lib.hid hX
      clear hX
      by_cases p1 : X < 32
      · skip
        have HF : Hid (nameF xs = false) := HNF.out.trans (all_not HLT.out (by rw [HX.out]; unfold okN; exact decide_eq_false (by omega)))
        go_wp2
        go_ret
        exact ⟨ret_bool HF.out.symm, Ext.out⟩
      by_cases p2 : 126 < X
      · skip
        have HF : Hid (nameF xs = false) := HNF.out.trans (all_not HLT.out (by rw [HX.out]; unfold okN; exact decide_eq_false (by omega)))
        go_wp2
        go_ret
        exact ⟨ret_bool HF.out.symm, Ext.out⟩
      by_cases p3 : X = 34
      · subst p3
        have HF : Hid (nameF xs = false) := HNF.out.trans (all_not HLT.out (by rw [HX.out]; rfl))
        go_wp2
        go_ret
        exact ⟨ret_bool HF.out.symm, Ext.out⟩
      have p3' : (X == 34) = false := by simpa using p3
      by_cases p4 : X = 92
      · subst p4
        have HF : Hid (nameF xs = false) := HNF.out.trans (all_not HLT.out (by rw [HX.out]; rfl))
        go_wp2
        go_ret
        exact ⟨ret_bool HF.out.symm, Ext.out⟩
      have p4' : (X == 92) = false := by simpa using p4
      have HA2 := Lib.hid (all_take_succ HA.out HLT.out (by rw [HX.out]; unfold okN; exact decide_eq_true (by omega)))
      clear p3 p4
      go_wp2
      go_roundw
      case rel => exact ⟨k + 1, by go_num, by omega, HA2.out, (inferInstance : Ext w1 _)⟩
      case measure => simp [intOf]; omega
    · obtain rfl : k = n := by omega
      have HF : Hid (nameF xs = true) := by
        have h1 := HA.out
        rw [List.take_of_length_le (by rw [HL.out]; exact Nat.le_refl _)] at h1
        exact HNF.out.trans h1
      go_wp2
      go_ret
      exact ⟨ret_bool HF.out.symm, Ext.out⟩
end Go.Proofs.Ytobddmpiljknpaa

namespace Go.Proofs.Ytobddmpiljknpaa
open Go.RowKit
set_option linter.unusedVariables false
set_option linter.unusedSimpArgs false

set_option maxHeartbeats 4000000 in
theorem rname_any (s : ByteArray) (hs : s.size ≤ 140737488355328) (w : World) : Calls Try.prog 42 #[.string s] w fun e w' => e = .returned (.bool (nameF (strB s))) ∧ w = w' := by
  have HL := Lib.hid (strB_len s)
  have HB := Lib.hid (strB_byt s)
  by_cases l1 : s.toList = []
  · have HF : Hid (nameF (strB s) = false) := by
      unfold Hid nameF
      rw [show strB s = [] by unfold strB; rw [← Lib.toList_data, l1]; rfl]
      rfl
    go_enter Try.func42, Try.ntmps42
    go_wp2
    go_ret
    exact ⟨ret_bool HF.out.symm, rfl⟩
  have HN1 : Hid (1 ≤ s.size) := by
    unfold Hid
    rw [← strB_len]
    rcases Nat.eq_zero_or_pos (strB s).length with h | h
    · exact absurd (by rw [Lib.toList_data]; exact List.map_eq_nil_iff.1 (List.eq_nil_of_length_eq_zero h)) l1
    · exact h
  have l1b : (s.toList == []) = false := by simpa using l1
  by_cases l2 : 64 < s.size
  · have HF : Hid (nameF (strB s) = false) := by unfold Hid nameF; rw [decide_eq_false (by rw [strB_len]; omega)]; rfl
    have l2I : 64 < (s.size : Int) := by omega
    go_enter Try.func42, Try.ntmps42
    go_wp2
    go_ret
    exact ⟨ret_bool HF.out.symm, rfl⟩
  have HNF : Hid (nameF (strB s) = (strB s).all okN) := by unfold Hid nameF; rw [decide_eq_true (by have := HN1.out; rw [HL.out]; omega)]; rfl
  have l2I : ¬ 64 < (s.size : Int) := by omega
  go_enter Try.func42, Try.ntmps42
  go_wp2
  go_loopw [13] (fun i wr => ∃ k : Nat, i = .int .i64 k ∧ k ≤ s.size ∧ Hid (((strB s).take k).all okN = true) ∧ w = wr) (fun i _ => s.size - (intOf i).toNat)
  case atStart => exact ⟨0, rfl, by omega, rfl, rfl⟩
  case round =>
    obtain ⟨k, rfl, hk, HA, rfl⟩ := hrel
    by_cases hlt : k < s.size
    · have hI : (k : Int) < (s.size : Int) := by omega
      have HLT := Lib.hid (show k < (strB s).length by rw [HL.out]; exact hlt)
      have HX : Hid ((strB s).getD k 0 = ((s[k]'hlt).toNat : Int)) := by
        unfold Hid strB
        rw [List.getD_eq_getElem?_getD, List.getElem?_map]
        have h2 : k < s.data.toList.length := by rw [Array.length_toList]; exact hlt
        rw [List.getElem?_eq_getElem h2]
        rfl
      by_cases p1 : ((s[k]'hlt).toNat : Int) < 32
      · skip
        have HF : Hid (nameF (strB s) = false) := HNF.out.trans (all_not HLT.out (by rw [HX.out]; unfold okN; exact decide_eq_false (by omega)))
        go_wp2
        go_ret
        exact ⟨ret_bool HF.out.symm, rfl⟩
      by_cases p2 : 126 < ((s[k]'hlt).toNat : Int)
      · skip
        have HF : Hid (nameF (strB s) = false) := HNF.out.trans (all_not HLT.out (by rw [HX.out]; unfold okN; exact decide_eq_false (by omega)))
        go_wp2
        go_ret
        exact ⟨ret_bool HF.out.symm, rfl⟩
      by_cases p3 : ((s[k]'hlt).toNat : Int) = 34
      · skip
        have HF : Hid (nameF (strB s) = false) := HNF.out.trans (all_not HLT.out (by rw [HX.out]; unfold okN; exact decide_eq_false (by omega)))
        go_wp2
        go_ret
        exact ⟨ret_bool HF.out.symm, rfl⟩
      by_cases p4 : ((s[k]'hlt).toNat : Int) = 92
      · have p3' : (((s[k]'hlt).toNat : Int) == 34) = false := by simpa using p3
        have HF : Hid (nameF (strB s) = false) := HNF.out.trans (all_not HLT.out (by rw [HX.out]; unfold okN; exact decide_eq_false (by omega)))
        go_wp2
        go_ret
        exact ⟨ret_bool HF.out.symm, rfl⟩
      have p3' : (((s[k]'hlt).toNat : Int) == 34) = false := by simpa using p3
      have p4' : (((s[k]'hlt).toNat : Int) == 92) = false := by simpa using p4
      have HA2 := Lib.hid (all_take_succ HA.out HLT.out (by rw [HX.out]; unfold okN; exact decide_eq_true (by omega)))
      go_wp2
      go_roundw
      case rel => exact ⟨k + 1, by go_num, by omega, HA2.out, trivial⟩
      case measure => simp [intOf]; omega
    · obtain rfl : k = s.size := by omega
      have HF : Hid (nameF (strB s) = true) := by
        have h1 := HA.out
        rw [List.take_of_length_le (by rw [HL.out]; exact Nat.le_refl _)] at h1
        exact HNF.out.trans h1
      go_wp2
      go_ret
      exact ⟨ret_bool HF.out.symm, rfl⟩
end Go.Proofs.Ytobddmpiljknpaa

namespace Go.Proofs.Ytobddmpiljknpaa
open Go.RowKit
set_option linter.unusedVariables false
set_option linter.unusedSimpArgs false

/-- A set of numbers. -/
def SetIs (w : World) (b n : Nat) (xs : List Int) : Prop := ∃ D : DataW Unit, w.ownsMap Try.prog 2 (plainElem Try.prog 4) b n D ∧ Maps.IsMap D ∧ ∀ k, D.atKey (.int .i64 k) (.lit (.bool false)) = .lit (.bool (decide (k ∈ xs)))
theorem i64_keyed : Maps.Keyed Try.prog 2 := Maps.int_keyed Try.underlying2
theorem set_made (w : World) : SetIs (w.alloc (.map #[] 0)) w.heap.size 0 [] :=
  ⟨_, World.ownsMap_made _ _ _ _, ⟨_, rfl⟩, fun k => rfl⟩
theorem plain_bool_inv {v : Value} {x : Bool} {ps : List MemPlace} (h : plainElem (H := Unit) Try.prog 4 v = some (.lit (.bool x), ps)) : v = .bool x := by
  cases v <;> simp [plainElem, Try.underlying4] at h
  rw [h.1]
theorem set_look {w : World} {b n : Nat} {xs : List Int} (h : SetIs w b n xs) (a : Int) (ha : (Lit.int .i64 a).wf = true) : (Instr.lookup 185 (.map (some b)) (.int .i64 a) false).run Try.prog w = .ok (.bool (decide (a ∈ xs))) w := by
  obtain ⟨D, ho, _, hat⟩ := h
  obtain ⟨v, ps, hrun, hv⟩ := ho.lookup i64_keyed Try.underlying185 (z := .bool false) (by kernel_rfl) (plainElem_bool Try.underlying4 false) (Maps.keyOf_int_mk Try.underlying2 ha)
  rw [hat] at hv
  rw [hrun, plain_bool_inv hv]
theorem set_put {w : World} {b n : Nat} {xs : List Int} {ops : Array Oper} {rest : List Oper} {o : Oper} {a : Act} {Q : Exit → Act → World → Prop} (hg : o.guard = none) (m x v : Operand) (hop : o.op = Op.mapUpdate 185 m x v)
    (hm : a.eval m = .map (some b)) (h : SetIs w b n xs) (hn : n < maxLen) (k : Int) (hx : a.eval x = .int .i64 k) (hv : a.eval v = .bool true) (hk : (Lit.int .i64 k).wf = true)
    (hK : ∀ w', SetIs w' b (n + 1) (k :: xs) → w.grownBy w' (some b) → wpList Try.prog ops Q rest (a.put o.dst undef) w') : wpList Try.prog ops Q (o :: rest) a w := by
  obtain ⟨D, ho, hM, hat⟩ := h
  refine wpList_mapUpdate_own w hg m x v 185 hop 2 4 i64_keyed Try.underlying185 _ b n D hm ho hn _ _ _ hx hv (Maps.keyOf_int_mk Try.underlying2 hk) (.lit (.bool true)) [] (plainElem_bool Try.underlying4 true) ?_
  intro w' h1 h2
  refine hK w' ⟨_, h1, hM.put _ _, fun j => ?_⟩ h2
  by_cases hj : j = k
  · subst hj
    rw [Maps.atKey_put_same hM (by unfold WideAt.IsKeyLit; trivial)]
    simp
  · rw [Maps.atKey_put_other (fun h => hj (by injection h)), hat]
    simp [hj]
/-- What is wrong of a secret. -/
def adOk (a : Int) : Bool := decide (1 ≤ a ∧ a ≤ 4294967295)
def rightF (c s d : List Int) (xs : List Int) : Int :=
  if (nameF c && nameF s) = false then 60 else if d ≠ [] ∧ nameF d = false then 52 else if 16 < xs.length then 7 else if xs.all adOk = false then 150 else if decide xs.Nodup = false then 6 else 0
abbrev star : ByteArray := ⟨#[42]⟩
theorem star_name {s : ByteArray} (h : s.toList = [42]) : nameF (strB s) = true := by
  have e : strB s = [42] := by unfold strB; rw [← Lib.toList_data, h]; rfl
  rw [e]
  decide +kernel
theorem strB_inj {s t : ByteArray} (h : strB s = strB t) : s.toList = t.toList := by
  rw [Lib.toList_data, Lib.toList_data]
  refine (List.map_inj_right (f := fun b : UInt8 => (b.toNat : Int)) (fun x y h => UInt8.toNat_inj.1 (Int.ofNat_inj.1 h))).1 h
theorem strB_of {s t : ByteArray} (h : s.toList = t.toList) : strB s = strB t := by
  unfold strB
  rw [← Lib.toList_data, h, Lib.toList_data]
theorem strB_nil {s : ByteArray} : strB s = [] ↔ s = ⟨#[]⟩ := by
  constructor
  · intro h
    have h1 := strB_len s
    rw [h] at h1
    exact ByteArray.ext (Array.eq_empty_of_size_eq_zero h1.symm)
  · rintro rfl; rfl
theorem nodup_snoc {xs : List Int} {k : Nat} (hk : k < xs.length) : decide (xs.take (k + 1)).Nodup = (decide (xs.take k).Nodup && !decide (xs.getD k 0 ∈ xs.take k)) := by
  rw [List.getD_eq_getElem?_getD, List.getElem?_eq_getElem hk, List.take_add_one, List.getElem?_eq_getElem hk]
  simp only [Option.toList, Option.getD_some]
  rw [← decide_not, ← Bool.decide_and]
  refine decide_eq_decide.2 ?_
  rw [List.nodup_append]
  constructor
  · intro ⟨h1, _, h2⟩
    exact ⟨h1, fun h => h2 _ h _ (by simp) rfl⟩
  · intro ⟨h1, h2⟩
    exact ⟨h1, by simp, fun a ha b hb e => by simp at hb; subst hb; subst e; exact h2 ha⟩
theorem set_perm {w : World} {b n : Nat} {xs ys : List Int} (h : SetIs w b n xs) (hp : ∀ k, k ∈ xs ↔ k ∈ ys) : SetIs w b n ys := by
  obtain ⟨D, h1, h2, h3⟩ := h
  exact ⟨D, h1, h2, fun k => by rw [h3]; simp only [hp]⟩
set_option maxRecDepth 100000 in
set_option maxHeartbeats 8000000 in
theorem right_any (c s d : ByteArray) (A : Option Addr) (n cp : Nat) (xs : List Int) (hc : c.size ≤ 140737488355328) (hs : s.size ≤ 140737488355328) (hd : d.size ≤ 140737488355328) (hn : xs.length = n) (w : World) (hx : Cells w A (nums .i64 xs)) :
    Calls Try.prog 106 #[.agg #[.string c, .string s, .string d, .slice A n cp]] w fun e w' => e = .returned (.int .i64 (rightF (strB c) (strB s) (strB d) xs)) ∧ Below w.heap.size w w' := by
  have Hn := Lib.hid hn
  have HX := Lib.hid hx
  clear hn hx
  have hmm := @run_makeMap Try.prog
  go_enter Try.func106, Try.ntmps106
  go_upto_region 1 with fail
  obtain ⟨wb, hwb⟩ : ∃ wb, w.alloc (.cells #[.string c, .string s, .string d, .slice A n cp] 44) = wb := ⟨_, rfl⟩
  have HP : Hid (wb.heap[w.heap.size]? = some (.cells #[.string c, .string s, .string d, .slice A n cp] 44 (0, 0))) := by unfold Hid; rw [← hwb]; exact at_new w _
  have HW : Hid (Ext w wb) := by unfold Hid; rw [← hwb]; exact inferInstance
  rw [hwb]
  clear hwb
  obtain ⟨q1, hq1⟩ : ∃ q1, (!(nameF (strB c) && nameF (strB s))) = q1 := ⟨_, rfl⟩
  have HQ1 := Lib.hid hq1
  clear hq1
  go_cut [7] (fun s wx => s = .bool q1 ∧ Hid (Ext wb wx))
  case first =>
    have p0 : wb.cell? ⟨w.heap.size, 0, none⟩ = some (.string c) := at_cell HP.out 0
    have p1 : wb.cell? ⟨w.heap.size, 1, none⟩ = some (.string s) := at_cell HP.out 1
    have pb0 : (nameF (strB c) = true) ∨ nameF (strB c) = false := by cases nameF (strB c) <;> simp
    have pb1 : (nameF (strB s) = true) ∨ nameF (strB s) = false := by cases nameF (strB s) <;> simp
    by_cases hcs : c.toList = [42]
    · have HA := Lib.hid (star_name hcs)
      by_cases hss : s.toList = [42]
      · have HB := Lib.hid (star_name hss)
        go_wp2_with fail
        go_meet
        case rel => exact ⟨by rw [← HQ1.out, HA.out, HB.out]; rfl, (inferInstance : Ext wb wb)⟩
      · skip
        rcases pb1 with hb | hb
        · skip
          have HB : Hid (nameF (strB s) = true) := hb
          clear hb
          go_wp2_with fail
          refine (name_any s hs _).mono ?_
          rintro e wy ⟨rfl, hby⟩
          rw [HB.out]
          have HXy : Hid (Ext wb wy) := ⟨hby⟩
          have p0 : wy.cell? ⟨w.heap.size, 0, none⟩ = some (.string c) := by have := HXy.out; exact at_cell (at_ext HP.out) 0
          have p1 : wy.cell? ⟨w.heap.size, 1, none⟩ = some (.string s) := by have := HXy.out; exact at_cell (at_ext HP.out) 1
          clear hby
          go_wp2_with fail
          go_meet
          case rel => exact ⟨by rw [← HQ1.out, HA.out, HB.out]; rfl, HXy⟩
        · skip
          have hsb : (s.toList == [42]) = false := by simpa using hss
          have HB : Hid (nameF (strB s) = false) := hb
          clear hb
          go_wp2_with fail
          refine (name_any s hs _).mono ?_
          rintro e wy ⟨rfl, hby⟩
          rw [HB.out]
          have HXy : Hid (Ext wb wy) := ⟨hby⟩
          have p0 : wy.cell? ⟨w.heap.size, 0, none⟩ = some (.string c) := by have := HXy.out; exact at_cell (at_ext HP.out) 0
          have p1 : wy.cell? ⟨w.heap.size, 1, none⟩ = some (.string s) := by have := HXy.out; exact at_cell (at_ext HP.out) 1
          clear hby
          go_wp2_with fail
          go_meet
          case rel => exact ⟨by rw [← HQ1.out, HA.out, HB.out]; rfl, HXy⟩
    · skip
      rcases pb0 with hb | hb
      · skip
        have HA : Hid (nameF (strB c) = true) := hb
        clear hb
        go_wp2_with fail
        refine (name_any c hc _).mono ?_
        rintro e wx ⟨rfl, hby⟩
        rw [HA.out]
        have HXx : Hid (Ext wb wx) := ⟨hby⟩
        have p0 : wx.cell? ⟨w.heap.size, 0, none⟩ = some (.string c) := by have := HXx.out; exact at_cell (at_ext HP.out) 0
        have p1 : wx.cell? ⟨w.heap.size, 1, none⟩ = some (.string s) := by have := HXx.out; exact at_cell (at_ext HP.out) 1
        clear hby
        by_cases hss : s.toList = [42]
        · have HB := Lib.hid (star_name hss)
          go_wp2_with fail
          go_meet
          case rel => exact ⟨by rw [← HQ1.out, HA.out, HB.out]; rfl, HXx⟩
        · skip
          rcases pb1 with hb | hb
          · skip
            have HB : Hid (nameF (strB s) = true) := hb
            clear hb
            go_wp2_with fail
            refine (name_any s hs _).mono ?_
            rintro e wy ⟨rfl, hby⟩
            rw [HB.out]
            have HXy : Hid (Ext wb wy) := Ext.trans_ HXx.out ⟨hby⟩
            have p0 : wy.cell? ⟨w.heap.size, 0, none⟩ = some (.string c) := by have := HXy.out; exact at_cell (at_ext HP.out) 0
            have p1 : wy.cell? ⟨w.heap.size, 1, none⟩ = some (.string s) := by have := HXy.out; exact at_cell (at_ext HP.out) 1
            clear hby
            go_wp2_with fail
            go_meet
            case rel => exact ⟨by rw [← HQ1.out, HA.out, HB.out]; rfl, HXy⟩
          · skip
            have hsb : (s.toList == [42]) = false := by simpa using hss
            have HB : Hid (nameF (strB s) = false) := hb
            clear hb
            go_wp2_with fail
            refine (name_any s hs _).mono ?_
            rintro e wy ⟨rfl, hby⟩
            rw [HB.out]
            have HXy : Hid (Ext wb wy) := Ext.trans_ HXx.out ⟨hby⟩
            have p0 : wy.cell? ⟨w.heap.size, 0, none⟩ = some (.string c) := by have := HXy.out; exact at_cell (at_ext HP.out) 0
            have p1 : wy.cell? ⟨w.heap.size, 1, none⟩ = some (.string s) := by have := HXy.out; exact at_cell (at_ext HP.out) 1
            clear hby
            go_wp2_with fail
            go_meet
            case rel => exact ⟨by rw [← HQ1.out, HA.out, HB.out]; rfl, HXy⟩
      · skip
        have HA : Hid (nameF (strB c) = false) := hb
        clear hb
        go_wp2_with fail
        refine (name_any c hc _).mono ?_
        rintro e wx ⟨rfl, hby⟩
        rw [HA.out]
        have HXx : Hid (Ext wb wx) := ⟨hby⟩
        have p0 : wx.cell? ⟨w.heap.size, 0, none⟩ = some (.string c) := by have := HXx.out; exact at_cell (at_ext HP.out) 0
        have p1 : wx.cell? ⟨w.heap.size, 1, none⟩ = some (.string s) := by have := HXx.out; exact at_cell (at_ext HP.out) 1
        clear hby
        go_wp2_with fail
        go_meet
        case rel => exact ⟨by rw [← HQ1.out, HA.out]; rfl, HXx⟩
  case' rest =>
    obtain ⟨rfl, HX2⟩ := hcut
    generalize wc = y2 at *
    have H2 := Lib.hid (HX2.out)
    have H3 : Hid (Ext w y2) := Ext.trans_ HW.out HX2.out
    clear HX2
    cases q1
    case true =>
      have HF : Hid (rightF (strB c) (strB s) (strB d) xs = 60) := if_pos (by have h := HQ1.out; rw [Bool.not_eq_true'] at h; exact h)
      go_wp2
      go_ret
      exact ⟨by rw [HF.out]; rfl, H3.out.out⟩
    case false =>
      have HG : Hid (∀ r, (if strB d ≠ [] ∧ nameF (strB d) = false then 52 else if 16 < xs.length then 7 else if xs.all adOk = false then 150 else if decide xs.Nodup = false then 6 else 0) = r → rightF (strB c) (strB s) (strB d) xs = r) := fun r h => (if_neg (fun h' => by have h := HQ1.out; rw [h'] at h; cases h)).trans h
      clear HQ1
      obtain ⟨q2, hq2⟩ : ∃ q2, (decide (strB d ≠ []) && !(nameF (strB d))) = q2 := ⟨_, rfl⟩
      have HQ2 := Lib.hid hq2
      clear hq2
      go_upto_region 3 with fail
      go_cut [28] (fun s wx => s = .bool q2 ∧ Hid (Ext y2 wx))
      case first =>
        have p0 : y2.cell? ⟨w.heap.size, 2, none⟩ = some (.string d) := by have := H2.out; exact at_cell (at_ext HP.out) 2
        by_cases hds : d.toList = []
        · have HD0 : Hid (strB d = []) := by unfold Hid strB; rw [← Lib.toList_data, hds]; rfl
          go_wp2_with fail
          go_meet
          case rel => exact ⟨by rw [← HQ2.out, HD0.out]; rfl, (inferInstance : Ext y2 y2)⟩
        · have HD0 : Hid (decide (strB d ≠ []) = true) := decide_eq_true (fun h => hds (by unfold strB at h; rw [Lib.toList_data]; exact List.map_eq_nil_iff.1 h))
          have hdb : (d.toList == []) = false := by simpa using hds
          have pb : (nameF (strB d) = true) ∨ nameF (strB d) = false := by cases nameF (strB d) <;> simp
          rcases pb with hb | hb
          · have HB := Lib.hid hb
            clear hb
            go_wp2_with fail
            refine (name_any d hd _).mono ?_
            rintro e wx ⟨rfl, hby⟩
            rw [HB.out]
            go_wp2_with fail
            go_meet
            case rel => exact ⟨by rw [← HQ2.out, HD0.out, HB.out]; rfl, ⟨hby⟩⟩
          · have HB := Lib.hid hb
            clear hb
            go_wp2_with fail
            refine (name_any d hd _).mono ?_
            rintro e wx ⟨rfl, hby⟩
            rw [HB.out]
            go_wp2_with fail
            go_meet
            case rel => exact ⟨by rw [← HQ2.out, HD0.out, HB.out]; rfl, ⟨hby⟩⟩
      case' rest =>
        obtain ⟨rfl, HX3⟩ := hcut
        generalize wc = y3 at *
        have H4 : Hid (Ext wb y3) := Ext.trans_ H2.out HX3.out
        have H5 : Hid (Ext w y3) := Ext.trans_ H3.out HX3.out
        clear HX3
        cases q2
        case true =>
          have HF : Hid (rightF (strB c) (strB s) (strB d) xs = 52) := HG.out _ (if_pos (by have h := HQ2.out; simpa using h))
          go_wp2
          go_ret
          exact ⟨by rw [HF.out]; rfl, H5.out.out⟩
        case false =>
          have HG2 : Hid (∀ r, (if 16 < xs.length then 7 else if xs.all adOk = false then 150 else if decide xs.Nodup = false then 6 else 0) = r → rightF (strB c) (strB s) (strB d) xs = r) := fun r h => HG.out _ ((if_neg (fun h' => by have h := HQ2.out; rw [decide_eq_true h'.1, h'.2] at h; cases h)).trans h)
          clear HG HQ2
          have p3 : y3.cell? ⟨w.heap.size, 3, none⟩ = some (.slice A n cp) := by have := H4.out; exact at_cell (at_ext HP.out) 3
          by_cases hl : 16 < n
          · have HF : Hid (rightF (strB c) (strB s) (strB d) xs = 7) := HG2.out _ (if_pos (by rw [Hn.out]; exact hl))
            have hl' : 16 < (n : Int) := by omega
            go_wp2
            go_ret
            exact ⟨by rw [HF.out]; rfl, H5.out.out⟩
          · have HG3 : Hid (∀ r, (if xs.all adOk = false then 150 else if decide xs.Nodup = false then 6 else 0) = r → rightF (strB c) (strB s) (strB d) xs = r) := fun r h => HG2.out _ ((if_neg (by rw [Hn.out]; exact hl)).trans h)
            have HLE := Lib.hid hl
            have hl' : ¬ 16 < (n : Int) := by omega
            clear HG2 hl
            have HX3 : Hid (Cells y3 A (nums .i64 xs)) := by have := H5.out; exact HX.out.ext
            have p3' : ∀ o, (y3.alloc o).cell? ⟨w.heap.size, 3, none⟩ = some (.slice A n cp) := fun o => by have := H4.out; exact at_cell (at_ext HP.out) 3
            go_wp2
            go_loopw [47, 4] (fun i t wr => ∃ k : Nat, i = .int .i64 k ∧ k ≤ n ∧ t = .bool (!decide (xs.take k).Nodup) ∧ Hid ((xs.take k).all adOk = true) ∧ SetIs wr y3.heap.size k (xs.take k) ∧ Hid (Ext y3 wr)) (fun i _ _ => n - (intOf i).toNat)
            case atStart => exact ⟨0, rfl, by omega, rfl, rfl, set_made y3, (inferInstance : Ext y3 _)⟩
            case round =>
              obtain ⟨k, rfl, hk, rfl, HA, HS, HW⟩ := hrel
              have Sr : Step wr y3 := ⟨HW.out.out⟩
              by_cases hlt : k < n
              · obtain ⟨ad, hAd, hc⟩ := (HX3.out.ext (w' := wr)).num (by rw [Hn.out]; exact hlt)
                have HLT := Lib.hid (show k < xs.length by rw [Hn.out]; exact hlt)
                subst hAd
                obtain ⟨X, hX⟩ : ∃ X, xs.getD k 0 = X := ⟨_, rfl⟩
                rw [hX] at hc
                have HXk := Lib.hid hX
                clear hX
                by_cases p1 : X < 1
                · have HF : Hid (rightF (strB c) (strB s) (strB d) xs = 150) := HG3.out _ (if_pos (all_not HLT.out (by rw [HXk.out]; unfold adOk; exact decide_eq_false (by omega))))
                  go_wp2
                  go_ret
                  exact ⟨by rw [HF.out]; rfl, (Ext.trans_ H5.out HW.out).out⟩
                by_cases p2 : 4294967295 < X
                · have HF : Hid (rightF (strB c) (strB s) (strB d) xs = 150) := HG3.out _ (if_pos (all_not HLT.out (by rw [HXk.out]; unfold adOk; exact decide_eq_false (by omega))))
                  go_wp2
                  go_ret
                  exact ⟨by rw [HF.out]; rfl, (Ext.trans_ H5.out HW.out).out⟩
                have HA2 := Lib.hid (all_take_succ HA.out HLT.out (by rw [HXk.out]; unfold adOk; exact decide_eq_true (by omega)))
                have HWF : Hid ((Lit.int .i64 X).wf = true) := WalkArith.wf_i64 (by omega)
                have HND := Lib.hid (nodup_snoc HLT.out)
                have HM : Hid (∀ j, j ∈ X :: xs.take k ↔ j ∈ xs.take (k + 1)) := fun j => by
                  rw [List.take_add_one, List.getElem?_eq_getElem HLT.out]
                  have := HXk.out
                  rw [List.getD_eq_getElem?_getD, List.getElem?_eq_getElem HLT.out] at this
                  simp only [Option.getD_some] at this
                  simp [this, or_comm]
                have HSh := Lib.hid HS
                have hrun := set_look HS X HWF.out
                obtain ⟨dt, hdt⟩ : ∃ dt, decide (xs.take k).Nodup = dt := ⟨_, rfl⟩
                obtain ⟨mt, hmt⟩ : ∃ mt, decide (X ∈ xs.take k) = mt := ⟨_, rfl⟩
                rw [hmt] at hrun
                have HND2 : Hid (decide (xs.take (k + 1)).Nodup = (dt && !mt)) := by unfold Hid; rw [HND.out, hdt, HXk.out, hmt]
                rw [hdt]
                clear HND hdt hmt HS
                cases dt
                · skip
                  go_wp2_with (first | (at_mapUpdate; refine set_put rfl _ _ _ rfl rfl HSh.out (by unfold maxLen; omega) X rfl rfl HWF.out ?_; intro w1 hS1 hg1) | fail)
                  have HBW := Lib.hid (Below.grown HW.out.out hg1 (size_ext (w := y3)) (fun j hj => by cases hj; exact Nat.le_refl _))
                  go_roundw
                  case rel => exact ⟨k + 1, by go_num, by omega, (by rw [HND2.out]; cases mt <;> rfl), HA2.out, set_perm hS1 HM.out, (⟨HBW.out⟩ : Ext y3 w1)⟩
                  case measure => simp [intOf]; omega
                · skip
                  go_wp2_with (first | (at_mapUpdate; refine set_put rfl _ _ _ rfl rfl HSh.out (by unfold maxLen; omega) X rfl rfl HWF.out ?_; intro w1 hS1 hg1) | fail)
                  have HBW := Lib.hid (Below.grown HW.out.out hg1 (size_ext (w := y3)) (fun j hj => by cases hj; exact Nat.le_refl _))
                  go_roundw
                  case rel => exact ⟨k + 1, by go_num, by omega, (by rw [HND2.out]; cases mt <;> rfl), HA2.out, set_perm hS1 HM.out, (⟨HBW.out⟩ : Ext y3 w1)⟩
                  case measure => simp [intOf]; omega
              · obtain rfl : k = n := by omega
                have hall := HA.out
                rw [List.take_of_length_le (by rw [Hn.out]; exact Nat.le_refl _)] at hall
                have HG4 := Lib.hid (fun r h => HG3.out r ((if_neg (by rw [hall]; simp)).trans h))
                have hnd : decide (xs.take k).Nodup = decide xs.Nodup := by rw [List.take_of_length_le (by rw [Hn.out]; exact Nat.le_refl _)]
                rw [hnd]
                obtain ⟨dt, hdt⟩ : ∃ dt, decide xs.Nodup = dt := ⟨_, rfl⟩
                rw [hdt] at HG4 ⊢
                clear hall hnd hdt HS
                cases dt
                · have HF : Hid (rightF (strB c) (strB s) (strB d) xs = 6) := HG4.out _ rfl
                  go_wp2
                  go_ret
                  exact ⟨by rw [HF.out]; rfl, (Ext.trans_ H5.out HW.out).out⟩
                · have HF : Hid (rightF (strB c) (strB s) (strB d) xs = 0) := HG4.out _ rfl
                  go_wp2
                  go_ret
                  exact ⟨by rw [HF.out]; rfl, (Ext.trans_ H5.out HW.out).out⟩
end Go.Proofs.Ytobddmpiljknpaa

namespace Go.Proofs.Ytobddmpiljknpaa
open Go.RowKit
set_option linter.unusedVariables false
set_option linter.unusedSimpArgs false

theorem info_i64' : (Try.prog.info? 2).map (fun i => (i.zero, i.size, i.bytes)) = some (some (.int .i64 0), 1, 8) := by kernel_rfl
theorem ext_alloc_of {w W : World} {o : Obj} (h : w.alloc o = W) : Ext w W := by subst h; exact inferInstance
theorem own_heap {w w' : World} {base n size : Nat} {e : TypeId} {v : Value} {cs : List Value} (h : w.ownsRow base e size v n cs) (hh : ∀ k, base ≤ k → w'.heap[k]? = w.heap[k]?) : w'.ownsRow base e size v n cs := by
  refine ⟨h.1, ?_⟩
  rcases h.2 with h' | ⟨g, cap, cur, h1, h2, h3, h4⟩
  · exact .inl h'
  · exact .inr ⟨g, cap, cur, h1, h2, (hh g h2).trans h3, h4⟩
/-- A secret as it lies in memory. -/
structure SV where
  c : ByteArray
  s : ByteArray
  d : ByteArray
  A : Option Addr
  n : Nat
  k : Nat
  xs : List Int
def SV.val (u : SV) : Value := .agg #[.string u.c, .string u.s, .string u.d, .slice u.A u.n u.k]
def SV.cells (u : SV) : List Value := [.string u.c, .string u.s, .string u.d, .slice u.A u.n u.k]
def SV.right (u : SV) : Int := rightF (strB u.c) (strB u.s) (strB u.d) u.xs
structure SV.Ok (w : World) (u : SV) : Prop where
  c : u.c.size ≤ 140737488355328
  s : u.s.size ≤ 140737488355328
  d : u.d.size ≤ 140737488355328
  n : u.xs.length = u.n
  m : u.n ≤ 17592186044416
  k : u.n ≤ u.k
  x : Cells w u.A (nums .i64 u.xs)
theorem SV.Ok.ext {w w' : World} {u : SV} [h : Ext w w'] (k : u.Ok w) : u.Ok w' := ⟨k.c, k.s, k.d, k.n, k.m, k.k, k.x.ext⟩
theorem clone64_any (A : Option Addr) (n c : Nat) (xs : List Int) (hn : xs.length = n) (hn' : n ≤ 17592186044416) (w : World) (hx : Cells w A (nums .i64 xs)) :
    Calls Try.prog 101 #[.slice A n c] w fun e w' => ∃ v, e = .returned v ∧ w'.ownsRow w.heap.size 2 1 v n (nums .i64 xs) ∧ Below w.heap.size w w' := by
  have keq := fun W => Lib.run_eql_slice_nil (P := Try.prog) W 42 2 A n c 0 0 Try.underlying42
  have Hn := Lib.hid hn
  rcases A with _ | ad
  · have hz : n = 0 := by
      rcases Nat.eq_zero_or_pos n with h | h
      · exact h
      · obtain ⟨_, h2, _⟩ := hx (by rw [nums_length]; omega)
        cases h2
    subst hz
    have HZ : Hid (xs = []) := List.eq_nil_of_length_eq_zero hn
    clear hn
    go_enter Try.func101, Try.ntmps101
    go_wp2
    go_ret
    exact ⟨_, rfl, by rw [HZ.out]; exact own_nil _ _ _ _, Below.refl _ _⟩
  · clear hn
    go_enter Try.func101, Try.ntmps101
    have ho0 : (w.alloc (.cells #[] 2)).ownsRow w.heap.size 2 1 (.slice (some ⟨w.heap.size, 0, none⟩) 0 0) 0 [] :=
      own_of_block (cur := []) (heap_alloc_new w _) (Nat.le_refl _) (Nat.le_refl _) (by omega) rfl
    have HO0 := Lib.hid ho0
    clear ho0
    go_wp2_with
      (at_builtin
       refine wp_append_cells (w0 := w) w.heap.size rfl (.tmp 5) (.tmp 6) 42 2 (.int .i64 0) 1 8 rfl Try.underlying42 info_i64' rfl (by decide) (by decide) (.slice (some ⟨w.heap.size, 0, none⟩) 0 0) 0 [] (some ad) n c (nums .i64 xs) rfl rfl ?_ (nums_one _ _) HO0.out (hx.alloc _) ((Below.refl _ _).alloc (Nat.le_refl _) _) (by simp) ?_ ?_
       · rw [nums_length, Hn.out, Nat.mul_one]
       · omega
       intro v1 w1 ho1 hb1 _ _
       have HO1 := Lib.hid ho1
       have HB1 := Lib.hid hb1
       clear ho1 hb1)
    go_ret
    refine ⟨_, rfl, ?_, HB1.out⟩
    have h := HO1.out
    rwa [Nat.zero_add, List.nil_append] at h
set_option maxRecDepth 100000 in
set_option maxHeartbeats 1000000 in
theorem own_any (u : SV) (w : World) (hu : u.Ok w) :
    Calls Try.prog 108 #[u.val] w fun e w' => ∃ A' k', e = .returned ({ u with A := A', k := k' }).val ∧ w'.ownsRow w.heap.size 2 1 (.slice A' u.n k') u.n (nums .i64 u.xs) ∧ Below w.heap.size w w' := by
  obtain ⟨c, s, d, A, n, k, xs⟩ := u
  have HU := Lib.hid hu
  clear hu
  unfold SV.val
  simp only
  go_enter Try.func108, Try.ntmps108
  go_wp2_with fail
  refine (clone64_any A n k xs HU.out.n HU.out.m _ (by exact HU.out.x.ext)).mono ?_
  rintro e w1 ⟨v1, rfl, ho1, hb1⟩
  obtain ⟨A1, c1, rfl, hc1⟩ := own_slice ho1
  have S1 : Step w1 _ := ⟨hb1⟩
  have HR1 : Hid (w1.heap[w.heap.size]? = some (.cells #[.string c, .string s, .string d, .slice A n k] 44 (0, 0))) := at_ext (w' := w1) (at_new1 (w := w) rfl)
  have HR2 : Hid (w1.heap[w.heap.size + 1]? = some (.cells #[.string ⟨#[]⟩, .string ⟨#[]⟩, .string ⟨#[]⟩, .slice none 0 0] 44 (0, 0))) := at_ext (w' := w1) (at_new1 (w := w.alloc (.cells #[.string c, .string s, .string d, .slice A n k] 44)) (g := w.heap.size + 1) (by simp))
  have p3 : w1.cell? ⟨w.heap.size, 3, none⟩ = some (.slice A n k) := at_cell HR1.out 3
  have f3 : w1.frozen? ⟨w.heap.size, 3, none⟩ = false := at_frozen HR1.out 3
  obtain ⟨w2, hw2⟩ : ∃ w2, w1.setCell ⟨w.heap.size, 3, none⟩ (.slice A1 n c1) = w2 := ⟨_, rfl⟩
  have HQ1 : Hid (w2.heap[w.heap.size]? = some (.cells #[.string c, .string s, .string d, .slice A1 n c1] 44 (0, 0))) := by unfold Hid; rw [← hw2]; exact at_set HR1.out 3 _
  have HQ2 : Hid (w2.heap[w.heap.size + 1]? = some (.cells #[.string ⟨#[]⟩, .string ⟨#[]⟩, .string ⟨#[]⟩, .slice none 0 0] 44 (0, 0))) := by unfold Hid; rw [← hw2]; exact (Below.heap_setCell _ _ _ _ (by show w.heap.size + 1 ≠ w.heap.size; omega)).trans HR2.out
  have HO2 : Hid (w2.ownsRow (w.heap.size + 1 + 1) 2 1 (.slice A1 n c1) n (nums .i64 xs)) := by unfold Hid; rw [← hw2]; exact own_weaken (own_young ho1 (by dsimp only; simp only [World.size_alloc]; omega)) (by simp only [World.size_alloc]; omega)
  have HB2 : Hid (Below w.heap.size w w2) := by unfold Hid; rw [← hw2]; exact (Ext.out (w := w) (w' := w1)).setCell (p := ⟨w.heap.size, 3, none⟩) (Nat.le_refl _) _
  clear ho1 hb1
  go_upto_region 2 with fail
  clear hw2 p3 f3
  go_wp2_with
    (first
      | (refine wpList_load_row rfl 44 (.tmp 1) rfl w.heap.size rfl 44 #[.string c, .string s, .string d, .slice A1 n c1] (0, 0) _ HQ1.out Try.underlying44 rfl (by kernel_rfl) ?_)
      | (refine wpList_store_row_o rfl 44 (.tmp 2) (.tmp 7) rfl (w.heap.size + 1) #[.string c, .string s, .string d, .slice A1 n c1] rfl rfl 44 #[.string ⟨#[]⟩, .string ⟨#[]⟩, .string ⟨#[]⟩, .slice none 0 0] HQ2.out (by kernel_rfl) rfl (by simp [Value.oneCell']) ?_
         intro w3 hr3 ho3 hz3 hb3))
  refine bodyPost_ret (results_cell_row Try.results108 _ _ (w.heap.size + 1) 44 #[.string c, .string s, .string d, .slice A1 n c1] (0, 0) _ rfl hr3 Try.underlying44 rfl (by kernel_rfl)) rfl ?_
  exact ⟨A1, c1, rfl, own_weaken (own_heap HO2.out fun k hk => ho3 k (by omega)) (by omega), hb3 _ _ HB2.out (by omega)⟩
end Go.Proofs.Ytobddmpiljknpaa

namespace Go.Proofs.Ytobddmpiljknpaa
open Go.RowKit
set_option linter.unusedVariables false
set_option linter.unusedSimpArgs false

def secs (us : List SV) : List Value := us.flatMap SV.cells
theorem secs_cons (u : SV) (us : List SV) : secs (u :: us) = .string u.c :: .string u.s :: .string u.d :: .slice u.A u.n u.k :: secs us := rfl
theorem secs_append (a b : List SV) : secs (a ++ b) = secs a ++ secs b := by simp [secs]
theorem secs_length (us : List SV) : (secs us).length = us.length * 4 := by
  induction us with
  | nil => rfl
  | cons v vs ih => simp [secs_cons, ih]; omega
theorem secs_one (us : List SV) : ∀ u ∈ secs us, u.oneCell' = true := by
  intro u hu
  simp only [secs, List.mem_flatMap, SV.cells, List.mem_cons, List.not_mem_nil, or_false] at hu
  obtain ⟨v, _, rfl | rfl | rfl | rfl⟩ := hu <;> rfl
theorem secs_get {us : List SV} {i : Nat} {v : SV} (h : us[i]? = some v) : (secs us)[i * 4]? = some (.string v.c) ∧ (secs us)[i * 4 + 1]? = some (.string v.s) ∧ (secs us)[i * 4 + 2]? = some (.string v.d) ∧ (secs us)[i * 4 + 3]? = some (.slice v.A v.n v.k) := by
  induction us generalizing i with
  | nil => simp at h
  | cons x us ih =>
    rw [secs_cons]
    cases i with
    | zero => simp at h; subst h; simp
    | succ i =>
      have h1 := ih (i := i) (by simpa using h)
      rw [show (i + 1) * 4 = i * 4 + 4 by omega]
      exact h1
theorem sec_at {w : World} {A : Option Addr} {us : List SV} {k : Nat} {v : SV} (h : Cells w A (secs us)) (hk : us[k]? = some v) : ∃ ad, A = some ad ∧ w.cell? (ad.add (k * 4)) = some (.string v.c) ∧
    w.cell? ⟨(ad.add (k * 4)).block, (ad.add (k * 4)).off + 1, none⟩ = some (.string v.s) ∧ w.cell? ⟨(ad.add (k * 4)).block, (ad.add (k * 4)).off + 2, none⟩ = some (.string v.d) ∧ w.cell? ⟨(ad.add (k * 4)).block, (ad.add (k * 4)).off + 3, none⟩ = some (.slice v.A v.n v.k) := by
  obtain ⟨h0, h1, h2, h3⟩ := secs_get hk
  have hl : k < us.length := (List.getElem?_eq_some_iff.1 hk).1
  obtain ⟨ad, rfl, hc⟩ := h (by rw [secs_length]; omega)
  refine ⟨ad, rfl, hc _ _ h0, ?_, ?_, ?_⟩
  · have := hc _ _ h1
    rw [← add_of_add] at this
    exact this
  · have := hc _ _ h2
    rw [← add_of_add] at this
    exact this
  · have := hc _ _ h3
    rw [← add_of_add] at this
    exact this
/-- A list of secrets that can be read. -/
structure SecsAt (w : World) (A : Option Addr) (us : List SV) : Prop where
  x : Cells w A (secs us)
  ok : ∀ u ∈ us, u.Ok w
theorem SecsAt.ext {w w' : World} {A : Option Addr} {us : List SV} [h : Ext w w'] (k : SecsAt w A us) : SecsAt w' A us := ⟨k.x.ext, fun u hu => (k.ok u hu).ext⟩
def wrongAt : Nat → List SV → Int × Nat
  | _, [] => (0, 0)
  | i, u :: us => if u.right ≠ 0 then (u.right, i) else wrongAt (i + 1) us
def wrongF (us : List SV) : Int × Nat := if 64 < us.length then (7, 0) else wrongAt 0 us
theorem drop_at {α : Type} {xs : List α} {k : Nat} {x : α} (h : xs[k]? = some x) : xs.drop k = x :: xs.drop (k + 1) := by
  obtain ⟨hk, rfl⟩ := List.getElem?_eq_some_iff.1 h
  exact List.drop_eq_getElem_cons hk
set_option maxRecDepth 100000 in
set_option maxHeartbeats 4000000 in
theorem wrong_any (A : Option Addr) (n c : Nat) (us : List SV) (hn : us.length = n) (hn' : n ≤ 17592186044416) (w : World) (hx : SecsAt w A us) :
    Calls Try.prog 107 #[.slice A n c] w fun e w' => e = .returned (.tuple #[.int .i64 (wrongF us).1, .int .i64 (wrongF us).2]) ∧ Below w.heap.size w w' := by
  have Hn := Lib.hid hn
  have HX := Lib.hid hx
  clear hn hx
  by_cases hl : 64 < n
  · have HF : Hid (wrongF us = (7, 0)) := if_pos (by rw [Hn.out]; exact hl)
    have hl' : 64 < (n : Int) := by omega
    go_enter Try.func107, Try.ntmps107
    go_wp2
    go_ret2
    exact ⟨by rw [HF.out]; rfl, Below.refl _ _⟩
  · have HF : Hid (wrongF us = wrongAt 0 us) := if_neg (by rw [Hn.out]; exact hl)
    have hl' : ¬ 64 < (n : Int) := by omega
    have HL := Lib.hid hl
    clear hl
    go_enter Try.func107, Try.ntmps107
    go_wp2
    go_loopw [12, 4, 5, 6] (fun i a b e wr => ∃ k : Nat, i = .int .i64 k ∧ k ≤ n ∧ Hid (wrongF us = wrongAt k (us.drop k)) ∧ Hid (Ext w wr)) (fun i _ _ _ _ => n - (intOf i).toNat)
    case atStart => exact ⟨0, rfl, by omega, HF.out, (inferInstance : Ext w w)⟩
    case round =>
      obtain ⟨k, rfl, hk, HD, HW⟩ := hrel
      have Sr : Step wr w := ⟨HW.out.out⟩
      by_cases hlt : k < n
      · obtain ⟨u, hu⟩ : ∃ u, us[k]? = some u := ⟨_, List.getElem?_eq_getElem (by rw [Hn.out]; exact hlt)⟩
        obtain ⟨ad, rfl, hc0, hc1, hc2, hc3⟩ := sec_at (HX.out.ext (w' := wr)).x hu
        have HK := Lib.hid ((HX.out.ext (w' := wr)).ok u (List.mem_of_getElem? hu))
        rw [drop_at hu] at HD
        clear hu
        obtain ⟨uc, uss, ud, uA, un, uk, ux⟩ := u
        simp only at hc0 hc1 hc2 hc3
        go_wp2_with fail
        refine (right_any uc uss ud uA un uk ux HK.out.c HK.out.s HK.out.d HK.out.n _ (by exact HK.out.x.ext)).mono ?_
        rintro e w2 ⟨rfl, hb2⟩
        have S2 : Step w2 _ := ⟨hb2⟩
        obtain ⟨R, hR⟩ : ∃ R, rightF (strB uc) (strB uss) (strB ud) ux = R := ⟨_, rfl⟩
        rw [hR]
        have HD2 : Hid (wrongF us = if R ≠ 0 then (R, k) else wrongAt (k + 1) (us.drop (k + 1))) := by unfold Hid; rw [← hR]; exact HD.out
        clear hR hb2
        by_cases hr : R = 0
        · subst hr
          go_wp2_with fail
          go_roundw
          case rel => exact ⟨k + 1, by go_num, by omega, HD2.out, (inferInstance : Ext w w2)⟩
          case measure => simp [intOf]; omega
        · have hr' : (R != 0) = true := by simpa using hr
          have HZ : Hid (wrongF us = (R, k)) := HD2.out.trans (if_pos hr)
          clear hr
          go_wp2_with fail
          go_ret2
          exact ⟨by rw [HZ.out]; rfl, (inferInstance : Ext w w2).out⟩
      · obtain rfl : k = n := by omega
        have HZ : Hid (wrongF us = (0, 0)) := by rw [List.drop_of_length_le (by rw [Hn.out]; exact Nat.le_refl _)] at HD; exact HD.out
        go_wp2
        go_ret2
        exact ⟨by rw [HZ.out]; rfl, HW.out.out⟩
end Go.Proofs.Ytobddmpiljknpaa

namespace Go.Proofs.Ytobddmpiljknpaa
open Go.RowKit
set_option linter.unusedVariables false
set_option linter.unusedSimpArgs false

abbrev zSec : Array Value := #[.string ⟨#[]⟩, .string ⟨#[]⟩, .string ⟨#[]⟩, .slice none 0 0]
theorem info_sec : (Try.prog.info? 44).map (fun i => (i.zero, i.size, i.bytes)) = some (some (.agg zSec), 4, 72) := by kernel_rfl
def SV.blk (u : SV) : Option Nat := (Value.slice u.A u.n u.k).ownBlock
/-- What two readings of a secret share. -/
def SV.dat (u : SV) : (ByteArray × ByteArray) × ByteArray × List Int := ((u.c, u.s), u.d, u.xs)
structure SV.Size (u : SV) : Prop where
  c : u.c.size ≤ 140737488355328
  s : u.s.size ≤ 140737488355328
  d : u.d.size ≤ 140737488355328
  n : u.xs.length = u.n
  m : u.n ≤ 17592186044416
/-- A list of secrets that a call has made: the list and all that hangs on it lie in blocks of their own, from base on. -/
structure SecsOwn (w : World) (base : Nat) (v : Value) (us : List SV) : Prop where
  row : w.ownsRow base 44 4 v us.length (secs us)
  each : ∀ u ∈ us, w.ownsRow base 2 1 (.slice u.A u.n u.k) u.n (nums .i64 u.xs)
  apart : ∀ u ∈ us, ∀ b, u.blk = some b → v.ownBlock ≠ some b
  size : ∀ u ∈ us, u.Size
section
variable {w w' W W1 w2 : World} {base B : Nat} {v L v2 : Value} {us : List SV} {u : SV}
theorem SecsOwn.nil_ (w : World) (base : Nat) : SecsOwn w base (.slice none 0 0) [] := ⟨own_nil _ _ _ _, by simp, by simp, by simp⟩
theorem SecsOwn.ext [h : Ext w w'] (k : SecsOwn w base v us) : SecsOwn w' base v us := ⟨own_below k.row h.out, fun u hu => own_below (k.each u hu) h.out, k.apart, k.size⟩
theorem SecsOwn.weaken {b' : Nat} (h : b' ≤ base) (k : SecsOwn w base v us) : SecsOwn w b' v us := ⟨own_weaken k.row h, fun u hu => own_weaken (k.each u hu) h, k.apart, k.size⟩
theorem SecsOwn.young {p : Addr} {x : Value} (hp : p.block < base) (k : SecsOwn w base v us) : SecsOwn (w.setCell p x) base v us := ⟨own_young k.row hp, fun u hu => own_young (k.each u hu) hp, k.apart, k.size⟩
theorem SecsOwn.heap (hh : ∀ k, base ≤ k → w'.heap[k]? = w.heap[k]?) (k : SecsOwn w base v us) : SecsOwn w' base v us := ⟨own_heap k.row hh, fun u hu => own_heap (k.each u hu) hh, k.apart, k.size⟩
theorem SecsOwn.at {A : Option Addr} {m c : Nat} (k : SecsOwn w base (.slice A m c) us) : SecsAt w A us := ⟨own_cells k.row, fun u hu => by
  have h1 := k.size u hu
  have h2 := k.each u hu
  obtain ⟨A', c', he, hc⟩ := own_slice h2
  injection he with _ _ he
  exact ⟨h1.c, h1.s, h1.d, h1.n, h1.m, by omega, own_cells h2⟩⟩
theorem SecsOwn.push (H : SecsOwn W B L us) (hB : B ≤ W.heap.size) (e1 : Ext W W1) (ho1 : W1.ownsRow W.heap.size 2 1 (.slice u.A u.n u.k) u.n (nums .i64 u.xs)) (hok : u.Size)
    (ho2 : w2.ownsRow B 44 4 v2 (us.length + 1) (secs us ++ u.cells)) (hg : W1.grownBy w2 L.ownBlock) (hat : v2.ownBlock = L.ownBlock ∨ ∃ b, v2.ownBlock = some b ∧ W1.heap.size ≤ b) : SecsOwn w2 B v2 (us ++ [u]) := by
  obtain ⟨HO, HA, HD, HV⟩ := H
  have hl1 : ∀ b, u.blk = some b → b < W1.heap.size ∧ W.heap.size ≤ b := fun b hb => ⟨own_lt ho1 b hb, own_base ho1 b hb⟩
  have hL : ∀ b, L.ownBlock = some b → b < W.heap.size ∧ B ≤ b := fun b hb => ⟨own_lt HO b hb, own_base HO b hb⟩
  have hv : ∀ x ∈ us, ∀ b, x.blk = some b → b < W.heap.size := fun x hx b hb => own_lt (HA x hx) b hb
  have hz1 : W.heap.size ≤ W1.heap.size := e1.out.size
  refine ⟨?_, ?_, ?_, ?_⟩
  · rw [secs_append, List.length_append, List.length_singleton]
    simpa [secs] using ho2
  · intro x hx
    rcases List.mem_append.1 hx with hx | hx
    · refine own_grown (own_below (HA x hx) e1.out) hg ?_
      rcases he : (Value.slice x.A x.n x.k).ownBlock with _ | b
      · exact .inl rfl
      · exact .inr fun h => HD x hx b he h.symm
    · simp at hx
      subst hx
      refine own_weaken (own_grown ho1 hg ?_) hB
      rcases he : (Value.slice x.A x.n x.k).ownBlock with _ | b
      · exact .inl rfl
      · refine .inr fun h1 => ?_
        have h2 := (hL b h1.symm).1
        have h3 := (hl1 b he).2
        omega
  · intro x hx b hb he
    rcases hat with hat | ⟨b', hat, hb'⟩
    · rw [hat] at he
      rcases List.mem_append.1 hx with hx | hx
      · exact HD x hx b hb he
      · simp at hx
        subst hx
        have h2 := (hL b he).1
        have h3 := (hl1 b hb).2
        omega
    · rw [hat] at he
      injection he with he
      rcases List.mem_append.1 hx with hx | hx
      · have := hv x hx b hb
        omega
      · simp at hx
        subst hx
        have h3 := (hl1 b hb).1
        omega
  · intro x hx
    rcases List.mem_append.1 hx with hx | hx
    · exact HV x hx
    · simp at hx
      subst hx
      exact hok
end
/-- A table of secrets, at block T. -/
def TabAt (w : World) (T : Nat) (us : List SV) : Prop := ∃ v, w.heap[T]? = some (.cells #[v] 165 (0, 0)) ∧ SecsOwn w (T + 1) v us
theorem TabAt.ext {w w' : World} {T : Nat} {us : List SV} [h : Ext w w'] (k : TabAt w T us) : TabAt w' T us := by
  obtain ⟨v, h1, h2⟩ := k
  exact ⟨v, at_ext h1, h2.ext⟩
def SecNewTells (us : List SV) (w : World) (e : Ending) (w' : World) : Prop :=
  Below w.heap.size w w' ∧ if (wrongF us).1 ≠ 0 then e = .returned (.tuple #[.pointer none, .int .i64 (wrongF us).1, .int .i64 (wrongF us).2])
    else ∃ T vs, e = .returned (.tuple #[.pointer (some ⟨T, 0, none⟩), .int .i64 0, .int .i64 0]) ∧ w.heap.size ≤ T ∧ TabAt w' T vs ∧ vs.map SV.dat = us.map SV.dat
set_option maxRecDepth 100000 in
set_option maxHeartbeats 4000000 in
theorem new_any (A : Option Addr) (n c : Nat) (us : List SV) (hn : us.length = n) (hn' : n ≤ 17592186044416) (w : World) (hx : SecsAt w A us) :
    Calls Try.prog 78 #[.slice A n c] w (SecNewTells us w) := by
  have Hn := Lib.hid hn
  have HX := Lib.hid hx
  clear hn hx
  by_cases hw : (wrongF us).1 = 0
  · have HF : Hid (∀ e w', (Below w.heap.size w w' ∧ ∃ T vs, e = .returned (.tuple #[.pointer (some ⟨T, 0, none⟩), .int .i64 0, .int .i64 0]) ∧ w.heap.size ≤ T ∧ TabAt w' T vs ∧ vs.map SV.dat = us.map SV.dat) → SecNewTells us w e w') := fun e w' h => ⟨h.1, by rw [if_neg (by simp [hw])]; exact h.2⟩
    have HW0 := Lib.hid hw
    have H64 : Hid (n ≤ 64) := by
      unfold Hid
      by_cases h : 64 < us.length
      · unfold wrongF at hw
        rw [if_pos h] at hw
        simp at hw
      · rw [← Hn.out]; omega
    clear hw
    go_enter Try.func78, Try.ntmps78
    go_wp2_with fail
    refine (wrong_any A n c us Hn.out hn' _ HX.out).mono ?_
    rintro e w1 ⟨rfl, hb1⟩
    rw [HW0.out]
    have S1 : Step w1 w := ⟨hb1⟩
    have X1 : Hid (Ext w w1) := (inferInstance : Ext w w1)
    clear hb1
    go_wp2_with fail
    obtain ⟨T, hT⟩ : ∃ T, w1.heap.size = T := ⟨_, rfl⟩
    have HT : Hid (w.heap.size ≤ T) := by unfold Hid; rw [← hT]; exact size_ext
    have HTT := Lib.hid hT
    simp only [hT]
    go_loopw [23, 9] (fun i a wr => ∃ (k : Nat) (L : Value) (vs : List SV), i = .int .i64 k ∧ k ≤ n ∧ vs.length = k ∧ Hid (wr.heap[T]? = some (.cells #[L] 165 (0, 0))) ∧ Hid (SecsOwn wr (T + 1) L vs) ∧ Hid (vs.map SV.dat = (us.map SV.dat).take k) ∧ Hid (Ext w wr)) (fun i _ _ => n - (intOf i).toNat)
    case atStart => exact ⟨0, .slice none 0 0, [], rfl, by omega, rfl, at_new1 hT, SecsOwn.nil_ _ _, rfl, (inferInstance : Ext w _)⟩
    case round =>
      obtain ⟨k, L, vs, rfl, hk, rfl, HTC, HO, HD, HW⟩ := hrel
      have Sr : Step wr w := ⟨HW.out.out⟩
      by_cases hlt : vs.length < n
      · obtain ⟨u, hu⟩ : ∃ u, us[vs.length]? = some u := ⟨_, List.getElem?_eq_getElem (by rw [Hn.out]; exact hlt)⟩
        obtain ⟨ad, rfl, hc0, hc1, hc2, hc3⟩ := sec_at (HX.out.ext (w' := wr)).x hu
        have HK := Lib.hid ((HX.out.ext (w' := wr)).ok u (List.mem_of_getElem? hu))
        have HD2 : Hid ((us.map SV.dat).take (vs.length + 1) = (us.map SV.dat).take vs.length ++ [u.dat]) := take_snoc (by rw [List.getElem?_map, hu]; rfl)
        clear hu
        obtain ⟨uc, uss, ud, uA, un, uk, ux⟩ := u
        simp only at hc0 hc1 hc2 hc3
        have hT0 : wr.cell? ⟨T, 0, none⟩ = some L := at_cell HTC.out 0
        go_upto_region 8 with fail
        obtain ⟨wq, hwq⟩ : ∃ wq, wr.alloc (.cells #[.string uc, .string uss, .string ud, .slice uA un uk] 44) = wq := ⟨_, rfl⟩
        have HU : Hid (wq.heap[wr.heap.size]? = some (.cells #[.string uc, .string uss, .string ud, .slice uA un uk] 44 (0, 0))) := by unfold Hid; rw [← hwq]; exact at_new wr _
        have Sq : Step wq wr := ⟨by rw [← hwq]; exact Ext.out⟩
        rw [hwq]
        clear hwq hT0
        have hT0 : wq.cell? ⟨T, 0, none⟩ = some L := at_cell (at_ext HTC.out) 0
        have u0 : wq.cell? ⟨wr.heap.size, 0, none⟩ = some (.string uc) := at_cell HU.out 0
        have u1 : wq.cell? ⟨wr.heap.size, 1, none⟩ = some (.string uss) := at_cell HU.out 1
        have u2 : wq.cell? ⟨wr.heap.size, 2, none⟩ = some (.string ud) := at_cell HU.out 2
        have u3 : wq.cell? ⟨wr.heap.size, 3, none⟩ = some (.slice uA un uk) := at_cell HU.out 3
        go_region_law
          (first
           | (refine step_call ?hg Try.func108 (by kernel_rfl) (by kernel_rfl) #[.tmp 32] #[44] ?ho #[.agg #[.string uc, .string uss, .string ud, .slice uA un uk]] ?hv (own_any ⟨uc, uss, ud, uA, un, uk, ux⟩ _ ?c1) ?_
              (case hg => rfl)
              (case ho => rfl)
              (case hv => go_simp)
              (case c1 => exact HK.out.ext)
              rintro e w2 ⟨A2, k2, rfl, ho2, hb2⟩
              simp only [SV.val]
              have S2 : Step w2 wq := ⟨(Ext.trans_ (inferInstance : Ext wq wq.drew) ⟨hb2⟩).out⟩
              have HO2 := Lib.hid ho2
              have HX2 : Hid (Ext w w2) := (inferInstance : Ext w w2)
              have hT2 : w2.cell? ⟨T, 0, none⟩ = some L := at_cell (at_ext HTC.out) 0
              have hT3 : ∀ o, (w2.alloc o).cell? ⟨T, 0, none⟩ = some L := fun o => at_cell (at_ext HTC.out) 0
              clear ho2 hb2
              refine ⟨_, rfl, ?_⟩)
           | (refine step_append (T + 1) rfl (.tmp 31) (.tmp 34) 37 44 (.agg zSec) 4 72 rfl Try.underlying37 info_sec rfl (by decide) (by decide) L vs.length (secs vs) _ 1 1 [.string uc, .string uss, .string ud, .slice A2 un k2] rfl rfl rfl ?e1 ?e0 ?e2 ?e3 ?e4 ?_
              (case e1 => exact secs_one [⟨uc, uss, ud, A2, un, k2, ux⟩])
              (case e0 => exact own_ext HO.out.row)
              (case e2 => exact cells_box w2 _ rfl [.string uc, .string uss, .string ud, .slice A2 un k2] _)
              (case e3 => exact at_lt (at_ext HTC.out))
              (case e4 => have := H64.out; omega)
              intro v3 w3 ho3 hg3 hat3
              obtain ⟨A3, c3, rfl, hc3'⟩ := own_slice ho3
              have HT3 : Hid (w3.heap[T]? = some (.cells #[L] 165 (0, 0))) := (hg3.block T (at_lt (at_ext HTC.out)) (fun h => by have := own_base HO.out.row T h.symm; omega)).trans (at_ext HTC.out)
              have HS3 := Lib.hid (SecsOwn.push (u := ⟨uc, uss, ud, A2, un, k2, ux⟩) (HO.out.ext (w' := wq)) (at_lt (at_ext (w' := wq) HTC.out)) inferInstance (own_ext HO2.out) ⟨HK.out.c, HK.out.s, HK.out.d, HK.out.n, HK.out.m⟩ ho3 hg3 (hat3.imp_right fun h => ⟨_, h, Nat.le_refl _⟩))
              have HB3 : Hid (Below w.heap.size w w3) := below_grown (Ext.out (w := w)) (size_ext (w := w)) hg3 (fun j hj => by have := own_base HO.out.row j hj; have := HT.out; omega)
              have q3 : w3.cell? ⟨T, 0, none⟩ = some L := at_cell HT3.out 0
              have f3 : w3.frozen? ⟨T, 0, none⟩ = false := at_frozen HT3.out 0
              clear ho3 hg3 hat3 hc3'))
        all_goals go_wp2
        all_goals go_roundw
        all_goals first
          | exact ⟨vs.length + 1, .slice A3 (vs.length + 1) c3, vs ++ [⟨uc, uss, ud, A2, un, k2, ux⟩], by go_num, by omega, by simp, at_set HT3.out 0 _, SecsOwn.young (by simp) HS3.out, (by unfold Hid; rw [List.map_append, HD.out, HD2.out]; rfl), ⟨(HB3.out.setCell (p := ⟨T, 0, none⟩) HT.out _)⟩⟩
          | (simp [intOf]; omega)
      · obtain rfl : vs.length = n := by omega
        go_wp2
        go_ret3
        exact HF.out _ _ ⟨HW.out.out, T, vs, rfl, HT.out, ⟨L, HTC.out, HO.out⟩, by rw [HD.out, List.take_of_length_le (by rw [List.length_map, Hn.out]; exact Nat.le_refl _)]⟩
  · have hw' : ((wrongF us).1 != 0) = true := by simpa using hw
    have HF : Hid (∀ w', Below w.heap.size w w' → SecNewTells us w (.returned (.tuple #[.pointer none, .int .i64 (wrongF us).1, .int .i64 (wrongF us).2])) w') := fun w' h => ⟨h, by rw [if_pos hw]⟩
    clear hw
    obtain ⟨p1, hp1⟩ : ∃ p1, (wrongF us).1 = p1 := ⟨_, rfl⟩
    obtain ⟨p2, hp2⟩ : ∃ p2, (wrongF us).2 = p2 := ⟨_, rfl⟩
    rw [hp1, hp2] at HF
    rw [hp1] at hw'
    have HP1 := Lib.hid hp1
    have HP2 := Lib.hid hp2
    clear hp1 hp2
    go_enter Try.func78, Try.ntmps78
    go_wp2_with fail
    refine (wrong_any A n c us Hn.out hn' _ HX.out).mono ?_
    rintro e w1 ⟨rfl, hb1⟩
    rw [HP1.out, HP2.out]
    go_wp2_with fail
    go_ret3
    exact HF.out _ hb1
end Go.Proofs.Ytobddmpiljknpaa

namespace Go.Proofs.Ytobddmpiljknpaa
open Go.RowKit
set_option linter.unusedVariables false
set_option linter.unusedSimpArgs false

/-- Does a secret not fit at all? -/
def gateF (c s : List Int) (u : SV) : Bool := decide (c = [42] ∨ s = [42] ∨ (strB u.c ≠ c ∧ strB u.c ≠ [42]) ∨ (strB u.s ≠ s ∧ strB u.s ≠ [42]) ∨ u.right ≠ 0)
def rankF (c s : List Int) (u : SV) : Int := (if strB u.c = c then 2 else 0) + (if strB u.s = s then 1 else 0)
def bestStep (c s : List Int) (i : Nat) (u : SV) (p : Int × Nat) : Int × Nat := if gateF c s u = false ∧ p.1 < rankF c s u then (rankF c s u, i) else p
def bestF (c s : List Int) : Nat → List SV → Int × Nat → Int × Nat
  | _, [], p => p
  | i, u :: us, p => bestF c s (i + 1) us (bestStep c s i u p)
theorem bestF_cons (c s : List Int) (i : Nat) (u : SV) (us : List SV) (p : Int × Nat) : bestF c s i (u :: us) p = bestF c s (i + 1) us (bestStep c s i u p) := rfl
def findF (c s : List Int) (us : List SV) : Option SV := if (bestF c s 0 us (-1, 0)).1 < 0 then none else us[(bestF c s 0 us (-1, 0)).2]?
theorem strB_iff {s t : ByteArray} : strB s = strB t ↔ s.toList = t.toList := ⟨strB_inj, strB_of⟩
theorem strB_star {s : ByteArray} : strB s = [42] ↔ s.toList = [42] := by
  have e : ([42] : List Int) = strB star := rfl
  rw [e, strB_iff, show star.toList = [42] by decide +kernel]
section
variable {c s : List Int} {u : SV}
theorem gate1 (h : c = [42]) : gateF c s u = true := decide_eq_true (.inl h)
theorem gate2 (h : s = [42]) : gateF c s u = true := decide_eq_true (.inr (.inl h))
theorem gate3 (h : strB u.c ≠ c) (h' : strB u.c ≠ [42]) : gateF c s u = true := decide_eq_true (.inr (.inr (.inl ⟨h, h'⟩)))
theorem gate4 (h : strB u.s ≠ s) (h' : strB u.s ≠ [42]) : gateF c s u = true := decide_eq_true (.inr (.inr (.inr (.inl ⟨h, h'⟩))))
theorem gate5 (h : u.right ≠ 0) : gateF c s u = true := decide_eq_true (.inr (.inr (.inr (.inr h))))
theorem gate6 (h1 : c ≠ [42]) (h2 : s ≠ [42]) (h3 : strB u.c = c ∨ strB u.c = [42]) (h4 : strB u.s = s ∨ strB u.s = [42]) (h5 : u.right = 0) : gateF c s u = false := by
  refine decide_eq_false ?_
  rintro (h | h | ⟨h, h'⟩ | ⟨h, h'⟩ | h)
  · exact h1 h
  · exact h2 h
  · exact h3.elim h h'
  · exact h4.elim h h'
  · exact h h5
end
def FindTells (c s : List Int) (us : List SV) (w : World) (e : Ending) (w' : World) : Prop :=
  Below w.heap.size w w' ∧ match findF c s us with
    | none => e = .returned (.tuple #[.agg zSec, .bool false])
    | some u => ∃ v : SV, e = .returned (.tuple #[v.val, .bool true]) ∧ v.dat = u.dat ∧ v.n = u.n ∧ w'.ownsRow w.heap.size 2 1 (.slice v.A v.n v.k) v.n (nums .i64 v.xs)
set_option maxRecDepth 100000 in
set_option maxHeartbeats 4000000 in
theorem find_any (A : Option Addr) (n c : Nat) (us : List SV) (cb sb : ByteArray) (hn : us.length = n) (hn' : n ≤ 17592186044416) (w : World) (hx : SecsAt w A us) :
    Calls Try.prog 102 #[.slice A n c, .string cb, .string sb] w (FindTells (strB cb) (strB sb) us w) := by
  have Hn := Lib.hid hn
  have HX := Lib.hid hx
  clear hn hx
  obtain ⟨cl, hcl⟩ : ∃ cl, strB cb = cl := ⟨_, rfl⟩
  obtain ⟨sl, hsl⟩ : ∃ sl, strB sb = sl := ⟨_, rfl⟩
  rw [hcl, hsl]
  have HCL := Lib.hid hcl
  have HSL := Lib.hid hsl
  clear hcl hsl
  go_enter Try.func102, Try.ntmps102
  go_upto_region 3 with fail
  obtain ⟨wb, hwb⟩ : ∃ wb, w.alloc (.cells zSec 44) = wb := ⟨_, rfl⟩
  have HP : Hid (wb.heap[w.heap.size]? = some (.cells zSec 44 (0, 0))) := by unfold Hid; rw [← hwb]; exact at_new w _
  have HWB : Hid (Ext w wb) := by unfold Hid; rw [← hwb]; exact inferInstance
  have SB : Step wb w := ⟨HWB.out.out⟩
  rw [hwb]
  clear hwb
  go_loopw [15, 8, 9, 10, 11, 12] (fun i b a x5 x6 x7 wr => ∃ (k : Nat) (bb : Int) (aa : Nat), i = .int .i64 k ∧ k ≤ n ∧ b = .int .i64 bb ∧ a = .int .i64 (aa : Int) ∧ Hid (bestF cl sl 0 us (-1, 0) = bestF cl sl k (us.drop k) (bb, aa)) ∧ Hid (bb < 0 ∨ aa < n) ∧ Hid (Ext wb wr)) (fun i _ _ _ _ _ _ => n - (intOf i).toNat)
  case atStart => exact ⟨0, -1, 0, rfl, by omega, rfl, rfl, rfl, by unfold Hid; omega, (inferInstance : Ext wb wb)⟩
  case round =>
    obtain ⟨k, bb, aa, rfl, hk, rfl, rfl, HBF, HLI, HW⟩ := hrel
    have Sr : Step wr wb := ⟨HW.out.out⟩
    by_cases hlt : k < n
    · obtain ⟨u, hu⟩ : ∃ u, us[k]? = some u := ⟨_, List.getElem?_eq_getElem (by rw [Hn.out]; exact hlt)⟩
      obtain ⟨ad, rfl, hc0, hc1, hc2, hc3⟩ := sec_at (HX.out.ext (w' := wr)).x hu
      have HK := Lib.hid ((HX.out.ext (w' := wr)).ok u (List.mem_of_getElem? hu))
      rw [drop_at hu] at HBF
      clear hu
      obtain ⟨uc, uss, ud, uA, un, uk, ux⟩ := u
      simp only at hc0 hc1 hc2 hc3
      go_upto_region 5 with fail
      obtain ⟨wq, hwq⟩ : ∃ wq, wr.alloc (.cells #[.string uc, .string uss, .string ud, .slice uA un uk] 44) = wq := ⟨_, rfl⟩
      have HU : Hid (wq.heap[wr.heap.size]? = some (.cells #[.string uc, .string uss, .string ud, .slice uA un uk] 44 (0, 0))) := by unfold Hid; rw [← hwq]; exact at_new wr _
      have Sq : Step wq wr := ⟨by rw [← hwq]; exact Ext.out⟩
      rw [hwq]
      clear hwq
      obtain ⟨q, hq⟩ : ∃ q, gateF cl sl ⟨uc, uss, ud, uA, un, uk, ux⟩ = q := ⟨_, rfl⟩
      have HQ := Lib.hid hq
      clear hq
      go_cut [52] (fun s wx => s = .bool q ∧ Hid (Ext wq wx))
      case first =>
        have u0 : wq.cell? ⟨wr.heap.size, 0, none⟩ = some (.string uc) := at_cell HU.out 0
        have u1 : wq.cell? ⟨wr.heap.size, 1, none⟩ = some (.string uss) := at_cell HU.out 1
        have u2 : wq.cell? ⟨wr.heap.size, 2, none⟩ = some (.string ud) := at_cell HU.out 2
        have u3 : wq.cell? ⟨wr.heap.size, 3, none⟩ = some (.slice uA un uk) := at_cell HU.out 3
        by_cases e1 : cb.toList = [42]
        · go_wp2_with fail
          go_meet
          case rel => exact ⟨by rw [← HQ.out, gate1 (by rw [← HCL.out]; exact strB_star.2 e1)], (inferInstance : Ext wq wq)⟩
        by_cases e2 : sb.toList = [42]
        · go_wp2_with fail
          go_meet
          case rel => exact ⟨by rw [← HQ.out, gate2 (by rw [← HSL.out]; exact strB_star.2 e2)], (inferInstance : Ext wq wq)⟩
        have E1 : Hid (cl ≠ [42]) := fun h => e1 (strB_star.1 (HCL.out.trans h))
        have E2 : Hid (sl ≠ [42]) := fun h => e2 (strB_star.1 (HSL.out.trans h))
        have b1 : (cb.toList == [42]) = false := by simpa using e1
        have b2 : (sb.toList == [42]) = false := by simpa using e2
        clear e1 e2
        by_cases c1 : uc.toList = cb.toList
        · have C1 : Hid (strB uc = cl ∨ strB uc = [42]) := .inl ((strB_iff.2 c1).trans HCL.out)
          by_cases d1 : uss.toList = sb.toList
          · have D1 : Hid (strB uss = sl ∨ strB uss = [42]) := .inl ((strB_iff.2 d1).trans HSL.out)
            go_wp2_with fail
            refine (right_any uc uss ud uA un uk ux HK.out.c HK.out.s HK.out.d HK.out.n _ (by exact HK.out.x.ext)).mono ?_
            rintro e w2 ⟨rfl, hb2⟩
            obtain ⟨R, hR⟩ : ∃ R, rightF (strB uc) (strB uss) (strB ud) ux = R := ⟨_, rfl⟩
            have HRR := Lib.hid hR
            rw [hR]
            clear hR
            by_cases hr : R = 0
            · subst hr
              go_wp2_with fail
              go_meet
              case rel => exact ⟨by rw [← HQ.out, gate6 (u := ⟨uc, uss, ud, uA, un, uk, ux⟩) E1.out E2.out C1.out D1.out HRR.out], ⟨hb2⟩⟩
            · have hr' : (R != 0) = true := by simpa using hr
              go_wp2_with fail
              go_meet
              case rel => exact ⟨by rw [← HQ.out, gate5 (u := ⟨uc, uss, ud, uA, un, uk, ux⟩) (fun h => hr (HRR.out.symm.trans h))], ⟨hb2⟩⟩
          by_cases d2 : uss.toList = [42]
          · have D1 : Hid (strB uss = sl ∨ strB uss = [42]) := .inr (strB_star.2 d2)
            have n5 : ¬ [42] = sb.toList := fun h => d1 (d2.trans h)
            have b5 : ([42] == sb.toList) = false := by simpa using n5
            go_wp2_with fail
            refine (right_any uc uss ud uA un uk ux HK.out.c HK.out.s HK.out.d HK.out.n _ (by exact HK.out.x.ext)).mono ?_
            rintro e w2 ⟨rfl, hb2⟩
            obtain ⟨R, hR⟩ : ∃ R, rightF (strB uc) (strB uss) (strB ud) ux = R := ⟨_, rfl⟩
            have HRR := Lib.hid hR
            rw [hR]
            clear hR
            by_cases hr : R = 0
            · subst hr
              go_wp2_with fail
              go_meet
              case rel => exact ⟨by rw [← HQ.out, gate6 (u := ⟨uc, uss, ud, uA, un, uk, ux⟩) E1.out E2.out C1.out D1.out HRR.out], ⟨hb2⟩⟩
            · have hr' : (R != 0) = true := by simpa using hr
              go_wp2_with fail
              go_meet
              case rel => exact ⟨by rw [← HQ.out, gate5 (u := ⟨uc, uss, ud, uA, un, uk, ux⟩) (fun h => hr (HRR.out.symm.trans h))], ⟨hb2⟩⟩
          have b5 : (uss.toList == sb.toList) = false := by simpa using d1
          have b6 : (uss.toList == [42]) = false := by simpa using d2
          go_wp2_with fail
          go_meet
          case rel => exact ⟨by rw [← HQ.out, gate4 (fun h => d1 (strB_iff.1 (h.trans HSL.out.symm))) (fun h => d2 (strB_star.1 h))], (inferInstance : Ext wq wq)⟩
        by_cases c2 : uc.toList = [42]
        · have C1 : Hid (strB uc = cl ∨ strB uc = [42]) := .inr (strB_star.2 c2)
          have n3 : ¬ [42] = cb.toList := fun h => c1 (c2.trans h)
          have b3 : ([42] == cb.toList) = false := by simpa using n3
          by_cases d1 : uss.toList = sb.toList
          · have D1 : Hid (strB uss = sl ∨ strB uss = [42]) := .inl ((strB_iff.2 d1).trans HSL.out)
            go_wp2_with fail
            refine (right_any uc uss ud uA un uk ux HK.out.c HK.out.s HK.out.d HK.out.n _ (by exact HK.out.x.ext)).mono ?_
            rintro e w2 ⟨rfl, hb2⟩
            obtain ⟨R, hR⟩ : ∃ R, rightF (strB uc) (strB uss) (strB ud) ux = R := ⟨_, rfl⟩
            have HRR := Lib.hid hR
            rw [hR]
            clear hR
            by_cases hr : R = 0
            · subst hr
              go_wp2_with fail
              go_meet
              case rel => exact ⟨by rw [← HQ.out, gate6 (u := ⟨uc, uss, ud, uA, un, uk, ux⟩) E1.out E2.out C1.out D1.out HRR.out], ⟨hb2⟩⟩
            · have hr' : (R != 0) = true := by simpa using hr
              go_wp2_with fail
              go_meet
              case rel => exact ⟨by rw [← HQ.out, gate5 (u := ⟨uc, uss, ud, uA, un, uk, ux⟩) (fun h => hr (HRR.out.symm.trans h))], ⟨hb2⟩⟩
          by_cases d2 : uss.toList = [42]
          · have D1 : Hid (strB uss = sl ∨ strB uss = [42]) := .inr (strB_star.2 d2)
            have n5 : ¬ [42] = sb.toList := fun h => d1 (d2.trans h)
            have b5 : ([42] == sb.toList) = false := by simpa using n5
            go_wp2_with fail
            refine (right_any uc uss ud uA un uk ux HK.out.c HK.out.s HK.out.d HK.out.n _ (by exact HK.out.x.ext)).mono ?_
            rintro e w2 ⟨rfl, hb2⟩
            obtain ⟨R, hR⟩ : ∃ R, rightF (strB uc) (strB uss) (strB ud) ux = R := ⟨_, rfl⟩
            have HRR := Lib.hid hR
            rw [hR]
            clear hR
            by_cases hr : R = 0
            · subst hr
              go_wp2_with fail
              go_meet
              case rel => exact ⟨by rw [← HQ.out, gate6 (u := ⟨uc, uss, ud, uA, un, uk, ux⟩) E1.out E2.out C1.out D1.out HRR.out], ⟨hb2⟩⟩
            · have hr' : (R != 0) = true := by simpa using hr
              go_wp2_with fail
              go_meet
              case rel => exact ⟨by rw [← HQ.out, gate5 (u := ⟨uc, uss, ud, uA, un, uk, ux⟩) (fun h => hr (HRR.out.symm.trans h))], ⟨hb2⟩⟩
          have b5 : (uss.toList == sb.toList) = false := by simpa using d1
          have b6 : (uss.toList == [42]) = false := by simpa using d2
          go_wp2_with fail
          go_meet
          case rel => exact ⟨by rw [← HQ.out, gate4 (fun h => d1 (strB_iff.1 (h.trans HSL.out.symm))) (fun h => d2 (strB_star.1 h))], (inferInstance : Ext wq wq)⟩
        have b3 : (uc.toList == cb.toList) = false := by simpa using c1
        have b4 : (uc.toList == [42]) = false := by simpa using c2
        go_wp2_with fail
        go_meet
        case rel => exact ⟨by rw [← HQ.out, gate3 (fun h => c1 (strB_iff.1 (h.trans HCL.out.symm))) (fun h => c2 (strB_star.1 h))], (inferInstance : Ext wq wq)⟩
      case' rest =>
        obtain ⟨rfl, HX2⟩ := hcut
        generalize wc = y2 at *
        have HY := Lib.hid (HX2.out)
        clear HX2
        have SY : Step y2 wq := ⟨HY.out.out⟩
        cases q
        case true =>
          have HBF2 : Hid (bestF cl sl 0 us (-1, 0) = bestF cl sl (k + 1) (us.drop (k + 1)) (bb, aa)) := by
            refine HBF.out.trans ?_
            rw [bestF_cons]
            unfold bestStep
            rw [if_neg (by rw [HQ.out]; simp)]
          go_wp2_with fail
          go_roundw
          case rel => exact ⟨k + 1, bb, aa, by go_num, by omega, rfl, rfl, HBF2.out, HLI.out, (inferInstance : Ext wb y2)⟩
          case measure => simp [intOf]; omega
        case false =>
          obtain ⟨rk, hrk⟩ : ∃ rk, rankF cl sl ⟨uc, uss, ud, uA, un, uk, ux⟩ = rk := ⟨_, rfl⟩
          have HRK := Lib.hid hrk
          clear hrk
          have HBF2 : Hid (bestF cl sl 0 us (-1, 0) = bestF cl sl (k + 1) (us.drop (k + 1)) (if bb < rk then (rk, k) else (bb, aa))) := by
            refine HBF.out.trans ?_
            rw [bestF_cons]
            unfold bestStep
            rw [HQ.out, HRK.out]
            simp
          have u0 : y2.cell? ⟨wr.heap.size, 0, none⟩ = some (.string uc) := at_cell (at_ext HU.out) 0
          have u1 : y2.cell? ⟨wr.heap.size, 1, none⟩ = some (.string uss) := at_cell (at_ext HU.out) 1
          obtain ⟨r1, hr1⟩ : ∃ r1 : Int, (if strB uc = cl then 2 else 0) = r1 := ⟨_, rfl⟩
          have HR1 := Lib.hid hr1
          have l1 : 0 ≤ r1 := by subst hr1; split <;> omega
          have l2 : r1 ≤ 2 := by subst hr1; split <;> omega
          clear hr1
          go_upto_if 56 with fail
          obtain ⟨p1, hp1⟩ : ∃ p1, (uc.toList == cb.toList) = p1 := ⟨_, rfl⟩
          rw [hp1]
          have HP1 := Lib.hid hp1
          clear hp1
          go_cut [12] (fun s wx => s = .int .i64 r1 ∧ y2 = wx)
          case first =>
            cases p1
            · have HV : Hid (r1 = 0) := by unfold Hid; rw [← HR1.out, if_neg (fun h => by have := HP1.out; rw [strB_iff.1 (h.trans HCL.out.symm)] at this; simp at this)]
              go_wp2_with fail
              go_meet
              case rel => exact ⟨by rw [HV.out]; try go_num, rfl⟩
            · have HV : Hid (r1 = 2) := by unfold Hid; rw [← HR1.out, if_pos ((strB_iff.2 (by simpa using HP1.out)).trans HCL.out)]
              go_wp2_with fail
              go_meet
              case rel => exact ⟨by rw [HV.out]; try go_num, rfl⟩
          case' rest =>
            obtain ⟨rfl, rfl⟩ := hcut
          go_upto_if 62 with fail
          obtain ⟨p2, hp2⟩ : ∃ p2, (uss.toList == sb.toList) = p2 := ⟨_, rfl⟩
          rw [hp2]
          have HP2 := Lib.hid hp2
          clear hp2
          go_cut [12] (fun s wx => s = .int .i64 rk ∧ Hid (Ext y2 wx))
          case first =>
            cases p2
            · have HV : Hid (rk = r1) := by unfold Hid; rw [← HRK.out, ← HR1.out]; unfold rankF; rw [if_neg (c := strB uss = sl) (fun h => by have := HP2.out; rw [strB_iff.1 (h.trans HSL.out.symm)] at this; simp at this), Int.add_zero]
              go_wp2_with fail
              go_meet
              case rel => exact ⟨by rw [HV.out]; try go_num, (inferInstance : Ext y2 y2)⟩
            · have HV : Hid (rk = r1 + 1) := by unfold Hid; rw [← HRK.out, ← HR1.out]; unfold rankF; rw [if_pos ((strB_iff.2 (by simpa using HP2.out)).trans HSL.out)]
              go_wp2_with fail
              go_meet
              case rel => exact ⟨by rw [HV.out]; try go_num, (inferInstance : Ext y2 y2)⟩
          case' rest =>
            obtain ⟨rfl, HX3⟩ := hcut
            generalize wc = y3 at *
            have HZ := Lib.hid (HX3.out)
            clear HX3
            have SZ : Step y3 y2 := ⟨HZ.out.out⟩
            by_cases hb : bb < rk
            · have HBF3 : Hid (bestF cl sl 0 us (-1, 0) = bestF cl sl (k + 1) (us.drop (k + 1)) (rk, k)) := by have h := HBF2.out; rwa [if_pos hb] at h
              go_wp2_with fail
              go_roundw
              case rel => exact ⟨k + 1, rk, k, by go_num, by omega, rfl, rfl, HBF3.out, (by unfold Hid; omega), (inferInstance : Ext wb y3)⟩
              case measure => simp [intOf]; omega
            · have HBF3 : Hid (bestF cl sl 0 us (-1, 0) = bestF cl sl (k + 1) (us.drop (k + 1)) (bb, aa)) := by have h := HBF2.out; rwa [if_neg hb] at h
              go_wp2_with fail
              go_roundw
              case rel => exact ⟨k + 1, bb, aa, by go_num, by omega, rfl, rfl, HBF3.out, HLI.out, (inferInstance : Ext wb y3)⟩
              case measure => simp [intOf]; omega
    · obtain rfl : k = n := by omega
      have HBZ : Hid (bestF cl sl 0 us (-1, 0) = (bb, aa)) := by rw [List.drop_of_length_le (by rw [Hn.out]; exact Nat.le_refl _)] at HBF; exact HBF.out
      by_cases hz : bb < 0
      · have HF : Hid (findF cl sl us = none) := by unfold Hid findF; rw [HBZ.out, if_pos hz]
        have HPr : Hid (wr.heap[w.heap.size]? = some (.cells zSec 44 (0, 0))) := at_ext HP.out
        go_wp2_with
          (refine wpList_store_row_o rfl 44 (.tmp 6) (.tmp 73) rfl w.heap.size zSec rfl rfl 44 zSec HPr.out (by kernel_rfl) rfl (by simp [Value.oneCell']) ?_
           intro w3 hr3 ho3 hz3 hb3)
        refine bodyPost_ret (results_cell_row2 Try.results102 _ _ w.heap.size 44 zSec (0, 0) _ (.bool false) rfl rfl hr3 Try.underlying44 rfl (by kernel_rfl)) rfl ?_
        refine ⟨hb3 _ _ (inferInstance : Ext w wr).out (Nat.le_refl _), ?_⟩
        rw [HF.out]
      · obtain ⟨u, hu⟩ : ∃ u, us[aa]? = some u := ⟨_, List.getElem?_eq_getElem (by have := HLI.out; rw [Hn.out]; omega)⟩
        have HF : Hid (findF cl sl us = some u) := by unfold Hid findF; rw [HBZ.out, if_neg hz]; exact hu
        obtain ⟨ad, rfl, hc0, hc1, hc2, hc3⟩ := sec_at (HX.out.ext (w' := wr)).x hu
        have HK := Lib.hid ((HX.out.ext (w' := wr)).ok u (List.mem_of_getElem? hu))
        have hak : aa < k := by have := HLI.out; omega
        clear hu
        obtain ⟨uc, uss, ud, uA, un, uk, ux⟩ := u
        simp only at hc0 hc1 hc2 hc3
        go_wp2_with fail
        refine (own_any ⟨uc, uss, ud, uA, un, uk, ux⟩ _ HK.out).mono ?_
        rintro e w2 ⟨A2, k2, rfl, ho2, hb2⟩
        simp only [SV.val]
        have HO2 := Lib.hid ho2
        have S2 : Step w2 _ := ⟨hb2⟩
        have HP2 : Hid (w2.heap[w.heap.size]? = some (.cells zSec 44 (0, 0))) := at_ext HP.out
        have HX2 : Hid (Ext w w2) := (inferInstance : Ext w w2)
        clear ho2 hb2
        go_wp2_with
          (refine wpList_store_row_o rfl 44 (.tmp 6) (.tmp 78) rfl w.heap.size #[.string uc, .string uss, .string ud, .slice A2 un k2] rfl rfl 44 zSec HP2.out (by kernel_rfl) rfl (by simp [Value.oneCell']) ?_
           intro w3 hr3 ho3 hz3 hb3)
        refine bodyPost_ret (results_cell_row2 Try.results102 _ _ w.heap.size 44 #[.string uc, .string uss, .string ud, .slice A2 un k2] (0, 0) _ (.bool true) rfl rfl hr3 Try.underlying44 rfl (by kernel_rfl)) rfl ?_
        refine ⟨hb3 _ _ HX2.out.out (Nat.le_refl _), ?_⟩
        rw [HF.out]
        have hlt0 : w.heap.size < wr.heap.size := at_lt (at_ext (w' := wr) HP.out)
        exact ⟨⟨uc, uss, ud, A2, un, k2, ux⟩, rfl, rfl, rfl, own_weaken (own_heap HO2.out fun j hj => ho3 j (by omega)) (by omega)⟩
end Go.Proofs.Ytobddmpiljknpaa

namespace Go.Proofs.Ytobddmpiljknpaa
open Go.RowKit
set_option linter.unusedVariables false
set_option linter.unusedSimpArgs false

theorem take_getD {xs : List Int} {k : Nat} (hk : k < xs.length) : xs.take (k + 1) = xs.take k ++ [xs.getD k 0] := by
  rw [List.take_add_one, List.getElem?_eq_getElem hk, List.getD_eq_getElem?_getD, List.getElem?_eq_getElem hk]
  rfl
theorem getD_mem_take {xs : List Int} {m j : Nat} (hm : m < xs.length) (h : m < j) : xs.getD m 0 ∈ xs.take j := by
  rw [List.getD_eq_getElem?_getD, List.getElem?_eq_getElem hm]
  exact List.mem_take_iff_getElem.2 ⟨m, by omega, rfl⟩
theorem not_nodup {xs : List Int} {k : Nat} (hk : k < xs.length) (h : xs.getD k 0 ∈ xs.take k) : decide xs.Nodup = false := by
  refine decide_eq_false (fun hn => ?_)
  have h1 := nodup_snoc hk
  rw [decide_eq_true h] at h1
  have h2 : (xs.take (k + 1)).Nodup := List.Nodup.sublist (List.take_sublist _ _) hn
  rw [decide_eq_true h2] at h1
  simp at h1
set_option maxRecDepth 100000 in
set_option maxHeartbeats 8000000 in
theorem rright_any (c s d : ByteArray) (A : Option Addr) (n cp : Nat) (xs : List Int) (hc : c.size ≤ 140737488355328) (hs : s.size ≤ 140737488355328) (hd : d.size ≤ 140737488355328) (hn : xs.length = n) (hcp : n ≤ cp) (w : World) (hx : Cells w A (nums .i64 xs)) :
    Calls Try.prog 71 #[.agg #[.string c, .string s, .string d, .slice A n cp]] w fun e w' => e = .returned (.int .i64 (rightF (strB c) (strB s) (strB d) xs)) ∧ Below w.heap.size w w' := by
  have Hn := Lib.hid hn
  have HX := Lib.hid hx
  clear hn hx
  go_enter Try.func71, Try.ntmps71
  go_upto_region 1 with fail
  obtain ⟨wb, hwb⟩ : ∃ wb, w.alloc (.cells #[.string c, .string s, .string d, .slice A n cp] 44) = wb := ⟨_, rfl⟩
  have HP : Hid (wb.heap[w.heap.size]? = some (.cells #[.string c, .string s, .string d, .slice A n cp] 44 (0, 0))) := by unfold Hid; rw [← hwb]; exact at_new w _
  have HW : Hid (Ext w wb) := by unfold Hid; rw [← hwb]; exact inferInstance
  rw [hwb]
  clear hwb
  have p0 : wb.cell? ⟨w.heap.size, 0, none⟩ = some (.string c) := at_cell HP.out 0
  have p1 : wb.cell? ⟨w.heap.size, 1, none⟩ = some (.string s) := at_cell HP.out 1
  have p2 : wb.cell? ⟨w.heap.size, 2, none⟩ = some (.string d) := at_cell HP.out 2
  have p3 : wb.cell? ⟨w.heap.size, 3, none⟩ = some (.slice A n cp) := at_cell HP.out 3
  rcases hb1 : nameF (strB c) with _ | _
  · have HA := Lib.hid hb1
    have HF : Hid (rightF (strB c) (strB s) (strB d) xs = 60) := if_pos (by rw [hb1]; rfl)
    clear hb1
    go_wp2_with fail
    refine (rname_any c hc _).mono ?_
    rintro e w1 ⟨rfl, rfl⟩
    rw [HA.out]
    go_wp2_with fail
    go_ret
    exact ⟨by rw [HF.out]; rfl, HW.out.out⟩
  have HA := Lib.hid hb1
  rcases hb2 : nameF (strB s) with _ | _
  · have HB := Lib.hid hb2
    have HF : Hid (rightF (strB c) (strB s) (strB d) xs = 60) := if_pos (by rw [hb1, hb2]; rfl)
    clear hb1 hb2
    go_wp2_with fail
    refine (rname_any c hc _).mono ?_
    rintro e w1 ⟨rfl, rfl⟩
    rw [HA.out]
    go_wp2_with fail
    refine (rname_any s hs _).mono ?_
    rintro e w1 ⟨rfl, rfl⟩
    rw [HB.out]
    go_wp2_with fail
    go_ret
    exact ⟨by rw [HF.out]; rfl, HW.out.out⟩
  have HB := Lib.hid hb2
  have HG : Hid (∀ r, (if strB d ≠ [] ∧ nameF (strB d) = false then 52 else if 16 < xs.length then 7 else if xs.all adOk = false then 150 else if decide xs.Nodup = false then 6 else 0) = r → rightF (strB c) (strB s) (strB d) xs = r) := fun r h => (if_neg (by rw [hb1, hb2]; simp)).trans h
  clear hb1 hb2
  go_wp2_with fail
  refine (rname_any c hc _).mono ?_
  rintro e w1 ⟨rfl, rfl⟩
  rw [HA.out]
  go_wp2_with fail
  refine (rname_any s hs _).mono ?_
  rintro e w1 ⟨rfl, rfl⟩
  rw [HB.out]
  go_upto_region 3 with fail
  obtain ⟨q2, hq2⟩ : ∃ q2, (decide (strB d ≠ []) && !(nameF (strB d))) = q2 := ⟨_, rfl⟩
  have HQ2 := Lib.hid hq2
  clear hq2
  go_cut [20] (fun s wx => s = .bool q2 ∧ wb = wx)
  case first =>
    by_cases hds : d.toList = []
    · have HD0 : Hid (strB d = []) := by unfold Hid strB; rw [← Lib.toList_data, hds]; rfl
      go_wp2_with fail
      go_meet
      case rel => exact ⟨by rw [← HQ2.out, HD0.out]; rfl, rfl⟩
    · have HD0 : Hid (decide (strB d ≠ []) = true) := decide_eq_true (fun h => hds (by unfold strB at h; rw [Lib.toList_data]; exact List.map_eq_nil_iff.1 h))
      have hdb : (d.toList == []) = false := by simpa using hds
      go_wp2_with fail
      refine (rname_any d hd _).mono ?_
      rintro e w1 ⟨rfl, rfl⟩
      obtain ⟨dn, hdn⟩ : ∃ dn, nameF (strB d) = dn := ⟨_, rfl⟩
      rw [hdn]
      have HDN := Lib.hid hdn
      clear hdn
      cases dn
      · go_wp2_with fail
        go_meet
        case rel => exact ⟨by rw [← HQ2.out, HD0.out, HDN.out]; rfl, rfl⟩
      · go_wp2_with fail
        go_meet
        case rel => exact ⟨by rw [← HQ2.out, HD0.out, HDN.out]; rfl, rfl⟩
  case' rest =>
    obtain ⟨rfl, rfl⟩ := hcut
  cases q2
  case true =>
    have HF : Hid (rightF (strB c) (strB s) (strB d) xs = 52) := HG.out _ (if_pos (by have h := HQ2.out; simpa using h))
    go_wp2_with fail
    go_ret
    exact ⟨by rw [HF.out]; rfl, HW.out.out⟩
  have HG2 : Hid (∀ r, (if 16 < xs.length then 7 else if xs.all adOk = false then 150 else if decide xs.Nodup = false then 6 else 0) = r → rightF (strB c) (strB s) (strB d) xs = r) := fun r h => HG.out _ ((if_neg (fun h' => by have h := HQ2.out; rw [decide_eq_true h'.1, h'.2] at h; cases h)).trans h)
  clear HG HQ2
  by_cases hl : 16 < n
  · have HF : Hid (rightF (strB c) (strB s) (strB d) xs = 7) := HG2.out _ (if_pos (by rw [Hn.out]; exact hl))
    have hl' : 16 < (n : Int) := by omega
    go_wp2_with fail
    go_ret
    exact ⟨by rw [HF.out]; rfl, HW.out.out⟩
  have HG3 : Hid (∀ r, (if xs.all adOk = false then 150 else if decide xs.Nodup = false then 6 else 0) = r → rightF (strB c) (strB s) (strB d) xs = r) := fun r h => HG2.out _ ((if_neg (by rw [Hn.out]; exact hl)).trans h)
  have hl' : ¬ 16 < (n : Int) := by omega
  clear HG2
  have HX3 : Hid (Cells wb A (nums .i64 xs)) := by have := HW.out; exact HX.out.ext
  go_wp2_with fail
  go_loopw [38, 4] (fun i t wr => ∃ k : Nat, i = .int .i64 k ∧ k ≤ n ∧ Hid ((xs.take k).all adOk = true) ∧ wb = wr) (fun i _ _ => n - (intOf i).toNat)
  case atStart => exact ⟨0, rfl, by omega, rfl, rfl⟩
  case round =>
    obtain ⟨k, rfl, hk, HAk, rfl⟩ := hrel
    by_cases hlt : k < n
    · obtain ⟨ad, rfl, hcl⟩ := HX3.out.num (by rw [Hn.out]; exact hlt)
      have HLT := Lib.hid (show k < xs.length by rw [Hn.out]; exact hlt)
      obtain ⟨X, hX⟩ : ∃ X, xs.getD k 0 = X := ⟨_, rfl⟩
      rw [hX] at hcl
      have HXk := Lib.hid hX
      clear hX
      by_cases p1 : X < 1
      · have HF : Hid (rightF (strB c) (strB s) (strB d) xs = 150) := HG3.out _ (if_pos (all_not HLT.out (by rw [HXk.out]; unfold adOk; exact decide_eq_false (by omega))))
        go_wp2_with fail
        go_ret
        exact ⟨by rw [HF.out]; rfl, HW.out.out⟩
      by_cases p2 : 4294967295 < X
      · have HF : Hid (rightF (strB c) (strB s) (strB d) xs = 150) := HG3.out _ (if_pos (all_not HLT.out (by rw [HXk.out]; unfold adOk; exact decide_eq_false (by omega))))
        go_wp2_with fail
        go_ret
        exact ⟨by rw [HF.out]; rfl, HW.out.out⟩
      have HA2 := Lib.hid (all_take_succ HAk.out HLT.out (by rw [HXk.out]; unfold adOk; exact decide_eq_true (by omega)))
      go_wp2_with fail
      go_roundw
      case rel => exact ⟨k + 1, by go_num, by omega, HA2.out, trivial⟩
      case measure => simp [intOf]; omega
    · obtain rfl : k = n := by omega
      have hall := HAk.out
      rw [List.take_of_length_le (by rw [Hn.out]; exact Nat.le_refl _)] at hall
      have HG4 : Hid (∀ r, (if decide xs.Nodup = false then 6 else 0) = r → rightF (strB c) (strB s) (strB d) xs = r) := fun r h => HG3.out r ((if_neg (by rw [hall]; simp)).trans h)
      clear HG3 HAk hall
      go_wp2_with fail
      go_loopw [52, 5, 6, 8] (fun i x5 x6 x8 wr => ∃ j : Nat, i = .int .i64 j ∧ j ≤ k ∧ Hid (decide (xs.take j).Nodup = true) ∧ wb = wr) (fun i _ _ _ _ => k - (intOf i).toNat)
      case atStart => exact ⟨0, rfl, by omega, rfl, rfl⟩
      case round =>
        obtain ⟨j, rfl, hj, HND, rfl⟩ := hrel
        by_cases hlt2 : j < k
        · obtain ⟨ad, rfl, hcl⟩ := HX3.out.num (by rw [Hn.out]; exact hlt2)
          have HLT := Lib.hid (show j < xs.length by rw [Hn.out]; exact hlt2)
          obtain ⟨X, hX⟩ : ∃ X, xs.getD j 0 = X := ⟨_, rfl⟩
          rw [hX] at hcl
          have HXj := Lib.hid hX
          have b1 : (j : Int) ≤ (cp : Int) := by omega
          have b2 : ¬ (cp : Int) < (j : Int) := by omega
          clear hX
          go_wp2_with fail
          go_loopw [62, 8] (fun i x8 wr => ∃ m : Nat, i = .int .i64 m ∧ m ≤ j ∧ Hid (X ∉ xs.take m) ∧ wb = wr) (fun i _ _ => j - (intOf i).toNat)
          case atStart => exact ⟨0, rfl, by omega, by unfold Hid; simp, rfl⟩
          case round =>
            obtain ⟨m, rfl, hm, HNM, rfl⟩ := hrel
            by_cases hlt3 : m < j
            · have HLM := Lib.hid (show m < xs.length by rw [Hn.out]; omega)
              have hcm : wb.cell? (ad.add m) = some (.int .i64 (xs.getD m 0)) := by
                obtain ⟨ad', he, hc'⟩ := HX3.out.num (i := m) HLM.out
                injection he with he
                rw [he]
                exact hc'
              obtain ⟨Y, hY⟩ : ∃ Y, xs.getD m 0 = Y := ⟨_, rfl⟩
              rw [hY] at hcm
              have HYm := Lib.hid hY
              clear hY
              by_cases hxy : X = Y
              · have HF : Hid (rightF (strB c) (strB s) (strB d) xs = 6) := HG4.out _ (if_pos (not_nodup HLT.out (by rw [HXj.out, hxy, ← HYm.out]; exact getD_mem_take HLM.out hlt3)))
                subst hxy
                go_wp2_with fail
                go_ret
                exact ⟨by rw [HF.out]; rfl, HW.out.out⟩
              · have hxyb : (X == Y) = false := by simpa using hxy
                have HNM2 : Hid (X ∉ xs.take (m + 1)) := by
                  unfold Hid
                  rw [take_getD HLM.out, List.mem_append, HYm.out]
                  rintro (h | h)
                  · exact HNM.out h
                  · simp at h; exact hxy h
                go_wp2_with fail
                go_roundw
                case rel => exact ⟨m + 1, by go_num, by omega, HNM2.out, trivial⟩
                case measure => simp [intOf]; omega
            · obtain rfl : m = j := by omega
              have HND2 : Hid (decide (xs.take (m + 1)).Nodup = true) := by unfold Hid; rw [nodup_snoc HLT.out, HND.out, HXj.out, decide_eq_false HNM.out]; rfl
              go_wp2_with fail
              go_roundw
              case rel => exact ⟨m + 1, by go_num, by omega, HND2.out, trivial⟩
              case measure => simp [intOf]; omega
        · obtain rfl : j = k := by omega
          have HF : Hid (rightF (strB c) (strB s) (strB d) xs = 0) := HG4.out _ (if_neg (by
            have h := HND.out
            rw [List.take_of_length_le (by rw [Hn.out]; exact Nat.le_refl _)] at h
            rw [h]; simp))
          go_wp2_with fail
          go_ret
          exact ⟨by rw [HF.out]; rfl, HW.out.out⟩
end Go.Proofs.Ytobddmpiljknpaa

namespace Go.Proofs.Ytobddmpiljknpaa
open Go.RowKit
set_option linter.unusedVariables false
set_option linter.unusedSimpArgs false

set_option maxRecDepth 100000 in
set_option maxHeartbeats 2000000 in
theorem tfind_any (T : Nat) (us : List SV) (cb sb : ByteArray) (w : World) (hl : us.length ≤ 64) (ht : TabAt w T us) :
    Calls Try.prog 92 #[.pointer (some ⟨T, 0, none⟩), .string cb, .string sb] w (FindTells (strB cb) (strB sb) us w) := by
  obtain ⟨v, hT, hs⟩ := ht
  obtain ⟨A, c, rfl, hc⟩ := own_slice hs.row
  have HS := Lib.hid hs.at
  have HT := Lib.hid hT
  have p0 : ∀ o, (w.alloc o).cell? ⟨T, 0, none⟩ = some (.slice A us.length c) := fun o => at_cell (at_ext hT) 0
  clear hs hT hc
  go_enter Try.func92, Try.ntmps92
  go_wp2_with fail
  refine (find_any A us.length c us cb sb rfl (by omega) _ (by exact HS.out.ext)).mono ?_
  rintro e w2 ⟨hb2, he⟩
  have S2 : Step w2 _ := ⟨hb2⟩
  have HP2 : Hid (w2.heap[w.heap.size]? = some (.cells zSec 44 (0, 0))) := at_ext (at_new w (.cells zSec 44))
  have HX2 : Hid (Ext w w2) := (inferInstance : Ext w w2)
  clear hb2
  rcases hq : findF (strB cb) (strB sb) us with _ | u
  · have HQ := Lib.hid hq
    rw [hq] at he
    simp only at he
    subst he
    clear hq
    go_wp2_with
      (refine wpList_store_row_o rfl 44 (.tmp 6) (.tmp 18) rfl w.heap.size zSec rfl rfl 44 zSec HP2.out (by kernel_rfl) rfl (by simp [Value.oneCell']) ?_
       intro w3 hr3 ho3 hz3 hb3)
    refine bodyPost_ret (results_cell_row2 Try.results92 _ _ w.heap.size 44 zSec (0, 0) _ (.bool false) rfl rfl hr3 Try.underlying44 rfl (by kernel_rfl)) rfl ?_
    refine ⟨hb3 _ _ HX2.out.out (Nat.le_refl _), ?_⟩
    rw [HQ.out]
  · have HQ := Lib.hid hq
    rw [hq] at he
    simp only at he
    obtain ⟨⟨uc, uss, ud, uA, un, uk, ux⟩, rfl, hd, hn, ho2⟩ := he
    simp only [SV.val]
    have HO2 := Lib.hid ho2
    have HD := Lib.hid hd
    have HN := Lib.hid hn
    clear hq hd hn ho2
    go_wp2_with
      (refine wpList_store_row_o rfl 44 (.tmp 6) (.tmp 18) rfl w.heap.size #[.string uc, .string uss, .string ud, .slice uA un uk] rfl rfl 44 zSec HP2.out (by kernel_rfl) rfl (by simp [Value.oneCell']) ?_
       intro w3 hr3 ho3 hz3 hb3)
    refine bodyPost_ret (results_cell_row2 Try.results92 _ _ w.heap.size 44 #[.string uc, .string uss, .string ud, .slice uA un uk] (0, 0) _ (.bool true) rfl rfl hr3 Try.underlying44 rfl (by kernel_rfl)) rfl ?_
    refine ⟨hb3 _ _ HX2.out.out (Nat.le_refl _), ?_⟩
    rw [HQ.out]
    exact ⟨⟨uc, uss, ud, uA, un, uk, ux⟩, rfl, HD.out, HN.out, own_weaken (own_heap HO2.out fun j hj => ho3 j (by simp at hj; omega)) (by simp)⟩
def checkF (c s d : List Int) (us : List SV) : Int := match findF c s us with
  | none => 5
  | some u => if strB u.d = [] ∨ strB u.d ≠ d then 120 else 0
end Go.Proofs.Ytobddmpiljknpaa

namespace Go.Proofs.Ytobddmpiljknpaa
open Go.RowKit
set_option linter.unusedVariables false
set_option linter.unusedSimpArgs false

def fitI (c s : List Int) (u : SV) : Int := if strB u.c ≠ c ∧ strB u.c ≠ [42] then -1 else if strB u.s ≠ s ∧ strB u.s ≠ [42] then -1 else rankF c s u
theorem rank_le {c s : List Int} {u : SV} : 0 ≤ rankF c s u ∧ rankF c s u ≤ 3 := by
  unfold rankF
  split <;> split <;> omega
theorem fit_step {c s : List Int} {u : SV} (h1 : c ≠ [42]) (h2 : s ≠ [42]) {i : Nat} {b : Int} {a : Nat} (hb : -1 ≤ b) : bestStep c s i u (b, a) = if u.right = 0 ∧ b < fitI c s u then (fitI c s u, i) else (b, a) := by
  unfold bestStep fitI gateF
  have hr := rank_le (c := c) (s := s) (u := u)
  by_cases p : strB u.c ≠ c ∧ strB u.c ≠ [42]
  · rw [if_pos p, decide_eq_true (.inr (.inr (.inl p))), if_neg (by simp), if_neg (by omega)]
  rw [if_neg p]
  by_cases q : strB u.s ≠ s ∧ strB u.s ≠ [42]
  · rw [if_pos q, decide_eq_true (.inr (.inr (.inr (.inl q)))), if_neg (by simp), if_neg (by omega)]
  rw [if_neg q]
  by_cases r : u.right = 0
  · rw [decide_eq_false (by rintro (h | h | h | h | h); exact h1 h; exact h2 h; exact p h; exact q h; exact h r)]
    simp [r]
  · rw [decide_eq_true (.inr (.inr (.inr (.inr r)))), if_neg (by simp), if_neg (by rintro ⟨h, _⟩; exact r h)]
set_option maxRecDepth 100000 in
set_option maxHeartbeats 4000000 in
theorem fits_any (u : SV) (cb sb : ByteArray) (w : World) :
    Calls Try.prog 70 #[u.val, .string cb, .string sb] w fun e w' => e = .returned (.int .i64 (fitI (strB cb) (strB sb) u)) ∧ Below w.heap.size w w' := by
  obtain ⟨uc, uss, ud, uA, un, uk, ux⟩ := u
  unfold SV.val
  simp only
  have p0 : ∀ o, (w.alloc (.cells #[.string uc, .string uss, .string ud, .slice uA un uk] o)).cell? ⟨w.heap.size, 0, none⟩ = some (.string uc) := fun o => at_cell (at_new w _) 0
  have p1 : ∀ o, (w.alloc (.cells #[.string uc, .string uss, .string ud, .slice uA un uk] o)).cell? ⟨w.heap.size, 1, none⟩ = some (.string uss) := fun o => at_cell (at_new w _) 1
  go_enter Try.func70, Try.ntmps70
  by_cases c1 : uc.toList = cb.toList
  · have hc1 : strB uc = strB cb := strB_iff.2 c1
    have hq : (if strB uc = strB cb then (2 : Int) else 0) = 2 := if_pos hc1
    have hp : strB uc = strB cb ∨ strB uc = [42] := .inl hc1
    have HP := Lib.hid (show ¬(strB uc ≠ strB cb ∧ strB uc ≠ [42]) by rintro ⟨h, _⟩; exact h hc1)
    have HQ := Lib.hid hq
    clear hc1 hq hp
    by_cases d1 : uss.toList = sb.toList
    · have hd1 : strB uss = strB sb := strB_iff.2 d1
      have HF : Hid (fitI (strB cb) (strB sb) ⟨uc, uss, ud, uA, un, uk, ux⟩ = 2 + 1) := by unfold Hid fitI rankF; rw [if_neg (by simpa using HP.out), if_neg (by rintro ⟨h, _⟩; exact h hd1)]; rw [HQ.out, if_pos hd1]
      clear hd1
      go_wp2_with fail
      go_ret
      exact ⟨by rw [HF.out]; rfl, Ext.out⟩
    by_cases d2 : uss.toList = [42]
    · have hd1 : strB uss ≠ strB sb := fun h => d1 (strB_iff.1 h)
      have hd2 : strB uss = [42] := strB_star.2 d2
      have HF : Hid (fitI (strB cb) (strB sb) ⟨uc, uss, ud, uA, un, uk, ux⟩ = 2) := by unfold Hid fitI rankF; rw [if_neg (by simpa using HP.out), if_neg (by rintro ⟨_, h⟩; exact h hd2)]; rw [HQ.out, if_neg hd1]; rfl
      have n5 : ¬ [42] = sb.toList := fun h => d1 (d2.trans h)
      have b5 : ([42] == sb.toList) = false := by simpa using n5
      clear hd1 hd2
      go_wp2_with fail
      go_ret
      exact ⟨by rw [HF.out]; rfl, Ext.out⟩
    have hd1 : strB uss ≠ strB sb := fun h => d1 (strB_iff.1 h)
    have hd2 : strB uss ≠ [42] := fun h => d2 (strB_star.1 h)
    have HF : Hid (fitI (strB cb) (strB sb) ⟨uc, uss, ud, uA, un, uk, ux⟩ = -1) := by unfold Hid fitI; rw [if_neg (by simpa using HP.out), if_pos ⟨hd1, hd2⟩]
    have b5 : (uss.toList == sb.toList) = false := by simpa using d1
    have b6 : (uss.toList == [42]) = false := by simpa using d2
    clear hd1 hd2
    go_wp2_with fail
    go_ret
    exact ⟨by rw [HF.out]; rfl, Ext.out⟩
  by_cases c2 : uc.toList = [42]
  · have hc1 : strB uc ≠ strB cb := fun h => c1 (strB_iff.1 h)
    have HP := Lib.hid (show ¬(strB uc ≠ strB cb ∧ strB uc ≠ [42]) by rintro ⟨_, h⟩; exact h (strB_star.2 c2))
    have HQ : Hid ((if strB uc = strB cb then (2 : Int) else 0) = 0) := if_neg hc1
    have n3 : ¬ [42] = cb.toList := fun h => c1 (c2.trans h)
    have b3 : ([42] == cb.toList) = false := by simpa using n3
    clear hc1
    by_cases d1 : uss.toList = sb.toList
    · have hd1 : strB uss = strB sb := strB_iff.2 d1
      have HF : Hid (fitI (strB cb) (strB sb) ⟨uc, uss, ud, uA, un, uk, ux⟩ = 0 + 1) := by unfold Hid fitI rankF; rw [if_neg (by simpa using HP.out), if_neg (by rintro ⟨h, _⟩; exact h hd1)]; rw [HQ.out, if_pos hd1]
      clear hd1
      go_wp2_with fail
      go_ret
      exact ⟨by rw [HF.out]; rfl, Ext.out⟩
    by_cases d2 : uss.toList = [42]
    · have hd1 : strB uss ≠ strB sb := fun h => d1 (strB_iff.1 h)
      have hd2 : strB uss = [42] := strB_star.2 d2
      have HF : Hid (fitI (strB cb) (strB sb) ⟨uc, uss, ud, uA, un, uk, ux⟩ = 0) := by unfold Hid fitI rankF; rw [if_neg (by simpa using HP.out), if_neg (by rintro ⟨_, h⟩; exact h hd2)]; rw [HQ.out, if_neg hd1]; rfl
      have n5 : ¬ [42] = sb.toList := fun h => d1 (d2.trans h)
      have b5 : ([42] == sb.toList) = false := by simpa using n5
      clear hd1 hd2
      go_wp2_with fail
      go_ret
      exact ⟨by rw [HF.out]; rfl, Ext.out⟩
    have hd1 : strB uss ≠ strB sb := fun h => d1 (strB_iff.1 h)
    have hd2 : strB uss ≠ [42] := fun h => d2 (strB_star.1 h)
    have HF : Hid (fitI (strB cb) (strB sb) ⟨uc, uss, ud, uA, un, uk, ux⟩ = -1) := by unfold Hid fitI; rw [if_neg (by simpa using HP.out), if_pos ⟨hd1, hd2⟩]
    have b5 : (uss.toList == sb.toList) = false := by simpa using d1
    have b6 : (uss.toList == [42]) = false := by simpa using d2
    clear hd1 hd2
    go_wp2_with fail
    go_ret
    exact ⟨by rw [HF.out]; rfl, Ext.out⟩
  have hc1 : strB uc ≠ strB cb := fun h => c1 (strB_iff.1 h)
  have hc2 : strB uc ≠ [42] := fun h => c2 (strB_star.1 h)
  have HF : Hid (fitI (strB cb) (strB sb) ⟨uc, uss, ud, uA, un, uk, ux⟩ = -1) := by unfold Hid fitI; rw [if_pos ⟨hc1, hc2⟩]
  have b5 : (uc.toList == cb.toList) = false := by simpa using c1
  have b6 : (uc.toList == [42]) = false := by simpa using c2
  clear hc1 hc2
  go_wp2_with fail
  go_ret
  exact ⟨by rw [HF.out]; rfl, Ext.out⟩
def RFindTells (c s : List Int) (us : List SV) (w : World) (e : Ending) (w' : World) : Prop :=
  Below w.heap.size w w' ∧ match findF c s us with
    | none => e = .returned (.tuple #[.agg zSec, .bool false])
    | some u => e = .returned (.tuple #[u.val, .bool true])
theorem best_star {c s : List Int} (h : c = [42] ∨ s = [42]) : ∀ (us : List SV) (i : Nat) (p : Int × Nat), bestF c s i us p = p := by
  intro us
  induction us with
  | nil => intro i p; rfl
  | cons u us ih =>
    intro i p
    rw [bestF_cons, ih]
    unfold bestStep
    rw [if_neg]
    rintro ⟨h1, _⟩
    rcases h with h | h
    · rw [gate1 h] at h1; cases h1
    · rw [gate2 h] at h1; cases h1
set_option maxRecDepth 100000 in
set_option maxHeartbeats 8000000 in
theorem rfind_any (A : Option Addr) (n c : Nat) (us : List SV) (cb sb : ByteArray) (hn : us.length = n) (hn' : n ≤ 17592186044416) (w : World) (hx : SecsAt w A us) :
    Calls Try.prog 29 #[.slice A n c, .string cb, .string sb] w (RFindTells (strB cb) (strB sb) us w) := by
  have Hn := Lib.hid hn
  have HX := Lib.hid hx
  clear hn hx
  by_cases e1 : cb.toList = [42]
  · skip
    have HF : Hid (findF (strB cb) (strB sb) us = none) := by unfold Hid findF; rw [best_star (.inl (strB_star.2 e1))]; rfl
    go_enter Try.func29, Try.ntmps29
    go_wp2_with
      (refine wpList_store_row_o rfl 44 (.tmp 6) (.tmp 19) rfl w.heap.size zSec rfl rfl 44 zSec (at_new w (.cells zSec 44)) (by kernel_rfl) rfl (by simp [Value.oneCell']) ?_
       intro w3 hr3 ho3 hz3 hb3)
    refine bodyPost_ret (results_cell_row2 Try.results29 _ _ w.heap.size 44 zSec (0, 0) _ (.bool false) rfl rfl hr3 Try.underlying44 rfl (by kernel_rfl)) rfl ?_
    refine ⟨hb3 _ _ (inferInstance : Ext w (w.alloc _)).out (Nat.le_refl _), ?_⟩
    rw [HF.out]
  by_cases e2 : sb.toList = [42]
  · skip
    have HF : Hid (findF (strB cb) (strB sb) us = none) := by unfold Hid findF; rw [best_star (.inr (strB_star.2 e2))]; rfl
    go_enter Try.func29, Try.ntmps29
    go_wp2_with
      (refine wpList_store_row_o rfl 44 (.tmp 6) (.tmp 19) rfl w.heap.size zSec rfl rfl 44 zSec (at_new w (.cells zSec 44)) (by kernel_rfl) rfl (by simp [Value.oneCell']) ?_
       intro w3 hr3 ho3 hz3 hb3)
    refine bodyPost_ret (results_cell_row2 Try.results29 _ _ w.heap.size 44 zSec (0, 0) _ (.bool false) rfl rfl hr3 Try.underlying44 rfl (by kernel_rfl)) rfl ?_
    refine ⟨hb3 _ _ (inferInstance : Ext w (w.alloc _)).out (Nat.le_refl _), ?_⟩
    rw [HF.out]
  have E1 : Hid (strB cb ≠ [42]) := fun h => e1 (strB_star.1 h)
  have E2 : Hid (strB sb ≠ [42]) := fun h => e2 (strB_star.1 h)
  have b1 : (cb.toList == [42]) = false := by simpa using e1
  have b2 : (sb.toList == [42]) = false := by simpa using e2
  clear e1 e2
  go_enter Try.func29, Try.ntmps29
  go_upto_block 0 with fail
  obtain ⟨wb, hwb⟩ : ∃ wb, w.alloc (.cells zSec 44) = wb := ⟨_, rfl⟩
  have HP : Hid (wb.heap[w.heap.size]? = some (.cells zSec 44 (0, 0))) := by unfold Hid; rw [← hwb]; exact at_new w _
  have HWB : Hid (Ext w wb) := by unfold Hid; rw [← hwb]; exact inferInstance
  have SB : Step wb w := ⟨HWB.out.out⟩
  rw [hwb]
  clear hwb b1 b2
  go_wp2_with fail
  go_loopw [22, 8, 9, 10, 11, 12] (fun i b a x5 x6 x7 wr => ∃ (k : Nat) (bb av : Int) (aa : Nat), i = .int .i64 k ∧ k ≤ n ∧ b = .int .i64 bb ∧ a = .int .i64 av ∧ Hid (bestF (strB cb) (strB sb) 0 us (-1, 0) = bestF (strB cb) (strB sb) k (us.drop k) (bb, aa)) ∧ Hid ((bb < 0 ∧ av = -1) ∨ (0 ≤ bb ∧ av = aa ∧ aa < n)) ∧ Hid (-1 ≤ bb) ∧ Hid (Ext wb wr)) (fun i _ _ _ _ _ _ => n - (intOf i).toNat)
  case atStart => exact ⟨0, -1, -1, 0, rfl, by omega, rfl, rfl, rfl, by unfold Hid; omega, by unfold Hid; omega, (inferInstance : Ext wb wb)⟩
  case round =>
    obtain ⟨k, bb, av, aa, rfl, hk, rfl, rfl, HBF, HLI, HBM, HW⟩ := hrel
    have Sr : Step wr wb := ⟨HW.out.out⟩
    by_cases hlt : k < n
    · obtain ⟨u, hu⟩ : ∃ u, us[k]? = some u := ⟨_, List.getElem?_eq_getElem (by rw [Hn.out]; exact hlt)⟩
      obtain ⟨ad, rfl, hc0, hc1, hc2, hc3⟩ := sec_at (HX.out.ext (w' := wr)).x hu
      have HK := Lib.hid ((HX.out.ext (w' := wr)).ok u (List.mem_of_getElem? hu))
      rw [drop_at hu, bestF_cons, fit_step E1.out E2.out HBM.out] at HBF
      clear hu
      obtain ⟨uc, uss, ud, uA, un, uk, ux⟩ := u
      simp only at hc0 hc1 hc2 hc3
      go_upto_region 7 with fail
      obtain ⟨wq, hwq⟩ : ∃ wq, wr.alloc (.cells #[.string uc, .string uss, .string ud, .slice uA un uk] 44) = wq := ⟨_, rfl⟩
      have HU : Hid (wq.heap[wr.heap.size]? = some (.cells #[.string uc, .string uss, .string ud, .slice uA un uk] 44 (0, 0))) := by unfold Hid; rw [← hwq]; exact at_new wr _
      have Sq : Step wq wr := ⟨by rw [← hwq]; exact Ext.out⟩
      rw [hwq]
      clear hwq hc0 hc1 hc2 hc3
      have u0 : wq.cell? ⟨wr.heap.size, 0, none⟩ = some (.string uc) := at_cell (at_ext HU.out) 0
      have u1 : wq.cell? ⟨wr.heap.size, 1, none⟩ = some (.string uss) := at_cell (at_ext HU.out) 1
      have u2 : wq.cell? ⟨wr.heap.size, 2, none⟩ = some (.string ud) := at_cell (at_ext HU.out) 2
      have u3 : wq.cell? ⟨wr.heap.size, 3, none⟩ = some (.slice uA un uk) := at_cell (at_ext HU.out) 3
      go_wp2_with fail
      refine (fits_any ⟨uc, uss, ud, uA, un, uk, ux⟩ cb sb _).mono ?_
      rintro e w3 ⟨rfl, hb3⟩
      have S3 : Step w3 wq := ⟨hb3⟩
      obtain ⟨ft, hft⟩ : ∃ ft, fitI (strB cb) (strB sb) ⟨uc, uss, ud, uA, un, uk, ux⟩ = ft := ⟨_, rfl⟩
      rw [hft] at HBF ⊢
      clear hft hb3 u0 u1 u2 u3
      have u0 : w3.cell? ⟨wr.heap.size, 0, none⟩ = some (.string uc) := at_cell (at_ext HU.out) 0
      have u1 : w3.cell? ⟨wr.heap.size, 1, none⟩ = some (.string uss) := at_cell (at_ext HU.out) 1
      have u2 : w3.cell? ⟨wr.heap.size, 2, none⟩ = some (.string ud) := at_cell (at_ext HU.out) 2
      have u3 : w3.cell? ⟨wr.heap.size, 3, none⟩ = some (.slice uA un uk) := at_cell (at_ext HU.out) 3
      go_wp2_with fail
      refine (rright_any uc uss ud uA un uk ux HK.out.c HK.out.s HK.out.d HK.out.n HK.out.k _ (by exact HK.out.x.ext)).mono ?_
      rintro e w4 ⟨rfl, hb4⟩
      have S4 : Step w4 w3 := ⟨hb4⟩
      obtain ⟨R, hR⟩ : ∃ R, rightF (strB uc) (strB uss) (strB ud) ux = R := ⟨_, rfl⟩
      have hR' : SV.right ⟨uc, uss, ud, uA, un, uk, ux⟩ = R := hR
      rw [hR'] at HBF
      rw [hR]
      clear hR hR' hb4
      by_cases hr : R = 0
      · subst hr
        by_cases hb : bb < ft
        · rw [if_pos ⟨rfl, hb⟩] at HBF
          go_wp2_with fail
          go_roundw
          case rel => exact ⟨k + 1, ft, k, k, by go_num, by omega, rfl, rfl, HBF.out, by have := HBM.out; unfold Hid; omega, by have := HBM.out; unfold Hid; omega, (inferInstance : Ext wb w4)⟩
          case measure => simp [intOf]; omega
        · rw [if_neg (by rintro ⟨_, h⟩; exact hb h)] at HBF
          go_wp2_with fail
          go_roundw
          case rel => exact ⟨k + 1, bb, av, aa, by go_num, by omega, rfl, rfl, HBF.out, HLI.out, HBM.out, (inferInstance : Ext wb w4)⟩
          case measure => simp [intOf]; omega
      · have hr' : (R == 0) = false := by simpa using hr
        rw [if_neg (by rintro ⟨h, _⟩; exact hr h)] at HBF
        clear hr
        go_wp2_with fail
        go_roundw
        case rel => exact ⟨k + 1, bb, av, aa, by go_num, by omega, rfl, rfl, HBF.out, HLI.out, HBM.out, (inferInstance : Ext wb w4)⟩
        case measure => simp [intOf]; omega
    · obtain rfl : k = n := by omega
      have HBZ : Hid (bestF (strB cb) (strB sb) 0 us (-1, 0) = (bb, aa)) := by rw [List.drop_of_length_le (by rw [Hn.out]; exact Nat.le_refl _)] at HBF; exact HBF.out
      by_cases hz : bb < 0
      · have hav : av = -1 := by have := HLI.out; omega
        have HF : Hid (findF (strB cb) (strB sb) us = none) := by unfold Hid findF; rw [HBZ.out, if_pos hz]
        have HPr : Hid (wr.heap[w.heap.size]? = some (.cells zSec 44 (0, 0))) := at_ext HP.out
        subst hav
        go_wp2_with
          (refine wpList_store_row_o rfl 44 (.tmp 6) (.tmp 44) rfl w.heap.size zSec rfl rfl 44 zSec HPr.out (by kernel_rfl) rfl (by simp [Value.oneCell']) ?_
           intro w3 hr3 ho3 hz3 hb3)
        refine bodyPost_ret (results_cell_row2 Try.results29 _ _ w.heap.size 44 zSec (0, 0) _ (.bool false) rfl rfl hr3 Try.underlying44 rfl (by kernel_rfl)) rfl ?_
        refine ⟨hb3 _ _ (inferInstance : Ext w wr).out (Nat.le_refl _), ?_⟩
        rw [HF.out]
      · have hav : av = (aa : Int) ∧ aa < k := by have := HLI.out; omega
        obtain ⟨rfl, hak⟩ := hav
        obtain ⟨u, hu⟩ : ∃ u, us[aa]? = some u := ⟨_, List.getElem?_eq_getElem (by rw [Hn.out]; omega)⟩
        have HF : Hid (findF (strB cb) (strB sb) us = some u) := by unfold Hid findF; rw [HBZ.out, if_neg hz]; exact hu
        obtain ⟨ad, rfl, hc0, hc1, hc2, hc3⟩ := sec_at (HX.out.ext (w' := wr)).x hu
        have hnn : ¬ (aa : Int) < 0 := by omega
        clear hu
        obtain ⟨uc, uss, ud, uA, un, uk, ux⟩ := u
        simp only at hc0 hc1 hc2 hc3
        have HPr : Hid (wr.heap[w.heap.size]? = some (.cells zSec 44 (0, 0))) := at_ext HP.out
        go_wp2_with
          (refine wpList_store_row_o rfl 44 (.tmp 6) (.tmp 48) rfl w.heap.size #[.string uc, .string uss, .string ud, .slice uA un uk] rfl rfl 44 zSec HPr.out (by kernel_rfl) rfl (by simp [Value.oneCell']) ?_
           intro w3 hr3 ho3 hz3 hb3)
        refine bodyPost_ret (results_cell_row2 Try.results29 _ _ w.heap.size 44 #[.string uc, .string uss, .string ud, .slice uA un uk] (0, 0) _ (.bool true) rfl rfl hr3 Try.underlying44 rfl (by kernel_rfl)) rfl ?_
        refine ⟨hb3 _ _ (inferInstance : Ext w wr).out (Nat.le_refl _), ?_⟩
        rw [HF.out]
        rfl
set_option maxRecDepth 100000 in
set_option maxHeartbeats 4000000 in
theorem rfault_any (A : Option Addr) (n c : Nat) (us : List SV) (hn : us.length = n) (hn' : n ≤ 17592186044416) (w : World) (hx : SecsAt w A us) :
    Calls Try.prog 90 #[.slice A n c] w fun e w' => e = .returned (.tuple #[.int .i64 (wrongF us).1, .int .i64 (wrongF us).2]) ∧ Below w.heap.size w w' := by
  have Hn := Lib.hid hn
  have HX := Lib.hid hx
  clear hn hx
  by_cases hl : 64 < n
  · have HF : Hid (wrongF us = (7, 0)) := if_pos (by rw [Hn.out]; exact hl)
    have hl' : 64 < (n : Int) := by omega
    go_enter Try.func90, Try.ntmps90
    go_wp2
    go_ret2
    exact ⟨by rw [HF.out]; rfl, Below.refl _ _⟩
  · have HF : Hid (wrongF us = wrongAt 0 us) := if_neg (by rw [Hn.out]; exact hl)
    have hl' : ¬ 64 < (n : Int) := by omega
    have HL := Lib.hid hl
    clear hl
    go_enter Try.func90, Try.ntmps90
    go_wp2
    go_loopw [12, 4, 5, 6] (fun i a b e wr => ∃ k : Nat, i = .int .i64 k ∧ k ≤ n ∧ Hid (wrongF us = wrongAt k (us.drop k)) ∧ Hid (Ext w wr)) (fun i _ _ _ _ => n - (intOf i).toNat)
    case atStart => exact ⟨0, rfl, by omega, HF.out, (inferInstance : Ext w w)⟩
    case round =>
      obtain ⟨k, rfl, hk, HD, HW⟩ := hrel
      have Sr : Step wr w := ⟨HW.out.out⟩
      by_cases hlt : k < n
      · obtain ⟨u, hu⟩ : ∃ u, us[k]? = some u := ⟨_, List.getElem?_eq_getElem (by rw [Hn.out]; exact hlt)⟩
        obtain ⟨ad, rfl, hc0, hc1, hc2, hc3⟩ := sec_at (HX.out.ext (w' := wr)).x hu
        have HK := Lib.hid ((HX.out.ext (w' := wr)).ok u (List.mem_of_getElem? hu))
        rw [drop_at hu] at HD
        clear hu
        obtain ⟨uc, uss, ud, uA, un, uk, ux⟩ := u
        simp only at hc0 hc1 hc2 hc3
        go_wp2_with fail
        refine (rright_any uc uss ud uA un uk ux HK.out.c HK.out.s HK.out.d HK.out.n HK.out.k _ (by exact HK.out.x.ext)).mono ?_
        rintro e w2 ⟨rfl, hb2⟩
        have S2 : Step w2 _ := ⟨hb2⟩
        obtain ⟨R, hR⟩ : ∃ R, rightF (strB uc) (strB uss) (strB ud) ux = R := ⟨_, rfl⟩
        rw [hR]
        have HD2 : Hid (wrongF us = if R ≠ 0 then (R, k) else wrongAt (k + 1) (us.drop (k + 1))) := by unfold Hid; rw [← hR]; exact HD.out
        clear hR hb2
        by_cases hr : R = 0
        · subst hr
          go_wp2_with fail
          go_roundw
          case rel => exact ⟨k + 1, by go_num, by omega, HD2.out, (inferInstance : Ext w w2)⟩
          case measure => simp [intOf]; omega
        · have hr' : (R != 0) = true := by simpa using hr
          have HZ : Hid (wrongF us = (R, k)) := HD2.out.trans (if_pos hr)
          clear hr
          go_wp2_with fail
          go_ret2
          exact ⟨by rw [HZ.out]; rfl, (inferInstance : Ext w w2).out⟩
      · obtain rfl : k = n := by omega
        have HZ : Hid (wrongF us = (0, 0)) := by rw [List.drop_of_length_le (by rw [Hn.out]; exact Nat.le_refl _)] at HD; exact HD.out
        go_wp2
        go_ret2
        exact ⟨by rw [HZ.out]; rfl, HW.out.out⟩
end Go.Proofs.Ytobddmpiljknpaa

namespace Go.Proofs.Ytobddmpiljknpaa
open Go.ChangeShapes Go.WideShapes Go.ChangeAt Go.RowKit
set_option linter.unusedVariables false
set_option linter.unusedSimpArgs false

theorem sz_str : Try.prog.cellsOf 9 = 1 := by kernel_rfl
theorem sz_i64 : Try.prog.cellsOf 2 = 1 := by kernel_rfl
theorem sz_i64s : Try.prog.cellsOf 42 = 1 := by kernel_rfl
theorem bytes_i64 : Try.prog.bytesOf 2 = 8 := by kernel_rfl
theorem sz_sec : Try.prog.cellsOf 44 = 4 := by kernel_rfl
theorem bytes_sec : Try.prog.bytesOf 44 = 72 := by kernel_rfl
theorem ArgC.sec {U : Nat} {W : World} {cs : List Value} (h : ArgC U Try.prog W 44 cs) : ∃ v : SV, cs = v.cells ∧ v.Ok W := by
  have hl := h.len Try.underlying44
  rw [sz_sec] at hl
  match cs, hl with
  | [a, x, y, z], _ =>
    have h0 : ArgC U Try.prog W 9 (([a, x, y, z].drop 0).take (Try.prog.cellsOf 9)) := h.field Try.underlying44 (i := 0) rfl
    have h1 : ArgC U Try.prog W 9 (([a, x, y, z].drop 1).take (Try.prog.cellsOf 9)) := h.field Try.underlying44 (i := 1) rfl
    have h2 : ArgC U Try.prog W 9 (([a, x, y, z].drop 2).take (Try.prog.cellsOf 9)) := h.field Try.underlying44 (i := 2) rfl
    have h3 : ArgC U Try.prog W 42 (([a, x, y, z].drop 3).take (Try.prog.cellsOf 42)) := h.field Try.underlying44 (i := 3) rfl
    rw [sz_str] at h0 h1 h2
    rw [sz_i64s] at h3
    obtain ⟨c, e0, l0⟩ := h0.str Try.underlying9
    obtain ⟨s, e1, l1⟩ := h1.str Try.underlying9
    obtain ⟨d, e2, l2⟩ := h2.str Try.underlying9
    obtain ⟨A, n, k, xs, e3, hl, hnc, _, hbb, _, hC, hw⟩ := h3.nums Try.underlying42 Try.underlying2 sz_i64
    rw [bytes_i64] at hbb
    simp at e0 e1 e2 e3
    subst e0 e1 e2 e3
    exact ⟨⟨c, s, d, A, n, k, xs⟩, rfl, ⟨by simp only; omega, by simp only; omega, by simp only; omega, hl, by simp only; omega, hnc, hC⟩⟩
theorem secs_at {vs : List SV} {i : Nat} {v : SV} (h : vs[i]? = some v) (j : Nat) (hj : j < 4) : (secs vs)[i * 4 + j]? = v.cells[j]? := by
  obtain ⟨h0, h1, h2, h3⟩ := secs_get h
  match j, hj with
  | 0, _ => rw [Nat.add_zero, h0]; rfl
  | 1, _ => rw [h1]; rfl
  | 2, _ => rw [h2]; rfl
  | 3, _ => rw [h3]; rfl
theorem Arg.secs {U : Nat} {W : World} {v : Value} (h : Arg U Try.prog W 37 v) : ∃ A n c vs, v = .slice A n c ∧ vs.length = n ∧ n ≤ 17592186044416 ∧ n ≤ c ∧ SecsAt W A vs := by
  obtain ⟨A', n', c', rfl⟩ := h.slice_shape Try.underlying37
  obtain ⟨A, n, c, hcs, hnc, hc', hb, hnil, hall⟩ := h.2.slice Try.underlying37
  rw [bytes_sec] at hb
  simp [Value.cells] at hcs
  obtain ⟨rfl, rfl, rfl⟩ := hcs
  obtain ⟨vs, hl, hvs⟩ := list_of (n := n') (p := fun i (v : SV) => (∃ ad, A' = some ad ∧ ∀ j u, v.cells[j]? = some u → W.cell? (ad.add (i * 4 + j)) = some u) ∧ v.Ok W) (by
    intro i hi
    obtain ⟨ad, es, hA, hes, hcell, harg⟩ := hall i hi
    rw [sz_sec] at hcell
    obtain ⟨v, rfl, h1⟩ := harg.sec
    exact ⟨v, ⟨ad, hA, hcell⟩, h1⟩)
  refine ⟨A', n', c', vs, rfl, hl, by omega, hnc, fun hpos => ?_, fun v hv => by
    obtain ⟨i, hi, rfl⟩ := List.getElem_of_mem hv
    exact (hvs i _ (List.getElem?_eq_getElem hi)).2⟩
  rw [secs_length] at hpos
  obtain ⟨⟨ad, hA, _⟩, _⟩ := hvs 0 vs[0] (List.getElem?_eq_getElem (by omega))
  refine ⟨ad, hA, fun j u hu => ?_⟩
  have hj : j < (Proofs.Ytobddmpiljknpaa.secs vs).length := (List.getElem?_eq_some_iff.1 hu).1
  rw [secs_length] at hj
  have hi : j / 4 < vs.length := by omega
  have hg : vs[j / 4]? = some vs[j / 4] := List.getElem?_eq_getElem hi
  have hjj : j / 4 * 4 + j % 4 = j := by omega
  have h1 := secs_at hg (j % 4) (by omega)
  rw [hjj, hu] at h1
  obtain ⟨⟨ad', hA', hcell⟩, _⟩ := hvs (j / 4) _ hg
  rw [hA] at hA'
  injection hA' with hA'
  subst hA'
  have := hcell (j % 4) u h1.symm
  rwa [hjj] at this
/-- What hangs on the texts and numbers alone. -/
theorem dat_parts {u v : SV} (h : u.dat = v.dat) : u.c = v.c ∧ u.s = v.s ∧ u.d = v.d ∧ u.xs = v.xs := by
  simp only [SV.dat, Prod.mk.injEq] at h
  exact ⟨h.1.1, h.1.2, h.2.1, h.2.2⟩
theorem gate_dat {c s : List Int} {u v : SV} (h : u.dat = v.dat) : gateF c s u = gateF c s v ∧ rankF c s u = rankF c s v ∧ u.right = v.right := by
  obtain ⟨h1, h2, h3, h4⟩ := dat_parts h
  unfold gateF rankF SV.right
  rw [h1, h2, h3, h4]
  exact ⟨rfl, rfl, rfl⟩
theorem best_dat {c s : List Int} : ∀ (us vs : List SV), us.map SV.dat = vs.map SV.dat → ∀ (i : Nat) (p : Int × Nat), bestF c s i us p = bestF c s i vs p := by
  intro us
  induction us with
  | nil => intro vs h i p; cases vs with
    | nil => rfl
    | cons v vs => simp at h
  | cons u us ih => intro vs h i p; cases vs with
    | nil => simp at h
    | cons v vs =>
      simp only [List.map_cons, List.cons.injEq] at h
      rw [bestF_cons, bestF_cons, ih vs h.2]
      unfold bestStep
      rw [(gate_dat h.1).1, (gate_dat h.1).2.1]
theorem check_dat {c s d : List Int} {us vs : List SV} (h : us.map SV.dat = vs.map SV.dat) : checkF c s d us = checkF c s d vs := by
  unfold checkF findF
  rw [best_dat us vs h]
  generalize bestF c s 0 vs (-1, 0) = p
  by_cases hp : p.1 < 0
  · rw [if_pos hp, if_pos hp]
  rw [if_neg hp, if_neg hp]
  have h1 : (us.map SV.dat)[p.2]? = (vs.map SV.dat)[p.2]? := by rw [h]
  rw [List.getElem?_map, List.getElem?_map] at h1
  rcases h2 : us[p.2]? with _ | u
  · rcases h3 : vs[p.2]? with _ | v
    · rfl
    · rw [h2, h3] at h1; cases h1
  · rcases h3 : vs[p.2]? with _ | v
    · rw [h2, h3] at h1; cases h1
    · rw [h2, h3] at h1
      simp only [Option.map_some, Option.some.injEq] at h1
      simp only
      rw [(dat_parts h1).2.2.1]
theorem wrongAt_dat : ∀ (us vs : List SV), us.map SV.dat = vs.map SV.dat → ∀ i, wrongAt i us = wrongAt i vs := by
  intro us
  induction us with
  | nil => intro vs h i; cases vs with
    | nil => rfl
    | cons v vs => simp at h
  | cons u us ih => intro vs h i; cases vs with
    | nil => simp at h
    | cons v vs =>
      simp only [List.map_cons, List.cons.injEq] at h
      unfold wrongAt
      rw [(gate_dat (c := []) (s := []) h.1).2.2, ih vs h.2]
theorem wrong_dat {us vs : List SV} (h : us.map SV.dat = vs.map SV.dat) : wrongF us = wrongF vs := by
  have hl : us.length = vs.length := by have := congrArg List.length h; simpa using this
  unfold wrongF
  rw [hl, wrongAt_dat us vs h]
theorem strOf_strB (s : ByteArray) : (strOfNums (strB s)).toList = s.toList := strB_inj (strB_str _ (strB_byt s))
theorem strOf_eq (s : ByteArray) : strOfNums (strB s) = s := by
  have h := strOf_strB s
  rw [Lib.toList_data, Lib.toList_data] at h
  exact ByteArray.ext (Array.toList_inj.1 h)
end Go.Proofs.Ytobddmpiljknpaa
