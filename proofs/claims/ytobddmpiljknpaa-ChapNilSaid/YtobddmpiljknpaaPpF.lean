/-
  secret.Right: what is wrong of a secret; a set of numbers that a call makes. Conditions: texts and addresses are no longer than the model's memory.
-/
import Derived.Test.YtobddmpiljknpaaPpA
import Derived.Maps.Own
import Derived.Deep.DeepCutAuto
import Derived.Maps.Views
namespace Go.Proofs.Ytobddmpiljknpaa
open Go.RowKit
set_option linter.unusedVariables false
set_option linter.unusedSimpArgs false

/-- A set of numbers. -/
def SetIs (w : World) (b n : Nat) (xs : List Int) : Prop := ∃ D : DataW Unit, w.ownsMap Try.prog 2 (plainElem Try.prog 4) b n D ∧ Maps.IsMap D ∧ ∀ k, D.atKey (.int .i64 k) (.lit (.bool false)) = .lit (.bool (decide (k ∈ xs)))
theorem i64_keyed : Maps.Keyed Try.prog 2 := Maps.int_keyed Try.underlying2
theorem set_made (w : World) : SetIs (w.alloc (.map #[] 0)) w.heap.size 0 [] :=
  ⟨_, World.ownsMap_made _ _ _ _, ⟨_, rfl⟩, fun k => rfl⟩
theorem plain_bool_inv {v : Value} {x : Bool} {ps : List MemPlace} (h : plainElem (H := Unit) Try.prog 4 v = some (.lit (.bool x), ps)) : v = .bool x := by
  cases v <;> simp [plainElem, Try.underlying4] at h
  rw [h.1]
theorem set_look {w : World} {b n : Nat} {xs : List Int} (h : SetIs w b n xs) (a : Int) (ha : (Lit.int .i64 a).wf = true) : (Instr.lookup 185 (.map (some b)) (.int .i64 a) false).run Try.prog w = .ok (.bool (decide (a ∈ xs))) w := by
  obtain ⟨D, ho, _, hat⟩ := h
  obtain ⟨v, ps, hrun, hv⟩ := ho.lookup i64_keyed Try.underlying185 (z := .bool false) (by kernel_rfl) (plainElem_bool Try.underlying4 false) (Maps.keyOf_int_mk Try.underlying2 ha)
  rw [hat] at hv
  rw [hrun, plain_bool_inv hv]
theorem set_put {w : World} {b n : Nat} {xs : List Int} {ops : Array Oper} {rest : List Oper} {o : Oper} {a : Act} {Q : Exit → Act → World → Prop} (hg : o.guard = none) (m x v : Operand) (hop : o.op = Op.mapUpdate 185 m x v)
    (hm : a.eval m = .map (some b)) (h : SetIs w b n xs) (hn : n < maxLen) (k : Int) (hx : a.eval x = .int .i64 k) (hv : a.eval v = .bool true) (hk : (Lit.int .i64 k).wf = true)
    (hK : ∀ w', SetIs w' b (n + 1) (k :: xs) → w.grownBy w' (some b) → wpList Try.prog ops Q rest (a.put o.dst undef) w') : wpList Try.prog ops Q (o :: rest) a w := by
  obtain ⟨D, ho, hM, hat⟩ := h
  refine wpList_mapUpdate_own w hg m x v 185 hop 2 4 i64_keyed Try.underlying185 _ b n D hm ho hn _ _ _ hx hv (Maps.keyOf_int_mk Try.underlying2 hk) (.lit (.bool true)) [] (plainElem_bool Try.underlying4 true) ?_
  intro w' h1 h2
  refine hK w' ⟨_, h1, hM.put _ _, fun j => ?_⟩ h2
  by_cases hj : j = k
  · subst hj
    rw [Maps.atKey_put_same hM (by unfold WideAt.IsKeyLit; trivial)]
    simp
  · rw [Maps.atKey_put_other (fun h => hj (by injection h)), hat]
    simp [hj]
/-- What is wrong of a secret. -/
def adOk (a : Int) : Bool := decide (1 ≤ a ∧ a ≤ 4294967295)
def rightF (c s d : List Int) (xs : List Int) : Int :=
  if (nameF c && nameF s) = false then 60 else if d ≠ [] ∧ nameF d = false then 52 else if 16 < xs.length then 7 else if xs.all adOk = false then 150 else if decide xs.Nodup = false then 6 else 0
abbrev star : ByteArray := ⟨#[42]⟩
theorem star_name {s : ByteArray} (h : s.toList = [42]) : nameF (strB s) = true := by
  have e : strB s = [42] := by unfold strB; rw [← Lib.toList_data, h]; rfl
  rw [e]
  decide +kernel
theorem strB_inj {s t : ByteArray} (h : strB s = strB t) : s.toList = t.toList := by
  rw [Lib.toList_data, Lib.toList_data]
  refine (List.map_inj_right (f := fun b : UInt8 => (b.toNat : Int)) (fun x y h => UInt8.toNat_inj.1 (Int.ofNat_inj.1 h))).1 h
theorem strB_of {s t : ByteArray} (h : s.toList = t.toList) : strB s = strB t := by
  unfold strB
  rw [← Lib.toList_data, h, Lib.toList_data]
theorem strB_nil {s : ByteArray} : strB s = [] ↔ s = ⟨#[]⟩ := by
  constructor
  · intro h
    have h1 := strB_len s
    rw [h] at h1
    exact ByteArray.ext (Array.eq_empty_of_size_eq_zero h1.symm)
  · rintro rfl; rfl
theorem nodup_snoc {xs : List Int} {k : Nat} (hk : k < xs.length) : decide (xs.take (k + 1)).Nodup = (decide (xs.take k).Nodup && !decide (xs.getD k 0 ∈ xs.take k)) := by
  rw [List.getD_eq_getElem?_getD, List.getElem?_eq_getElem hk, List.take_add_one, List.getElem?_eq_getElem hk]
  simp only [Option.toList, Option.getD_some]
  rw [← decide_not, ← Bool.decide_and]
  refine decide_eq_decide.2 ?_
  rw [List.nodup_append]
  constructor
  · intro ⟨h1, _, h2⟩
    exact ⟨h1, fun h => h2 _ h _ (by simp) rfl⟩
  · intro ⟨h1, h2⟩
    exact ⟨h1, by simp, fun a ha b hb e => by simp at hb; subst hb; subst e; exact h2 ha⟩
theorem set_perm {w : World} {b n : Nat} {xs ys : List Int} (h : SetIs w b n xs) (hp : ∀ k, k ∈ xs ↔ k ∈ ys) : SetIs w b n ys := by
  obtain ⟨D, h1, h2, h3⟩ := h
  exact ⟨D, h1, h2, fun k => by rw [h3]; simp only [hp]⟩
set_option maxRecDepth 100000 in
set_option maxHeartbeats 8000000 in
theorem right_any (c s d : ByteArray) (A : Option Addr) (n cp : Nat) (xs : List Int) (hc : c.size ≤ 140737488355328) (hs : s.size ≤ 140737488355328) (hd : d.size ≤ 140737488355328) (hn : xs.length = n) (w : World) (hx : Cells w A (nums .i64 xs)) :
    Calls Try.prog 106 #[.agg #[.string c, .string s, .string d, .slice A n cp]] w fun e w' => e = .returned (.int .i64 (rightF (strB c) (strB s) (strB d) xs)) ∧ Below w.heap.size w w' := by
  have Hn := Lib.hid hn
  have HX := Lib.hid hx
  clear hn hx
  have hmm := @run_makeMap Try.prog
  go_enter Try.func106, Try.ntmps106
  go_upto_region 1 with fail
  obtain ⟨wb, hwb⟩ : ∃ wb, w.alloc (.cells #[.string c, .string s, .string d, .slice A n cp] 44) = wb := ⟨_, rfl⟩
  have HP : Hid (wb.heap[w.heap.size]? = some (.cells #[.string c, .string s, .string d, .slice A n cp] 44 (0, 0))) := by unfold Hid; rw [← hwb]; exact at_new w _
  have HW : Hid (Ext w wb) := by unfold Hid; rw [← hwb]; exact inferInstance
  rw [hwb]
  clear hwb
  obtain ⟨q1, hq1⟩ : ∃ q1, (!(nameF (strB c) && nameF (strB s))) = q1 := ⟨_, rfl⟩
  have HQ1 := Lib.hid hq1
  clear hq1
  go_cut [7] (fun s wx => s = .bool q1 ∧ Hid (Ext wb wx))
  case first =>
    have p0 : wb.cell? ⟨w.heap.size, 0, none⟩ = some (.string c) := at_cell HP.out 0
    have p1 : wb.cell? ⟨w.heap.size, 1, none⟩ = some (.string s) := at_cell HP.out 1
    have pb0 : (nameF (strB c) = true) ∨ nameF (strB c) = false := by cases nameF (strB c) <;> simp
    have pb1 : (nameF (strB s) = true) ∨ nameF (strB s) = false := by cases nameF (strB s) <;> simp
    by_cases hcs : c.toList = [42]
    · have HA := Lib.hid (star_name hcs)
      by_cases hss : s.toList = [42]
      · have HB := Lib.hid (star_name hss)
        go_wp2_with fail
        go_meet
        case rel => exact ⟨by rw [← HQ1.out, HA.out, HB.out]; rfl, (inferInstance : Ext wb wb)⟩
      · skip
        rcases pb1 with hb | hb
        · skip
          have HB : Hid (nameF (strB s) = true) := hb
          clear hb
          go_wp2_with fail
          refine (name_any s hs _).mono ?_
          rintro e wy ⟨rfl, hby⟩
          rw [HB.out]
          have HXy : Hid (Ext wb wy) := ⟨hby⟩
          have p0 : wy.cell? ⟨w.heap.size, 0, none⟩ = some (.string c) := by have := HXy.out; exact at_cell (at_ext HP.out) 0
          have p1 : wy.cell? ⟨w.heap.size, 1, none⟩ = some (.string s) := by have := HXy.out; exact at_cell (at_ext HP.out) 1
          clear hby
          go_wp2_with fail
          go_meet
          case rel => exact ⟨by rw [← HQ1.out, HA.out, HB.out]; rfl, HXy⟩
        · skip
          have hsb : (s.toList == [42]) = false := by simpa using hss
          have HB : Hid (nameF (strB s) = false) := hb
          clear hb
          go_wp2_with fail
          refine (name_any s hs _).mono ?_
          rintro e wy ⟨rfl, hby⟩
          rw [HB.out]
          have HXy : Hid (Ext wb wy) := ⟨hby⟩
          have p0 : wy.cell? ⟨w.heap.size, 0, none⟩ = some (.string c) := by have := HXy.out; exact at_cell (at_ext HP.out) 0
          have p1 : wy.cell? ⟨w.heap.size, 1, none⟩ = some (.string s) := by have := HXy.out; exact at_cell (at_ext HP.out) 1
          clear hby
          go_wp2_with fail
          go_meet
          case rel => exact ⟨by rw [← HQ1.out, HA.out, HB.out]; rfl, HXy⟩
    · skip
      rcases pb0 with hb | hb
      · skip
        have HA : Hid (nameF (strB c) = true) := hb
        clear hb
        go_wp2_with fail
        refine (name_any c hc _).mono ?_
        rintro e wx ⟨rfl, hby⟩
        rw [HA.out]
        have HXx : Hid (Ext wb wx) := ⟨hby⟩
        have p0 : wx.cell? ⟨w.heap.size, 0, none⟩ = some (.string c) := by have := HXx.out; exact at_cell (at_ext HP.out) 0
        have p1 : wx.cell? ⟨w.heap.size, 1, none⟩ = some (.string s) := by have := HXx.out; exact at_cell (at_ext HP.out) 1
        clear hby
        by_cases hss : s.toList = [42]
        · have HB := Lib.hid (star_name hss)
          go_wp2_with fail
          go_meet
          case rel => exact ⟨by rw [← HQ1.out, HA.out, HB.out]; rfl, HXx⟩
        · skip
          rcases pb1 with hb | hb
          · skip
            have HB : Hid (nameF (strB s) = true) := hb
            clear hb
            go_wp2_with fail
            refine (name_any s hs _).mono ?_
            rintro e wy ⟨rfl, hby⟩
            rw [HB.out]
            have HXy : Hid (Ext wb wy) := Ext.trans_ HXx.out ⟨hby⟩
            have p0 : wy.cell? ⟨w.heap.size, 0, none⟩ = some (.string c) := by have := HXy.out; exact at_cell (at_ext HP.out) 0
            have p1 : wy.cell? ⟨w.heap.size, 1, none⟩ = some (.string s) := by have := HXy.out; exact at_cell (at_ext HP.out) 1
            clear hby
            go_wp2_with fail
            go_meet
            case rel => exact ⟨by rw [← HQ1.out, HA.out, HB.out]; rfl, HXy⟩
          · skip
            have hsb : (s.toList == [42]) = false := by simpa using hss
            have HB : Hid (nameF (strB s) = false) := hb
            clear hb
            go_wp2_with fail
            refine (name_any s hs _).mono ?_
            rintro e wy ⟨rfl, hby⟩
            rw [HB.out]
            have HXy : Hid (Ext wb wy) := Ext.trans_ HXx.out ⟨hby⟩
            have p0 : wy.cell? ⟨w.heap.size, 0, none⟩ = some (.string c) := by have := HXy.out; exact at_cell (at_ext HP.out) 0
            have p1 : wy.cell? ⟨w.heap.size, 1, none⟩ = some (.string s) := by have := HXy.out; exact at_cell (at_ext HP.out) 1
            clear hby
            go_wp2_with fail
            go_meet
            case rel => exact ⟨by rw [← HQ1.out, HA.out, HB.out]; rfl, HXy⟩
      · skip
        have HA : Hid (nameF (strB c) = false) := hb
        clear hb
        go_wp2_with fail
        refine (name_any c hc _).mono ?_
        rintro e wx ⟨rfl, hby⟩
        rw [HA.out]
        have HXx : Hid (Ext wb wx) := ⟨hby⟩
        have p0 : wx.cell? ⟨w.heap.size, 0, none⟩ = some (.string c) := by have := HXx.out; exact at_cell (at_ext HP.out) 0
        have p1 : wx.cell? ⟨w.heap.size, 1, none⟩ = some (.string s) := by have := HXx.out; exact at_cell (at_ext HP.out) 1
        clear hby
        go_wp2_with fail
        go_meet
        case rel => exact ⟨by rw [← HQ1.out, HA.out]; rfl, HXx⟩
  case' rest =>
    obtain ⟨rfl, HX2⟩ := hcut
    generalize wc = y2 at *
    have H2 := Lib.hid (HX2.out)
    have H3 : Hid (Ext w y2) := Ext.trans_ HW.out HX2.out
    clear HX2
    cases q1
    case true =>
      have HF : Hid (rightF (strB c) (strB s) (strB d) xs = 60) := if_pos (by have h := HQ1.out; rw [Bool.not_eq_true'] at h; exact h)
      go_wp2
      go_ret
      exact ⟨by rw [HF.out]; rfl, H3.out.out⟩
    case false =>
      have HG : Hid (∀ r, (if strB d ≠ [] ∧ nameF (strB d) = false then 52 else if 16 < xs.length then 7 else if xs.all adOk = false then 150 else if decide xs.Nodup = false then 6 else 0) = r → rightF (strB c) (strB s) (strB d) xs = r) := fun r h => (if_neg (fun h' => by have h := HQ1.out; rw [h'] at h; cases h)).trans h
      clear HQ1
      obtain ⟨q2, hq2⟩ : ∃ q2, (decide (strB d ≠ []) && !(nameF (strB d))) = q2 := ⟨_, rfl⟩
      have HQ2 := Lib.hid hq2
      clear hq2
      go_upto_region 3 with fail
      go_cut [28] (fun s wx => s = .bool q2 ∧ Hid (Ext y2 wx))
      case first =>
        have p0 : y2.cell? ⟨w.heap.size, 2, none⟩ = some (.string d) := by have := H2.out; exact at_cell (at_ext HP.out) 2
        by_cases hds : d.toList = []
        · have HD0 : Hid (strB d = []) := by unfold Hid strB; rw [← Lib.toList_data, hds]; rfl
          go_wp2_with fail
          go_meet
          case rel => exact ⟨by rw [← HQ2.out, HD0.out]; rfl, (inferInstance : Ext y2 y2)⟩
        · have HD0 : Hid (decide (strB d ≠ []) = true) := decide_eq_true (fun h => hds (by unfold strB at h; rw [Lib.toList_data]; exact List.map_eq_nil_iff.1 h))
          have hdb : (d.toList == []) = false := by simpa using hds
          have pb : (nameF (strB d) = true) ∨ nameF (strB d) = false := by cases nameF (strB d) <;> simp
          rcases pb with hb | hb
          · have HB := Lib.hid hb
            clear hb
            go_wp2_with fail
            refine (name_any d hd _).mono ?_
            rintro e wx ⟨rfl, hby⟩
            rw [HB.out]
            go_wp2_with fail
            go_meet
            case rel => exact ⟨by rw [← HQ2.out, HD0.out, HB.out]; rfl, ⟨hby⟩⟩
          · have HB := Lib.hid hb
            clear hb
            go_wp2_with fail
            refine (name_any d hd _).mono ?_
            rintro e wx ⟨rfl, hby⟩
            rw [HB.out]
            go_wp2_with fail
            go_meet
            case rel => exact ⟨by rw [← HQ2.out, HD0.out, HB.out]; rfl, ⟨hby⟩⟩
      case' rest =>
        obtain ⟨rfl, HX3⟩ := hcut
        generalize wc = y3 at *
        have H4 : Hid (Ext wb y3) := Ext.trans_ H2.out HX3.out
        have H5 : Hid (Ext w y3) := Ext.trans_ H3.out HX3.out
        clear HX3
        cases q2
        case true =>
          have HF : Hid (rightF (strB c) (strB s) (strB d) xs = 52) := HG.out _ (if_pos (by have h := HQ2.out; simpa using h))
          go_wp2
          go_ret
          exact ⟨by rw [HF.out]; rfl, H5.out.out⟩
        case false =>
          have HG2 : Hid (∀ r, (if 16 < xs.length then 7 else if xs.all adOk = false then 150 else if decide xs.Nodup = false then 6 else 0) = r → rightF (strB c) (strB s) (strB d) xs = r) := fun r h => HG.out _ ((if_neg (fun h' => by have h := HQ2.out; rw [decide_eq_true h'.1, h'.2] at h; cases h)).trans h)
          clear HG HQ2
          have p3 : y3.cell? ⟨w.heap.size, 3, none⟩ = some (.slice A n cp) := by have := H4.out; exact at_cell (at_ext HP.out) 3
          by_cases hl : 16 < n
          · have HF : Hid (rightF (strB c) (strB s) (strB d) xs = 7) := HG2.out _ (if_pos (by rw [Hn.out]; exact hl))
            have hl' : 16 < (n : Int) := by omega
            go_wp2
            go_ret
            exact ⟨by rw [HF.out]; rfl, H5.out.out⟩
          · have HG3 : Hid (∀ r, (if xs.all adOk = false then 150 else if decide xs.Nodup = false then 6 else 0) = r → rightF (strB c) (strB s) (strB d) xs = r) := fun r h => HG2.out _ ((if_neg (by rw [Hn.out]; exact hl)).trans h)
            have HLE := Lib.hid hl
            have hl' : ¬ 16 < (n : Int) := by omega
            clear HG2 hl
            have HX3 : Hid (Cells y3 A (nums .i64 xs)) := by have := H5.out; exact HX.out.ext
            have p3' : ∀ o, (y3.alloc o).cell? ⟨w.heap.size, 3, none⟩ = some (.slice A n cp) := fun o => by have := H4.out; exact at_cell (at_ext HP.out) 3
            go_wp2
            go_loopw [47, 4] (fun i t wr => ∃ k : Nat, i = .int .i64 k ∧ k ≤ n ∧ t = .bool (!decide (xs.take k).Nodup) ∧ Hid ((xs.take k).all adOk = true) ∧ SetIs wr y3.heap.size k (xs.take k) ∧ Hid (Ext y3 wr)) (fun i _ _ => n - (intOf i).toNat)
            case atStart => exact ⟨0, rfl, by omega, rfl, rfl, set_made y3, (inferInstance : Ext y3 _)⟩
            case round =>
              obtain ⟨k, rfl, hk, rfl, HA, HS, HW⟩ := hrel
              have Sr : Step wr y3 := ⟨HW.out.out⟩
              by_cases hlt : k < n
              · obtain ⟨ad, hAd, hc⟩ := (HX3.out.ext (w' := wr)).num (by rw [Hn.out]; exact hlt)
                have HLT := Lib.hid (show k < xs.length by rw [Hn.out]; exact hlt)
                subst hAd
                obtain ⟨X, hX⟩ : ∃ X, xs.getD k 0 = X := ⟨_, rfl⟩
                rw [hX] at hc
                have HXk := Lib.hid hX
                clear hX
                by_cases p1 : X < 1
                · have HF : Hid (rightF (strB c) (strB s) (strB d) xs = 150) := HG3.out _ (if_pos (all_not HLT.out (by rw [HXk.out]; unfold adOk; exact decide_eq_false (by omega))))
                  go_wp2
                  go_ret
                  exact ⟨by rw [HF.out]; rfl, (Ext.trans_ H5.out HW.out).out⟩
                by_cases p2 : 4294967295 < X
                · have HF : Hid (rightF (strB c) (strB s) (strB d) xs = 150) := HG3.out _ (if_pos (all_not HLT.out (by rw [HXk.out]; unfold adOk; exact decide_eq_false (by omega))))
                  go_wp2
                  go_ret
                  exact ⟨by rw [HF.out]; rfl, (Ext.trans_ H5.out HW.out).out⟩
                have HA2 := Lib.hid (all_take_succ HA.out HLT.out (by rw [HXk.out]; unfold adOk; exact decide_eq_true (by omega)))
                have HWF : Hid ((Lit.int .i64 X).wf = true) := WalkArith.wf_i64 (by omega)
                have HND := Lib.hid (nodup_snoc HLT.out)
                have HM : Hid (∀ j, j ∈ X :: xs.take k ↔ j ∈ xs.take (k + 1)) := fun j => by
                  rw [List.take_add_one, List.getElem?_eq_getElem HLT.out]
                  have := HXk.out
                  rw [List.getD_eq_getElem?_getD, List.getElem?_eq_getElem HLT.out] at this
                  simp only [Option.getD_some] at this
                  simp [this, or_comm]
                have HSh := Lib.hid HS
                have hrun := set_look HS X HWF.out
                obtain ⟨dt, hdt⟩ : ∃ dt, decide (xs.take k).Nodup = dt := ⟨_, rfl⟩
                obtain ⟨mt, hmt⟩ : ∃ mt, decide (X ∈ xs.take k) = mt := ⟨_, rfl⟩
                rw [hmt] at hrun
                have HND2 : Hid (decide (xs.take (k + 1)).Nodup = (dt && !mt)) := by unfold Hid; rw [HND.out, hdt, HXk.out, hmt]
                rw [hdt]
                clear HND hdt hmt HS
                cases dt
                · skip
                  go_wp2_with (first | (at_mapUpdate; refine set_put rfl _ _ _ rfl rfl HSh.out (by unfold maxLen; omega) X rfl rfl HWF.out ?_; intro w1 hS1 hg1) | fail)
                  have HBW := Lib.hid (Below.grown HW.out.out hg1 (size_ext (w := y3)) (fun j hj => by cases hj; exact Nat.le_refl _))
                  go_roundw
                  case rel => exact ⟨k + 1, by go_num, by omega, (by rw [HND2.out]; cases mt <;> rfl), HA2.out, set_perm hS1 HM.out, (⟨HBW.out⟩ : Ext y3 w1)⟩
                  case measure => simp [intOf]; omega
                · skip
                  go_wp2_with (first | (at_mapUpdate; refine set_put rfl _ _ _ rfl rfl HSh.out (by unfold maxLen; omega) X rfl rfl HWF.out ?_; intro w1 hS1 hg1) | fail)
                  have HBW := Lib.hid (Below.grown HW.out.out hg1 (size_ext (w := y3)) (fun j hj => by cases hj; exact Nat.le_refl _))
                  go_roundw
                  case rel => exact ⟨k + 1, by go_num, by omega, (by rw [HND2.out]; cases mt <;> rfl), HA2.out, set_perm hS1 HM.out, (⟨HBW.out⟩ : Ext y3 w1)⟩
                  case measure => simp [intOf]; omega
              · obtain rfl : k = n := by omega
                have hall := HA.out
                rw [List.take_of_length_le (by rw [Hn.out]; exact Nat.le_refl _)] at hall
                have HG4 := Lib.hid (fun r h => HG3.out r ((if_neg (by rw [hall]; simp)).trans h))
                have hnd : decide (xs.take k).Nodup = decide xs.Nodup := by rw [List.take_of_length_le (by rw [Hn.out]; exact Nat.le_refl _)]
                rw [hnd]
                obtain ⟨dt, hdt⟩ : ∃ dt, decide xs.Nodup = dt := ⟨_, rfl⟩
                rw [hdt] at HG4 ⊢
                clear hall hnd hdt HS
                cases dt
                · have HF : Hid (rightF (strB c) (strB s) (strB d) xs = 6) := HG4.out _ rfl
                  go_wp2
                  go_ret
                  exact ⟨by rw [HF.out]; rfl, (Ext.trans_ H5.out HW.out).out⟩
                · have HF : Hid (rightF (strB c) (strB s) (strB d) xs = 0) := HG4.out _ rfl
                  go_wp2
                  go_ret
                  exact ⟨by rw [HF.out]; rfl, (Ext.trans_ H5.out HW.out).out⟩
end Go.Proofs.Ytobddmpiljknpaa
