/-
  tetherlaw11's plain, known. No condition.
-/
import Derived.Test.YtodibldfolognaaLcF
import Derived.Test.YtodibldfolognaaCopy
import Derived.Test.YtodibldfolognaaRef01
namespace Go.Proofs.Ytodibldfolognaa
open Go.RowKit
set_option linter.unusedVariables false
set_option linter.unusedSimpArgs false

def cfP (sl : Value) : Array Value := #[.string ⟨#[]⟩, .string ⟨#[]⟩, .int .i64 0, sl, .int .i64 1500, .int .i64 4294967295, .bool true, .bool true, .bool true, .int .i64 0, .int .i64 0, .int .i64 0, .int .i64 0, .bool false, .bool false, .int .u64 0, .int .i64 0, .int .i64 0, .int .i64 0, .int .i64 0, .int .i64 0, .int .i64 5, .int .i64 0, .int .i64 0, .int .i64 0, .int .i64 0, .int .i64 0, .int .i64 0, .bool false, .bool false, .int .i64 0, .string ⟨#[]⟩, .string ⟨#[]⟩]
def cfZ : Array Value := #[.string ⟨#[]⟩, .string ⟨#[]⟩, .int .i64 0, .slice none 0 0, .int .i64 0, .int .i64 0, .bool false, .bool false, .bool false, .int .i64 0, .int .i64 0, .int .i64 0, .int .i64 0, .bool false, .bool false, .int .u64 0, .int .i64 0, .int .i64 0, .int .i64 0, .int .i64 0, .int .i64 0, .int .i64 0, .int .i64 0, .int .i64 0, .int .i64 0, .int .i64 0, .int .i64 0, .int .i64 0, .bool false, .bool false, .int .i64 0, .string ⟨#[]⟩, .string ⟨#[]⟩]
set_option maxRecDepth 100000 in
theorem build_plain (AA : Option Addr) (w : World) : (Instr.build 25 #[(3, .slice AA 2 2), (4, .int .i64 1500), (5, .int .i64 4294967295), (6, .bool true), (7, .bool true), (8, .bool true), (21, .int .i64 5)]).run Try.prog w = .ok (.agg (cfP (.slice AA 2 2))) w := by
  kernel_rfl
theorem wpList_value {P : Program} {ops : Array Oper} {rest : List Oper} {o : Oper} {a : Act} {w : World} {Q : Exit → Act → World → Prop} (hgd : o.guard = none) (t : TypeId) (parts : Array (Nat × Operand)) (ho : o.op = .build t parts) (v : Value)
    (vals : Array (Nat × Value)) (hv : (parts.map fun (i, x) => (i, a.eval x)) = vals) (hr : (Instr.build t vals).run P w = .ok v w) (h : wpList P ops Q rest (a.put o.dst v) w) : wpList P ops Q (o :: rest) a w := by
  refine wpList_plain hgd fun K hK => ?_
  unfold Oper.wp execOp
  simp only [ho, hv, Sem.run_bind, hr, Result.andThen_ok, Sem.run_pure]
  exact hK _ _ h
set_option maxRecDepth 100000 in
set_option maxHeartbeats 2000000 in
theorem plain_any (w : World) : Calls Try.prog 77 #[] w fun e w' => ∃ AA, e = .returned (.agg (cfP (.slice AA 2 2))) ∧ Cells w' AA (nums .i64 [2, 1]) ∧ Below w.heap.size w w' := by
  have HZ : Hid (((w.alloc (.cells cfZ 25)).alloc (.cells (nums .i64 [2, 1]).toArray 3)).heap[w.heap.size]? = some (.cells cfZ 25 (0, 0))) := at_ext (at_new w _)
  have HS : Hid (((w.alloc (.cells cfZ 25)).alloc (.cells (nums .i64 [2, 1]).toArray 3)).heap[w.heap.size + 1]? = some (.cells (nums .i64 [2, 1]).toArray 3 (0, 0))) := at_new1 (by simp)
  go_enter Try.func77, Try.ntmps77
  have hb := build_plain (some ⟨w.heap.size + 1, 0, none⟩)
  go_wp2_with
    (first
     | (refine wpList_value rfl 25 #[(3, .tmp 1), (4, .const (.int .i64 1500)), (5, .const (.int .i64 4294967295)), (6, .const (.bool true)), (7, .const (.bool true)), (8, .const (.bool true)), (21, .const (.int .i64 5))] rfl (.agg (cfP (.slice (some ⟨w.heap.size + 1, 0, none⟩) 2 2))) #[(3, .slice (some ⟨w.heap.size + 1, 0, none⟩) 2 2), (4, .int .i64 1500), (5, .int .i64 4294967295), (6, .bool true), (7, .bool true), (8, .bool true), (21, .int .i64 5)] (by simp [Act.eval]) (hb _) ?_)
     | refine wpList_store_row rfl 25 (.tmp 0) (.tmp 2) rfl w.heap.size (cfP (.slice (some ⟨w.heap.size + 1, 0, none⟩) 2 2)) rfl rfl 25 cfZ HZ.out (by kernel_rfl) rfl (by simp [cfP, Value.oneCell']) ?_)
  refine bodyPost_ret (results_cell_row Try.results77 _ _ w.heap.size 25 _ (0, 0) _ rfl (setRow_heap _ _ _ _ _ _ HZ.out) Try.underlying25 rfl (by kernel_rfl)) rfl ⟨_, rfl, ?_, (Ext.setRow_ (inferInstance : Ext w ((w.alloc (.cells cfZ 25)).alloc (.cells (nums .i64 [2, 1]).toArray 3))) (Nat.le_refl _) _).out⟩
  intro _
  refine ⟨_, rfl, fun j u hu => ?_⟩
  have h9 := at_cell ((setRow_other _ w.heap.size _ (cfP (.slice (some ⟨w.heap.size + 1, 0, none⟩) 2 2)) (by omega)).trans HS.out) j
  rw [add_plain]
  exact h9.trans (by simpa using hu)
theorem known_1 : ljudgeF ⟨2, true, true, true⟩ [2, 1] 5 9 5 0 [(5, [0, 0, 0, 5])] = (3, [(5, [0, 0, 0, 9])]) := by decide +kernel
theorem known_2 : ljudgeF ⟨2, true, true, true⟩ [2, 1] 7 9 5 0 [(1, [5, 120])] = (2, [(1, [5, 120])]) := by decide +kernel
theorem lconf_plain (AA : Option Addr) : LConf (cfP (.slice AA 2 2)) ⟨([2, 1] : List Int).length, true, true, true⟩ AA 2 := ⟨rfl, rfl, rfl, rfl⟩
theorem one_of {us : List OV} {t : Int} {d : List Int} (h : us.map OV.opt = [(t, d)]) : ∃ u, us = [u] ∧ u.t = t ∧ u.d = d := by
  cases us with
  | nil => simp at h
  | cons u us =>
    cases us with
    | cons => simp at h
    | nil =>
      simp [OV.opt] at h
      exact ⟨u, rfl, h.1, h.2⟩
set_option maxRecDepth 100000 in
set_option maxHeartbeats 4000000 in
theorem known11_any (w : World) : Calls Try.prog 13 #[] w fun e w' => e = .returned (.bool true) ∧ Below w.heap.size w w' := by
  have HK1 := Lib.hid known_1
  have HK2 := Lib.hid known_2
  go_enter Try.func13, Try.ntmps13
  go_wp2_with fail
  refine (plain_any _).mono ?_
  rintro e w1 ⟨AA, rfl, hc1, hb1⟩
  have S1 : Step w1 _ := ⟨hb1⟩
  have HC1 := Lib.hid hc1
  have HLC := Lib.hid (lconf_plain AA)
  have HMX : Hid ((cfP (.slice AA 2 2))[21]? = some (.int .i64 5)) := rfl
  obtain ⟨cf, hcf⟩ : ∃ cf, cfP (.slice AA 2 2) = cf := ⟨_, rfl⟩
  rw [hcf] at HLC HMX ⊢
  have HY1 : Hid (Cells (w1.alloc (.cells (nums .u8 [0, 0, 0, 5]).toArray 5)) (some ⟨w1.heap.size, 0, none⟩) (nums .u8 [0, 0, 0, 5])) := cells_box w1 _ rfl _ _
  clear hc1 hb1 hcf
  go_wp2_with fail
  have hb1 : Cells ((w1.alloc (.cells (nums .u8 [0, 0, 0, 5]).toArray 5)).alloc (.cells #[.int .i64 5, .slice (some ⟨w1.heap.size, 0, none⟩) 4 4] 119)) (some ⟨w1.heap.size, 0, none⟩) (nums .u8 [0, 0, 0, 5]) := (cells_box w1 _ rfl (nums .u8 [0, 0, 0, 5]) 5).ext
  refine (ljudge_any cf [2, 1] true true true AA 2 5 0 9 5 0 0 0 false false (some ⟨w1.heap.size + 1, 0, none⟩) 1 1 [⟨5, some ⟨w1.heap.size, 0, none⟩, 4, 4, [0, 0, 0, 5]⟩] HLC.out HMX.out (by omega) (by omega) (by simp) rfl (by omega) (by omega) _ (cells_box (w1.alloc (.cells (nums .u8 [0, 0, 0, 5]).toArray 5)) _ (by simp) [.int .i64 5, .slice (some ⟨w1.heap.size, 0, none⟩) 4 4] 119) (by
    intro u hu
    rw [List.mem_singleton] at hu
    subst hu
    exact ⟨rfl, Nat.le_refl _, by simp only; omega, by intro x hx; simp at hx; omega, hb1⟩) (by exact HC1.out.ext)).mono ?_
  rintro e w2 ⟨v2, us, rfl, ho2, hu2, hb2⟩
  have S2 : Step w2 _ := ⟨hb2⟩
  have hJ : (ljudgeF ⟨([2, 1] : List Int).length, true, true, true⟩ [2, 1] 5 9 5 0 (List.map OV.opt [(⟨5, some ⟨w1.heap.size, 0, none⟩, 4, 4, [0, 0, 0, 5]⟩ : OV)])) = (3, [(5, [0, 0, 0, 9])]) := HK1.out
  rw [hJ] at hu2 ⊢
  simp only at hu2 ⊢
  obtain ⟨u, rfl, hut, hud⟩ := one_of hu2
  obtain ⟨g2, c2, rfl, hg2, _⟩ := own_form ho2.1 (by simp)
  have HO2 := Lib.hid ho2
  have HUD := Lib.hid hud
  have hun : u.n = 4 := by have := (ho2.2.2.2.2 u (by simp)).1; rw [hud] at this; exact this.symm
  have HUN := Lib.hid hun
  clear ho2 hu2 hb2 hb1 hut hud hun hJ
  go_wp2_with fail
  refine (plain_any _).mono ?_
  rintro e w3 ⟨AB, rfl, hc3, hb3⟩
  have S3 : Step w3 w2 := ⟨hb3⟩
  have HC3 := Lib.hid hc3
  have HLD := Lib.hid (lconf_plain AB)
  have HMY : Hid ((cfP (.slice AB 2 2))[21]? = some (.int .i64 5)) := rfl
  obtain ⟨cg, hcg⟩ : ∃ cg, cfP (.slice AB 2 2) = cg := ⟨_, rfl⟩
  rw [hcg] at HLD HMY ⊢
  clear hc3 hb3 hcg
  go_wp2_with fail
  have hb2 : Cells ((w3.alloc (.cells (nums .u8 [5, 120]).toArray 5)).alloc (.cells #[.int .i64 1, .slice (some ⟨w3.heap.size, 0, none⟩) 2 2] 119)) (some ⟨w3.heap.size, 0, none⟩) (nums .u8 [5, 120]) := (cells_box w3 _ rfl (nums .u8 [5, 120]) 5).ext
  refine (ljudge_any cg [2, 1] true true true AB 2 5 0 9 7 0 0 0 false false (some ⟨w3.heap.size + 1, 0, none⟩) 1 1 [⟨1, some ⟨w3.heap.size, 0, none⟩, 2, 2, [5, 120]⟩] HLD.out HMY.out (by omega) (by omega) (by simp) rfl (by omega) (by omega) _ (cells_box (w3.alloc (.cells (nums .u8 [5, 120]).toArray 5)) _ (by simp) [.int .i64 1, .slice (some ⟨w3.heap.size, 0, none⟩) 2 2] 119) (by
    intro u hu
    rw [List.mem_singleton] at hu
    subst hu
    exact ⟨rfl, Nat.le_refl _, by simp only; omega, by intro x hx; simp at hx; omega, hb2⟩) (by exact HC3.out.ext)).mono ?_
  rintro e w4 ⟨v4, ys, rfl, ho4, hu4, hb4⟩
  have S4 : Step w4 _ := ⟨hb4⟩
  have hJ : (ljudgeF ⟨([2, 1] : List Int).length, true, true, true⟩ [2, 1] 7 9 5 0 (List.map OV.opt [(⟨1, some ⟨w3.heap.size, 0, none⟩, 2, 2, [5, 120]⟩ : OV)])) = (2, [(1, [5, 120])]) := HK2.out
  rw [hJ] at hu4 ⊢
  simp only at hu4 ⊢
  obtain ⟨y, rfl, _, _⟩ := one_of hu4
  obtain ⟨g4, c4, rfl, _, _⟩ := own_form ho4.1 (by simp)
  have E24 : Ext w2 w4 := inferInstance
  have hd1 : w4.cell? ⟨g2, 1, none⟩ = some (.slice u.A u.n u.c) := by rw [(own_ext (w' := w4) HO2.out.1).cellAt 1 (by simp [flat_cons])]; rfl
  rw [HUN.out] at hd1
  have HCU : Hid (Cells w4 u.A (nums .u8 [0, 0, 0, 9])) := by
    have h1 := own_cells (own_ext (w' := w4) (HO2.out.2.1 u (by simp)))
    rw [HUD.out] at h1
    exact h1
  clear ho4 hu4 hb4 hb2 hJ
  go_wp2_with fail
  refine (same_any u.A _ 4 4 _ _ [0, 0, 0, 9] [0, 0, 0, 9] rfl rfl (by omega) (by omega) _ (by exact HCU.out.ext) (cells_box w4 _ rfl (nums .u8 [0, 0, 0, 9]) 5)).mono ?_
  rintro e w5 ⟨rfl, q5, rfl⟩
  simp only [decide_true]
  go_wp2
  go_ret
  exact ⟨rfl, Ext.out⟩
end Go.Proofs.Ytodibldfolognaa
