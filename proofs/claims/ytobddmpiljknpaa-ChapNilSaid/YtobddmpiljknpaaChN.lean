/-
  tetherlaw13.ChapNil: a judge that is not there answers so: for every input the call answers true. No condition.
-/
import Derived.Test.YtobddmpiljknpaaChL
import Derived.Test.YtobddmpiljknpaaArgs
namespace Go.Proofs.Ytobddmpiljknpaa
open Go.RowKit
set_option linter.unusedVariables false
set_option linter.unusedSimpArgs false

set_option maxRecDepth 100000 in
set_option maxHeartbeats 8000000 in
theorem nil13_law (id : Int) (A : Option Addr) (n c : Nat) (code id2 : Int) (B : Option Addr) (m d : Nat) (w : World) : Calls Try.prog 8 #[.int .i64 id, .slice A n c, .agg #[.int .i64 code, .int .i64 id2, .slice B m d]] w fun e w' => e = .returned (.bool true) ∧ Below w.heap.size w w' := by
  go_enter Try.func8, Try.ntmps8
  go_upto_region 1 with fail
  obtain ⟨wb, hwb⟩ : ∃ wb, w.alloc (.cells #[.int .i64 code, .int .i64 id2, .slice B m d] 24) = wb := ⟨_, rfl⟩
  have HP : Hid (wb.heap[w.heap.size]? = some (.cells #[.int .i64 code, .int .i64 id2, .slice B m d] 24 (0, 0))) := by unfold Hid; rw [← hwb]; exact at_new w _
  have Sb : Step wb w := ⟨by rw [← hwb]; exact Ext.out⟩
  rw [hwb]
  clear hwb
  go_wp2_with fail
  refine (jask_nil id A n c _).mono ?_
  rintro e w1 ⟨rfl, hb1⟩
  have S1 : Step w1 wb := ⟨hb1⟩
  clear hb1
  have p1 : ∀ o, (w1.alloc o).heap[w1.heap.size]? = some o := at_new w1
  go_wp2_with
    (refine wpList_store_row_o rfl 24 (.tmp 8) (.tmp 19) rfl w1.heap.size #[.int .i64 0, .int .i64 0, .slice none 0 0] rfl rfl 24 #[.int .i64 0, .int .i64 0, .slice none 0 0] (p1 _) (by kernel_rfl) rfl (by simp [Value.oneCell']) ?_
     intro w2 hr2 ho2 hz2 hb2
     have HRw2 := Lib.hid hr2
     have Sw2 : Step w2 w1 := ⟨hb2 _ _ (inferInstance : Ext w1 (w1.alloc _)).out (Nat.le_refl _)⟩
     clear hr2 ho2 hz2 hb2 p1)
  refine (jagain_nil _).mono ?_
  rintro e w3 ⟨rfl, hb3⟩
  have S3 : Step w3 w2 := ⟨hb3⟩
  clear hb3
  have p3 : ∀ o, (w3.alloc o).heap[w3.heap.size]? = some o := at_new w3
  go_upto_region 4 with
    (refine wpList_store_row_o rfl 24 (.tmp 10) (.tmp 24) rfl w3.heap.size #[.int .i64 0, .int .i64 0, .slice none 0 0] rfl rfl 24 #[.int .i64 0, .int .i64 0, .slice none 0 0] (p3 _) (by kernel_rfl) rfl (by simp [Value.oneCell']) ?_
     intro w4 hr2 ho2 hz2 hb2
     have HRw4 := Lib.hid hr2
     have Sw4 : Step w4 w3 := ⟨hb2 _ _ (inferInstance : Ext w3 (w3.alloc _)).out (Nat.le_refl _)⟩
     clear hr2 ho2 hz2 hb2 p3)
  have a0 : w4.cell? ⟨w.heap.size, 0, none⟩ = some (.int .i64 code) := at_cell (at_ext HP.out) 0
  have a1 : w4.cell? ⟨w.heap.size, 1, none⟩ = some (.int .i64 id2) := at_cell (at_ext HP.out) 1
  have a2 : w4.cell? ⟨w.heap.size, 2, none⟩ = some (.slice B m d) := at_cell (at_ext HP.out) 2
  go_wp2_with fail
  refine (jtake_nil code id2 B m d _).mono ?_
  rintro e w5 ⟨rfl, hb5⟩
  have S5 : Step w5 w4 := ⟨hb5⟩
  clear hb5 a0 a1 a2
  have p5 : ∀ o, (w5.alloc o).heap[w5.heap.size]? = some o := at_new w5
  go_upto_region 5 with
    (refine wpList_store_row_o rfl 24 (.tmp 12) (.tmp 30) rfl w5.heap.size #[.int .i64 0, .int .i64 0, .slice none 0 0] rfl rfl 24 #[.int .i64 0, .int .i64 0, .slice none 0 0] (p5 _) (by kernel_rfl) rfl (by simp [Value.oneCell']) ?_
     intro w6 hr2 ho2 hz2 hb2
     have HRw6 := Lib.hid hr2
     have Sw6 : Step w6 w5 := ⟨hb2 _ _ (inferInstance : Ext w5 (w5.alloc _)).out (Nat.le_refl _)⟩
     clear hr2 ho2 hz2 hb2 p5)
  go_wp2_with fail
  refine (jstate_nil _).mono ?_
  rintro e w7 ⟨rfl, rfl⟩
  go_wp2_with fail
  refine (jwho_nil _).mono ?_
  rintro e w7 ⟨rfl, rfl⟩
  go_wp2_with fail
  refine (jasked_nil _).mono ?_
  rintro e w7 ⟨rfl, rfl⟩
  go_wp2_with fail
  refine (known13_any _).mono ?_
  rintro e w7 ⟨rfl, hb7⟩
  have S7 : Step w7 w6 := ⟨hb7⟩
  clear hb7
  go_wp2
  go_ret
  exact ⟨rfl, Ext.out⟩
namespace ChapNil
set_option maxRecDepth 100000 in
theorem walk (U : Nat) (W : World) (vs : List Value) (h : Args U Try.prog W Try.f8.params.toList vs) : Calls Try.prog 8 vs.toArray W fun e W' => e = .returned (.bool true) ∧ Below W.heap.size W W' := by
  rw [Try.params8] at h
  match vs, h with
  | [v0, v1, v2], ⟨h0, h1, h2, _⟩ =>
    obtain ⟨id, rfl, _⟩ := h0.int Try.underlying3
    obtain ⟨A, n, c, rfl⟩ := h1.slice_shape Try.underlying22
    obtain ⟨code, id2, B, m, d, xs, rfl, _⟩ := arg_packet h2
    exact nil13_law id A n c code id2 B m d W

set_option maxRecDepth 100000 in
theorem lifted (os : Os) (started : os.Started) (H : Type) (enc : TypeId × Value → H) :
    ReturnsInHanded {} Try.checked os 8 .any (Rows.chapNilSpec.pre6 enc Try.prog Try.f8 Rows.chapNilRow.domain false) (Rows.chapNilSpec.post enc Try.prog Try.f8 false true false false) :=
  law_lifted (C := Try.checked) laid_out own_knob started (by kernel_rfl) Try.func8 H enc rfl
    (fun ds hd => by
      have : ds.length = 3 := hd
      match ds, this with
      | [_, _, _], _ => exact ⟨rfl, rfl, rfl⟩) rfl Try.underlying4 (by
      have : (Try.f8.params.toList.all fun t => Try.prog.readableRec t && decide (t < Try.prog.types.size)) = true := by kernel_rfl
      intro t ht
      have h := List.all_eq_true.1 this t ht
      rw [Bool.and_eq_true, decide_eq_true_eq] at h
      exact h)
    (ChangeSpec.witness6 (enc := enc) (C := Try.checked) false ⟨#[], #[.int .i64 0, .slice none 0 0, .agg #[.int .i64 0, .int .i64 0, .slice none 0 0]], []⟩ 8 (by kernel_rfl) (by kernel_rfl) (by kernel_rfl) (by kernel_rfl)) walk

theorem over : Rows.chapNilRow.holds Try.pinned (OpenSpec.ofChange Rows.chapNilSpec) :=
  OpenClaim.holds_of_wide 8 Try.f8 rfl rfl rfl rfl rfl rfl rfl ⟨rfl, rfl, rfl, rfl, rfl⟩ rfl rfl rfl rfl rfl (by kernel_rfl) Try.func8 (by kernel_rfl)
    (of_decide_eq_true (by kernel_rfl)) (by unfold Func.isWrapper; first | (rw [if_pos (by decide +kernel)]; kernel_rfl) | (rw [if_neg (by decide +kernel)]; exact ⟨rfl, rfl⟩))
    (fun os started H enc _ => lifted os started H enc)

/-- The statement. -/
theorem proved : Rows.ChapNilSaid := over
#print axioms proved
end ChapNil
end Go.Proofs.Ytobddmpiljknpaa
