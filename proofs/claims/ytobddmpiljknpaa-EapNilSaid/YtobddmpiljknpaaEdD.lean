/-
  tetherlaw14.EapNil: what there is not answers ErrNil: for every input the call answers true. No condition.
-/
import Derived.Test.YtobddmpiljknpaaEdC
namespace Go.Proofs.Ytobddmpiljknpaa
open Go.RowKit
set_option linter.unusedVariables false
set_option linter.unusedSimpArgs false

set_option maxRecDepth 100000 in
set_option maxHeartbeats 8000000 in
theorem nil14_law (code id : Int) (A : Option Addr) (n c : Nat) (Q : Option Addr) (m d : Nat) (w : World) : Calls Try.prog 12 #[.agg #[.int .i64 code, .int .i64 id, .slice A n c], .slice Q m d] w fun e w' => e = .returned (.bool true) ∧ Below w.heap.size w w' := by
  go_enter Try.func12, Try.ntmps12
  go_upto_region 3 with fail
  obtain ⟨wb, hwb⟩ : ∃ wb, w.alloc (.cells #[.int .i64 code, .int .i64 id, .slice A n c] 24) = wb := ⟨_, rfl⟩
  have HP : Hid (wb.heap[w.heap.size]? = some (.cells #[.int .i64 code, .int .i64 id, .slice A n c] 24 (0, 0))) := by unfold Hid; rw [← hwb]; exact at_new w _
  have Sb : Step wb w := ⟨by rw [← hwb]; exact Ext.out⟩
  rw [hwb]
  clear hwb
  go_wp2_with fail
  refine (start4_nil _).mono ?_
  rintro e w1 ⟨rfl, hb⟩
  have Sw1 : Step w1 wb := ⟨hb⟩
  have pp : ∀ o, (w1.alloc o).heap[w1.heap.size]? = some o := at_new w1
  clear hb
  go_wp2_with
    (refine wpList_store_row_o rfl 24 (.tmp 7) (.tmp 24) rfl w1.heap.size #[.int .i64 0, .int .i64 0, .slice none 0 0] rfl rfl 24 #[.int .i64 0, .int .i64 0, .slice none 0 0] (pp _) (by kernel_rfl) rfl (by simp [Value.oneCell']) ?_
     intro w2 hr2 ho2 hz2 hb2
     have HRw2 := Lib.hid hr2
     have Sw2 : Step w2 w1 := ⟨hb2 _ _ (inferInstance : Ext w1 (w1.alloc _)).out (Nat.le_refl _)⟩
     clear hr2 ho2 hz2 hb2 pp)
  refine (again4_nil Q m d _).mono ?_
  rintro e w3 ⟨rfl, hb⟩
  have Sw3 : Step w3 w2 := ⟨hb⟩
  have pp : ∀ o, (w3.alloc o).heap[w3.heap.size]? = some o := at_new w3
  clear hb
  go_upto_region 5 with
    (refine wpList_store_row_o rfl 24 (.tmp 9) (.tmp 30) rfl w3.heap.size #[.int .i64 0, .int .i64 0, .slice none 0 0] rfl rfl 24 #[.int .i64 0, .int .i64 0, .slice none 0 0] (pp _) (by kernel_rfl) rfl (by simp [Value.oneCell']) ?_
     intro w4 hr2 ho2 hz2 hb2
     have HRw4 := Lib.hid hr2
     have Sw4 : Step w4 w3 := ⟨hb2 _ _ (inferInstance : Ext w3 (w3.alloc _)).out (Nat.le_refl _)⟩
     clear hr2 ho2 hz2 hb2 pp)
  have a0 : w4.cell? ⟨w.heap.size, 0, none⟩ = some (.int .i64 code) := at_cell (at_ext HP.out) 0
  have a1 : w4.cell? ⟨w.heap.size, 1, none⟩ = some (.int .i64 id) := at_cell (at_ext HP.out) 1
  have a2 : w4.cell? ⟨w.heap.size, 2, none⟩ = some (.slice A n c) := at_cell (at_ext HP.out) 2
  go_wp2_with fail
  refine (take4_nil code id A n c Q m d _).mono ?_
  rintro e w5 ⟨rfl, hb⟩
  have Sw5 : Step w5 w4 := ⟨hb⟩
  have pp : ∀ o, (w5.alloc o).heap[w5.heap.size]? = some o := at_new w5
  clear hb
  clear a0 a1 a2
  go_wp2_with
    (refine wpList_store_row_o rfl 24 (.tmp 12) (.tmp 38) rfl w5.heap.size #[.int .i64 0, .int .i64 0, .slice none 0 0] rfl rfl 24 #[.int .i64 0, .int .i64 0, .slice none 0 0] (pp _) (by kernel_rfl) rfl (by simp [Value.oneCell']) ?_
     intro w6 hr2 ho2 hz2 hb2
     have HRw6 := Lib.hid hr2
     have Sw6 : Step w6 w5 := ⟨hb2 _ _ (inferInstance : Ext w5 (w5.alloc _)).out (Nat.le_refl _)⟩
     clear hr2 ho2 hz2 hb2 pp)
  refine (prove4_nil Q m d _).mono ?_
  rintro e w7 ⟨rfl, hb⟩
  have Sw7 : Step w7 w6 := ⟨hb⟩
  have pp : ∀ o, (w7.alloc o).heap[w7.heap.size]? = some o := at_new w7
  clear hb
  go_upto_region 7 with
    (refine wpList_store_row_o rfl 24 (.tmp 15) (.tmp 45) rfl w7.heap.size #[.int .i64 0, .int .i64 0, .slice none 0 0] rfl rfl 24 #[.int .i64 0, .int .i64 0, .slice none 0 0] (pp _) (by kernel_rfl) rfl (by simp [Value.oneCell']) ?_
     intro w8 hr2 ho2 hz2 hb2
     have HRw8 := Lib.hid hr2
     have Sw8 : Step w8 w7 := ⟨hb2 _ _ (inferInstance : Ext w7 (w7.alloc _)).out (Nat.le_refl _)⟩
     clear hr2 ho2 hz2 hb2 pp)
  have a0 : w8.cell? ⟨w.heap.size, 0, none⟩ = some (.int .i64 code) := at_cell (at_ext HP.out) 0
  have a1 : w8.cell? ⟨w.heap.size, 1, none⟩ = some (.int .i64 id) := at_cell (at_ext HP.out) 1
  have a2 : w8.cell? ⟨w.heap.size, 2, none⟩ = some (.slice A n c) := at_cell (at_ext HP.out) 2
  go_wp2_with fail
  refine (ptake4_nil code id A n c _).mono ?_
  rintro e w9 ⟨rfl, hb⟩
  have Sw9 : Step w9 w8 := ⟨hb⟩
  have pp : ∀ o, (w9.alloc o).heap[w9.heap.size]? = some o := at_new w9
  clear hb
  clear a0 a1 a2
  go_upto_region 10 with
    (refine wpList_store_row_o rfl 24 (.tmp 17) (.tmp 51) rfl w9.heap.size #[.int .i64 0, .int .i64 0, .slice none 0 0] rfl rfl 24 #[.int .i64 0, .int .i64 0, .slice none 0 0] (pp _) (by kernel_rfl) rfl (by simp [Value.oneCell']) ?_
     intro w10 hr2 ho2 hz2 hb2
     have HRw10 := Lib.hid hr2
     have Sw10 : Step w10 w9 := ⟨hb2 _ _ (inferInstance : Ext w9 (w9.alloc _)).out (Nat.le_refl _)⟩
     clear hr2 ho2 hz2 hb2 pp)
  have pp : ∀ o, (w10.alloc o).heap[w10.heap.size]? = some o := at_new w10
  go_upto_region 11 with
    (refine wpList_store_row_o rfl 24 (.tmp 20) (.tmp 81) rfl w10.heap.size #[.int .i64 0, .int .i64 0, .slice none 0 0] rfl rfl 24 #[.int .i64 0, .int .i64 0, .slice none 0 0] (pp _) (by kernel_rfl) rfl (by simp [Value.oneCell']) ?_
     intro w11 hr2 ho2 hz2 hb2
     have HRw11 := Lib.hid hr2
     have Sw11 : Step w11 w10 := ⟨hb2 _ _ (inferInstance : Ext w10 (w10.alloc _)).out (Nat.le_refl _)⟩
     clear hr2 ho2 hz2 hb2 pp)
  have b0 : w11.cell? ⟨w1.heap.size, 0, none⟩ = some (.int .i64 0) := at_cell (at_ext HRw2.out) 0
  have b1 : w11.cell? ⟨w1.heap.size, 1, none⟩ = some (.int .i64 0) := at_cell (at_ext HRw2.out) 1
  have b2 : w11.cell? ⟨w1.heap.size, 2, none⟩ = some (.slice none 0 0) := at_cell (at_ext HRw2.out) 2
  have c0 : w11.cell? ⟨w10.heap.size, 0, none⟩ = some (.int .i64 0) := at_cell (at_ext HRw11.out) 0
  have c1 : w11.cell? ⟨w10.heap.size, 1, none⟩ = some (.int .i64 0) := at_cell (at_ext HRw11.out) 1
  have c2 : w11.cell? ⟨w10.heap.size, 2, none⟩ = some (.slice none 0 0) := at_cell (at_ext HRw11.out) 2
  go_wp2_with fail
  refine (same12_any 0 0 0 0 none none 0 0 0 0 [] [] rfl rfl (fun _ h => by cases h) (fun _ h => by cases h) _ (Cells.nil_ _ _) (Cells.nil_ _ _)).mono ?_
  rintro e x1 ⟨rfl, hb⟩
  have Sx1 : Step x1 w11 := ⟨hb⟩
  rw [pkSame_self]
  clear hb b0 b1 b2 c0 c1 c2
  have b0 : x1.cell? ⟨w3.heap.size, 0, none⟩ = some (.int .i64 0) := at_cell (at_ext HRw4.out) 0
  have b1 : x1.cell? ⟨w3.heap.size, 1, none⟩ = some (.int .i64 0) := at_cell (at_ext HRw4.out) 1
  have b2 : x1.cell? ⟨w3.heap.size, 2, none⟩ = some (.slice none 0 0) := at_cell (at_ext HRw4.out) 2
  have c0 : x1.cell? ⟨w10.heap.size, 0, none⟩ = some (.int .i64 0) := at_cell (at_ext HRw11.out) 0
  have c1 : x1.cell? ⟨w10.heap.size, 1, none⟩ = some (.int .i64 0) := at_cell (at_ext HRw11.out) 1
  have c2 : x1.cell? ⟨w10.heap.size, 2, none⟩ = some (.slice none 0 0) := at_cell (at_ext HRw11.out) 2
  go_wp2_with fail
  refine (same12_any 0 0 0 0 none none 0 0 0 0 [] [] rfl rfl (fun _ h => by cases h) (fun _ h => by cases h) _ (Cells.nil_ _ _) (Cells.nil_ _ _)).mono ?_
  rintro e x2 ⟨rfl, hb⟩
  have Sx2 : Step x2 x1 := ⟨hb⟩
  rw [pkSame_self]
  clear hb b0 b1 b2 c0 c1 c2
  have b0 : x2.cell? ⟨w5.heap.size, 0, none⟩ = some (.int .i64 0) := at_cell (at_ext HRw6.out) 0
  have b1 : x2.cell? ⟨w5.heap.size, 1, none⟩ = some (.int .i64 0) := at_cell (at_ext HRw6.out) 1
  have b2 : x2.cell? ⟨w5.heap.size, 2, none⟩ = some (.slice none 0 0) := at_cell (at_ext HRw6.out) 2
  have c0 : x2.cell? ⟨w10.heap.size, 0, none⟩ = some (.int .i64 0) := at_cell (at_ext HRw11.out) 0
  have c1 : x2.cell? ⟨w10.heap.size, 1, none⟩ = some (.int .i64 0) := at_cell (at_ext HRw11.out) 1
  have c2 : x2.cell? ⟨w10.heap.size, 2, none⟩ = some (.slice none 0 0) := at_cell (at_ext HRw11.out) 2
  go_wp2_with fail
  refine (same12_any 0 0 0 0 none none 0 0 0 0 [] [] rfl rfl (fun _ h => by cases h) (fun _ h => by cases h) _ (Cells.nil_ _ _) (Cells.nil_ _ _)).mono ?_
  rintro e x3 ⟨rfl, hb⟩
  have Sx3 : Step x3 x2 := ⟨hb⟩
  rw [pkSame_self]
  clear hb b0 b1 b2 c0 c1 c2
  have b0 : x3.cell? ⟨w7.heap.size, 0, none⟩ = some (.int .i64 0) := at_cell (at_ext HRw8.out) 0
  have b1 : x3.cell? ⟨w7.heap.size, 1, none⟩ = some (.int .i64 0) := at_cell (at_ext HRw8.out) 1
  have b2 : x3.cell? ⟨w7.heap.size, 2, none⟩ = some (.slice none 0 0) := at_cell (at_ext HRw8.out) 2
  have c0 : x3.cell? ⟨w10.heap.size, 0, none⟩ = some (.int .i64 0) := at_cell (at_ext HRw11.out) 0
  have c1 : x3.cell? ⟨w10.heap.size, 1, none⟩ = some (.int .i64 0) := at_cell (at_ext HRw11.out) 1
  have c2 : x3.cell? ⟨w10.heap.size, 2, none⟩ = some (.slice none 0 0) := at_cell (at_ext HRw11.out) 2
  go_wp2_with fail
  refine (same12_any 0 0 0 0 none none 0 0 0 0 [] [] rfl rfl (fun _ h => by cases h) (fun _ h => by cases h) _ (Cells.nil_ _ _) (Cells.nil_ _ _)).mono ?_
  rintro e x4 ⟨rfl, hb⟩
  have Sx4 : Step x4 x3 := ⟨hb⟩
  rw [pkSame_self]
  clear hb b0 b1 b2 c0 c1 c2
  have b0 : x4.cell? ⟨w9.heap.size, 0, none⟩ = some (.int .i64 0) := at_cell (at_ext HRw10.out) 0
  have b1 : x4.cell? ⟨w9.heap.size, 1, none⟩ = some (.int .i64 0) := at_cell (at_ext HRw10.out) 1
  have b2 : x4.cell? ⟨w9.heap.size, 2, none⟩ = some (.slice none 0 0) := at_cell (at_ext HRw10.out) 2
  have c0 : x4.cell? ⟨w10.heap.size, 0, none⟩ = some (.int .i64 0) := at_cell (at_ext HRw11.out) 0
  have c1 : x4.cell? ⟨w10.heap.size, 1, none⟩ = some (.int .i64 0) := at_cell (at_ext HRw11.out) 1
  have c2 : x4.cell? ⟨w10.heap.size, 2, none⟩ = some (.slice none 0 0) := at_cell (at_ext HRw11.out) 2
  go_wp2_with fail
  refine (same12_any 0 0 0 0 none none 0 0 0 0 [] [] rfl rfl (fun _ h => by cases h) (fun _ h => by cases h) _ (Cells.nil_ _ _) (Cells.nil_ _ _)).mono ?_
  rintro e x5 ⟨rfl, hb⟩
  have Sx5 : Step x5 x4 := ⟨hb⟩
  rw [pkSame_self]
  clear hb b0 b1 b2 c0 c1 c2
  go_wp2_with fail
  refine (state4_nil _).mono ?_
  rintro e x6 ⟨rfl, rfl⟩
  go_wp2_with fail
  refine (who4_nil _).mono ?_
  rintro e x6 ⟨rfl, rfl⟩
  go_wp2_with fail
  refine (pstate4_nil _).mono ?_
  rintro e x6 ⟨rfl, rfl⟩
  go_wp2_with fail
  refine (pnotice4_nil _).mono ?_
  rintro e x6 ⟨rfl, rfl⟩
  go_wp2_with fail
  refine (awake14_any _).mono ?_
  rintro e x6 ⟨rfl, hb⟩
  have Sx6 : Step x6 x5 := ⟨hb⟩
  clear hb
  go_wp2
  go_ret
  exact ⟨rfl, Ext.out⟩
namespace EapNil
set_option maxRecDepth 100000 in
theorem walk (U : Nat) (W : World) (vs : List Value) (h : Args U Try.prog W Try.f12.params.toList vs) : Calls Try.prog 12 vs.toArray W fun e W' => e = .returned (.bool true) ∧ Below W.heap.size W W' := by
  rw [Try.params12] at h
  match vs, h with
  | [v0, v1], ⟨h0, h1, _⟩ =>
    obtain ⟨code, id, A, n, c, xs, rfl, _⟩ := arg_packet h0
    obtain ⟨Q, m, d, rfl⟩ := h1.slice_shape Try.underlying22
    exact nil14_law code id A n c Q m d W

set_option maxRecDepth 100000 in
theorem lifted (os : Os) (started : os.Started) (H : Type) (enc : TypeId × Value → H) :
    ReturnsInHanded {} Try.checked os 12 .any (Rows.eapNilSpec.pre6 enc Try.prog Try.f12 Rows.eapNilRow.domain false) (Rows.eapNilSpec.post enc Try.prog Try.f12 false true false false) :=
  law_lifted (C := Try.checked) laid_out own_knob started (by kernel_rfl) Try.func12 H enc rfl
    (fun ds hd => by
      have : ds.length = 2 := hd
      match ds, this with
      | [_, _], _ => exact ⟨rfl, rfl, rfl⟩) rfl Try.underlying4 (by
      have : (Try.f12.params.toList.all fun t => Try.prog.readableRec t && decide (t < Try.prog.types.size)) = true := by kernel_rfl
      intro t ht
      have h := List.all_eq_true.1 this t ht
      rw [Bool.and_eq_true, decide_eq_true_eq] at h
      exact h)
    (ChangeSpec.witness6 (enc := enc) (C := Try.checked) false ⟨#[], #[.agg #[.int .i64 0, .int .i64 0, .slice none 0 0], .slice none 0 0], []⟩ 8 (by kernel_rfl) (by kernel_rfl) (by kernel_rfl) (by kernel_rfl)) walk

theorem over : Rows.eapNilRow.holds Try.pinned (OpenSpec.ofChange Rows.eapNilSpec) :=
  OpenClaim.holds_of_wide 12 Try.f12 rfl rfl rfl rfl rfl rfl rfl ⟨rfl, rfl, rfl, rfl, rfl⟩ rfl rfl rfl rfl rfl (by kernel_rfl) Try.func12 (by kernel_rfl)
    (of_decide_eq_true (by kernel_rfl)) (by unfold Func.isWrapper; first | (rw [if_pos (by decide +kernel)]; kernel_rfl) | (rw [if_neg (by decide +kernel)]; exact ⟨rfl, rfl⟩))
    (fun os started H enc _ => lifted os started H enc)

/-- The statement. -/
theorem proved : Rows.EapNilSaid := over
#print axioms proved
end EapNil
end Go.Proofs.Ytobddmpiljknpaa
