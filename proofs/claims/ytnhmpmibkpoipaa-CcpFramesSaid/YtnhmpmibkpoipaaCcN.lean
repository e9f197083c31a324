/-
  tetherlaw22.CcpNil: ends that are not there answer ErrNil: for every input the call answers true. No condition.
-/
import Derived.Test.YtnhmpmibkpoipaaCcG
namespace Go.Proofs.Ytnhmpmibkpoipaa
open Go.RowKit
set_option linter.unusedVariables false
set_option linter.unusedSimpArgs false

/-- A whole struct that is read at an operation that is guarded, whose guard bids it. -/
theorem wpList_load_row_g {P : Program} {Q : Exit → Act → World → Prop} {ops : Array Oper} {rest : List Oper} {o : Oper} {a : Act} {w : World} (hw : Region.wanted o (yielded ops a.tmps) = true) (ty : TypeId) (x : Operand) (ho : o.op = .load ty x)
    (g : Nat) (hx : a.eval x = .pointer (some ⟨g, 0, none⟩)) (t : TypeId) (cs : Array Value) (fr : Nat × Nat) (d : TypeDesc) (hg : w.heap[g]? = some (.cells cs t fr))
    (hu : P.underlying ty = some d) (hd : (match d with | .struct _ | .array _ _ => true | _ => false) = true) (hi : (P.info? ty).map (·.size) = some cs.size)
    (h : wpList P ops Q rest (a.put o.dst (.agg cs)) w) : wpList P ops Q (o :: rest) a w :=
  wpList_step fun K hK => by
    rw [if_pos hw]
    exact wp_load_row ty x ho g hx t cs fr d hg hu hd hi (hK _ _ h)
abbrev zF : Array Value := #[.int .i64 0, .slice none 0 0]
abbrev zP : Array Value := #[.int .i64 0, .int .i64 0, .slice none 0 0]
set_option maxRecDepth 100000 in
set_option maxHeartbeats 8000000 in
theorem nil22_law (fc pc : Array Value) (hf : (Try.prog.info? 24).map (·.size) = some fc.size) (hp : (Try.prog.info? 89).map (·.size) = some pc.size) (id : Int) (w : World) :
    Calls Try.prog 12 #[.agg fc, .agg pc, .int .i64 id] w fun e w' => e = .returned (.bool true) ∧ Below w.heap.size w w' := by
  have HF : Hid (((w.alloc (.cells fc 24)).alloc (.cells pc 89)).heap[w.heap.size]? = some (.cells fc 24 (0, 0))) := at_ext (at_new w (.cells fc 24))
  have HP : Hid (((w.alloc (.cells fc 24)).alloc (.cells pc 89)).heap[w.heap.size + 1]? = some (.cells pc 89 (0, 0))) := at_new1 (by simp)
  have HSF := Lib.hid hf
  have HSP := Lib.hid hp
  have HE : Hid (frSame 0 0 [] [] = true) := Lib.hid (by decide)
  clear hf hp
  go_enter Try.func12, Try.ntmps12
  go_wp2_with
    (refine wpList_load_row rfl 24 (.tmp 3) rfl w.heap.size rfl 24 fc (0, 0) _ (at_ext HF.out) Try.underlying24 rfl HSF.out ?_)
  refine (sendNil_any fc _).mono ?_
  rintro e w1 ⟨rfl, hb1⟩
  have S1 : Step w1 _ := ⟨hb1⟩
  clear hb1
  have HA := Lib.hid (at_new w1 (.cells zF 24))
  go_wp2_with
    (refine wpList_load_row rfl 89 (.tmp 4) rfl (w.heap.size + 1) rfl 89 pc (0, 0) _ (at_ext HP.out) Try.underlying89 rfl HSP.out ?_)
  refine (resetNil_any pc _).mono ?_
  rintro e w2 ⟨rfl, hb2⟩
  have S2 : Step w2 _ := ⟨hb2⟩
  clear hb2
  have HB := Lib.hid (at_new w2 (.cells zP 89))
  go_wp2_with
    (refine wpList_load_row rfl 24 (.tmp 3) rfl w.heap.size rfl 24 fc (0, 0) _ (at_ext HF.out) Try.underlying24 rfl HSF.out ?_)
  refine (takeNil_any fc _).mono ?_
  rintro e w3 ⟨rfl, hb3⟩
  have S3 : Step w3 _ := ⟨hb3⟩
  clear hb3
  have HC := Lib.hid (at_new w3 (.cells zF 24))
  go_wp2_with fail
  refine (askNil_any id _).mono ?_
  rintro e w4 ⟨rfl, hb4⟩
  have S4 : Step w4 _ := ⟨hb4⟩
  clear hb4
  have HD := Lib.hid (at_new w4 (.cells zP 89))
  go_wp2_with
    (refine wpList_load_row_g (by rfl) 89 (.tmp 4) rfl (w.heap.size + 1) rfl 89 pc (0, 0) _ (at_ext HP.out) Try.underlying89 rfl HSP.out ?_)
  refine (ackNil_any pc _).mono ?_
  rintro e w5 ⟨rfl, hb5⟩
  have S5 : Step w5 _ := ⟨hb5⟩
  clear hb5
  have HZ := Lib.hid (at_new w5 (.cells zP 89))
  go_wp2_with
    (refine wpList_load_row rfl 24 (.tmp 9) rfl w1.heap.size rfl 24 zF (0, 0) _ (at_ext HA.out) Try.underlying24 rfl (by kernel_rfl) ?_)
  refine (frameSame_any 0 0 none none 0 0 0 0 [] [] rfl rfl Byt.nil_ Byt.nil_ _ (Cells.nil_ _ _) (Cells.nil_ _ _)).mono ?_
  rintro e w6 ⟨rfl, hb6⟩
  rw [HE.out]
  have S6 : Step w6 _ := ⟨hb6⟩
  clear hb6
  go_wp2_with
    (first
     | (refine wpList_load_row_g (by rfl) 89 (.tmp 11) rfl w2.heap.size rfl 89 zP (0, 0) _ (at_ext HB.out) Try.underlying89 rfl (by kernel_rfl) ?_)
     | (refine wpList_load_row_g (by rfl) 89 (.tmp 17) rfl w5.heap.size rfl 89 zP (0, 0) _ (at_ext HZ.out) Try.underlying89 rfl (by kernel_rfl) ?_))
  refine (packetZero_any _).mono ?_
  rintro e w7 ⟨rfl, hb7⟩
  have S7 : Step w7 _ := ⟨hb7⟩
  clear hb7
  go_wp2_with
    (refine wpList_load_row_g (by rfl) 24 (.tmp 13) rfl w3.heap.size rfl 24 zF (0, 0) _ (at_ext HC.out) Try.underlying24 rfl (by kernel_rfl) ?_)
  refine (frameSame_any 0 0 none none 0 0 0 0 [] [] rfl rfl Byt.nil_ Byt.nil_ _ (Cells.nil_ _ _) (Cells.nil_ _ _)).mono ?_
  rintro e w8 ⟨rfl, hb8⟩
  rw [HE.out]
  have S8 : Step w8 _ := ⟨hb8⟩
  clear hb8
  go_wp2_with
    (first
     | (refine wpList_load_row_g (by rfl) 89 (.tmp 15) rfl w4.heap.size rfl 89 zP (0, 0) _ (at_ext HD.out) Try.underlying89 rfl (by kernel_rfl) ?_)
     | (refine wpList_load_row_g (by rfl) 89 (.tmp 17) rfl w5.heap.size rfl 89 zP (0, 0) _ (at_ext HZ.out) Try.underlying89 rfl (by kernel_rfl) ?_))
  refine (packetZero_any _).mono ?_
  rintro e w9 ⟨rfl, hb9⟩
  have S9 : Step w9 _ := ⟨hb9⟩
  clear hb9
  go_wp2_with fail
  refine (stateNil_any _).mono ?_
  rintro e wa ⟨rfl, hba⟩
  have Sa : Step wa _ := ⟨hba⟩
  clear hba
  go_wp2_with fail
  refine (awake22_any _).mono ?_
  rintro e wb ⟨rfl, hbb⟩
  have Sb : Step wb _ := ⟨hbb⟩
  clear hbb
  go_wp2
  go_ret
  exact ⟨rfl, Ext.out⟩

theorem size_of_arg {U : Nat} {W : World} {t : TypeId} {v : Value} {fs : Array Field} {k : Nat} (hi : (Try.prog.info? t).map (·.size) = some k) (hc : Try.prog.cellsOf t = k) (ht : Try.prog.underlying t = some (.struct fs)) (h : Arg U Try.prog W t v) : ∃ cs : Array Value, v = .agg cs ∧ (Try.prog.info? t).map (·.size) = some cs.size := by
  obtain ⟨cs, rfl, h'⟩ := Arg.struct ht h
  have hl := h'.len ht
  rw [hc] at hl
  exact ⟨cs.toArray, rfl, hi.trans (by rw [List.size_toArray, hl])⟩
namespace CcpNil
set_option maxRecDepth 100000 in
theorem walk (U : Nat) (W : World) (vs : List Value) (h : Args U Try.prog W Try.f12.params.toList vs) : Calls Try.prog 12 vs.toArray W fun e W' => e = .returned (.bool true) ∧ Below W.heap.size W W' := by
  rw [Try.params12] at h
  match vs, h with
  | [v0, v1, v2], ⟨h0, h1, h2, _⟩ =>
    obtain ⟨fc, rfl, hf⟩ := size_of_arg (k := 2) (by kernel_rfl) (by kernel_rfl) Try.underlying24 h0
    obtain ⟨pc, rfl, hp⟩ := size_of_arg (k := 3) (by kernel_rfl) (by kernel_rfl) Try.underlying89 h1
    obtain ⟨id, rfl, hw2⟩ := h2.int Try.underlying3
    exact nil22_law fc pc hf hp id W

set_option maxRecDepth 100000 in
theorem lifted (os : Os) (started : os.Started) (H : Type) (enc : TypeId × Value → H) :
    ReturnsInHanded {} Try.checked os 12 .any (Rows.ccpNilSpec.pre6 enc Try.prog Try.f12 Rows.ccpNilRow.domain false) (Rows.ccpNilSpec.post enc Try.prog Try.f12 false true false false) :=
  law_lifted (C := Try.checked) laid_out own_knob started (by kernel_rfl) Try.func12 H enc rfl
    (fun ds hd => by
      have : ds.length = 3 := hd
      match ds, this with
      | [_, _, _], _ => exact ⟨rfl, rfl, rfl⟩) rfl Try.underlying4 (by
      have : (Try.f12.params.toList.all fun t => Try.prog.readableRec t && decide (t < Try.prog.types.size)) = true := by kernel_rfl
      intro t ht
      have h := List.all_eq_true.1 this t ht
      rw [Bool.and_eq_true, decide_eq_true_eq] at h
      exact h)
    (ChangeSpec.witness6 (enc := enc) (C := Try.checked) false ⟨#[], #[.agg #[.int .i64 0, .slice none 0 0], .agg #[.int .i64 0, .int .i64 0, .slice none 0 0], .int .i64 0], []⟩ 8 (by kernel_rfl) (by kernel_rfl) (by kernel_rfl) (by kernel_rfl)) walk

theorem over : Rows.ccpNilRow.holds Try.pinned (OpenSpec.ofChange Rows.ccpNilSpec) :=
  OpenClaim.holds_of_wide 12 Try.f12 rfl rfl rfl rfl rfl rfl rfl ⟨rfl, rfl, rfl, rfl, rfl⟩ rfl rfl rfl rfl rfl (by kernel_rfl) Try.func12 (by kernel_rfl)
    (of_decide_eq_true (by kernel_rfl)) (by unfold Func.isWrapper; first | (rw [if_pos (by decide +kernel)]; kernel_rfl) | (rw [if_neg (by decide +kernel)]; exact ⟨rfl, rfl⟩))
    (fun os started H enc _ => lifted os started H enc)

/-- The statement. -/
theorem proved : Rows.CcpNilSaid := over
#print axioms proved
end CcpNil
end Go.Proofs.Ytnhmpmibkpoipaa
