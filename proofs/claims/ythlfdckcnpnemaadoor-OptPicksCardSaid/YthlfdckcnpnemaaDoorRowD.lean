/-
  THE FRAME OF A LAW's ROW that lists package-level variables with their content. No condition beyond the row's own.
-/
import Derived.Test.YthlfdckcnpnemaaDoorRow
import Derived.Deep.DeepHandedRow
import Derived.Lib.LaidTab
namespace Go.Proofs.YthlfdckcnpnemaaDoor
open Go.ChangeShapes Go.WideShapes Go.ChangeAt Go.RowKit
set_option linter.unusedVariables false
set_option linter.unusedSimpArgs false

theorem law_lifted_laid {C : Checked} {os : Os} {f : FuncId} {fn : Func} {s : ChangeSpec} {tb : TypeId} {laid : List (String × DataW Unit)} (hl : laidOutB C.prog = true) (own : ownKnob C.prog.godebug = none) (started : os.Started) (noInit : C.prog.inits.idxOf? f = none) (hfn : C.prog.funcs[f]? = some fn)
    (H : Type) (enc : TypeId × Value → H) (F : Stop.Interp) (hvars : s.vars = []) (hspec : ∀ ds : List (DataW H), ds.length = fn.params.size → (s.fn H ds).results = [.lit (.bool true)] ∧ (s.fn H ds).args = ds ∧ (s.fn H ds).vars = [])
    (hres : fn.resultTypes = #[tb]) (hbool : C.prog.underlying tb = some .bool) (hr : ∀ t ∈ fn.params.toList, C.prog.readableRec t = true ∧ t < C.prog.types.size)
    (witness : ∃ (w : World) (tape : Tape) (i : Input), w.os = os ∧ (w.forCall tape i).Shaped C.prog ∧ i.vars = [] ∧ Input.okWide C.prog (w.forCall tape i) .any w.heap.size f i ∧
      (OpenSpec.ofChange s).preRow enc C.prog fn [] false laid (w.forCall tape i).memory i.args ∧ ({} : Assume).holds C.prog (lone (Frame.enter C.prog f i.args .normal) [] (w.forCall tape i)))
    (walk : ∀ (U : Nat) (W : World) (vs : List Value), Args U C.prog W fn.params.toList vs → laidMetH C.prog laid W → Calls C.prog f vs.toArray W fun e W' => e = .returned (.bool true) ∧ Below W.heap.size W W') :
    ReturnsInHanded {} C os f .any ((OpenSpec.ofChange s).preRow enc C.prog fn [] false laid) (((OpenSpec.ofChange s).at F).post enc C.prog fn false true false false) := by
  refine returnsInHanded_of_row (s := OpenSpec.ofChange s) own started noInit hfn witness ?_
  intro W base args ds gs before hval hW _ _ hsz hL _ _
  have hW' := hW
  obtain ⟨p, q, hA, hV, rfl, hfz, hnd⟩ := hW
  have hvars' : (OpenSpec.ofChange s).vars = [] := hvars
  rw [hvars'] at hV
  obtain ⟨rfl, rfl⟩ := trodVars_none hV
  have hdl : ds.length = fn.params.size := by rw [trodAll_len _ _ _ _ hA]; simp
  obtain ⟨hs1, hs2, hs3⟩ := hspec ds hdl
  have hargs := args_of (U := Rows.uptoBulkAll ds) hA (fun n hn => by
    have h1 := List.all_eq_true.1 hsz n (by
      have e : (OpenSpec.ofChange s).bare.plain.varTypes C.prog = [] := by unfold ChangeSpec.plain; simp [DataSpec.varTypes, OpenSpec.bare, hvars']
      rw [e]; simpa using hn)
    simpa using h1) (fun d hd => bulk_part hd) (fun j t v ht hv => ⟨base, hval j t v (by simpa using ht) (by simpa using hv)⟩)
  refine (walk _ W args.toList hargs hL).mono fun e W' ⟨he, bel⟩ => ?_
  subst he
  refine ⟨_, rfl, ds, [], _, [], p, [], hW', ?_, ?_, ?_, bel.frame _, fun h => by cases h⟩
  · rw [List.append_nil, hres]
    show DataW.TrodAll _ _ _ _ _ _ _ _ (s.fn H ds).results _
    rw [hs1]
    exact trodAll_mk1 (shut_bool hbool _)
  · rw [List.append_nil]
    show DataW.TrodAll _ _ _ _ _ _ _ _ (s.fn H ds).args _
    rw [hs2]
    exact trodAll_below hl bel hr hA
  · rw [List.append_nil]
    show DataW.TrodVars _ _ _ _ s.vars (s.fn H ds).vars _
    rw [hs3, hvars]
    rfl
theorem law_lifted_laid_upto {C : Checked} {os : Os} {f : FuncId} {fn : Func} {s : ChangeSpec} {tb : TypeId} {laid : List (String × DataW Unit)} (hl : laidOutB C.prog = true) (own : ownKnob C.prog.godebug = none) (started : os.Started) (noInit : C.prog.inits.idxOf? f = none) (hfn : C.prog.funcs[f]? = some fn)
    (H : Type) (enc : TypeId × Value → H) (F : Stop.Interp) (hvars : s.vars = []) (hspec : ∀ ds : List (DataW H), ds.length = fn.params.size → (s.fn H ds).results = [.lit (.bool true)] ∧ (s.fn H ds).args = ds ∧ (s.fn H ds).vars = [])
    (hres : fn.resultTypes = #[tb]) (hbool : C.prog.underlying tb = some .bool) (hr : ∀ t ∈ fn.params.toList, C.prog.readableRec t = true ∧ t < C.prog.types.size)
    (witness : ∃ (w : World) (tape : Tape) (i : Input), w.os = os ∧ (w.forCall tape i).Shaped C.prog ∧ i.vars = [] ∧ Input.okWide C.prog (w.forCall tape i) .any w.heap.size f i ∧
      (Rows.OpenSpec.upto s).preRow enc C.prog fn [] false laid (w.forCall tape i).memory i.args ∧ ({} : Assume).holds C.prog (lone (Frame.enter C.prog f i.args .normal) [] (w.forCall tape i)))
    (walk : ∀ (W : World) (vs : List Value), Args 1048576 C.prog W fn.params.toList vs → laidMetH C.prog laid W → Calls C.prog f vs.toArray W fun e W' => e = .returned (.bool true) ∧ Below W.heap.size W W') :
    ReturnsInHanded {} C os f .any ((Rows.OpenSpec.upto s).preRow enc C.prog fn [] false laid) (((Rows.OpenSpec.upto s).at F).post enc C.prog fn false true false false) := by
  refine returnsInHanded_of_row (s := Rows.OpenSpec.upto s) own started noInit hfn witness ?_
  intro W base args ds gs before hval hW _ hk hsz hL _ _
  have hW' := hW
  obtain ⟨p, q, hA, hV, rfl, hfz, hnd⟩ := hW
  have hvars' : (Rows.OpenSpec.upto s).vars = [] := hvars
  rw [hvars'] at hV
  obtain ⟨rfl, rfl⟩ := trodVars_none hV
  have hdl : ds.length = fn.params.size := by rw [trodAll_len _ _ _ _ hA]; simp
  obtain ⟨hs1, hs2, hs3⟩ := hspec ds hdl
  have hb : Rows.uptoBulkAll (ds ++ []) ≤ 1048576 := of_decide_eq_true (hk Rows.uptoSmall rfl)
  rw [List.append_nil] at hb
  have hargs := args_of (U := 1048576) hA (fun n hn => by
    have h1 := List.all_eq_true.1 hsz n (by
      have e : (Rows.OpenSpec.upto s).bare.plain.varTypes C.prog = [] := by unfold ChangeSpec.plain; simp [DataSpec.varTypes, OpenSpec.bare, hvars']
      rw [e]; simpa using hn)
    simpa using h1) (fun d hd => Nat.le_trans (bulk_part hd) hb) (fun j t v ht hv => ⟨base, hval j t v (by simpa using ht) (by simpa using hv)⟩)
  refine (walk W args.toList hargs hL).mono fun e W' ⟨he, bel⟩ => ?_
  subst he
  refine ⟨_, rfl, ds, [], _, [], p, [], hW', ?_, ?_, ?_, bel.frame _, fun h => by cases h⟩
  · rw [List.append_nil, hres]
    show DataW.TrodAll _ _ _ _ _ _ _ _ (s.fn H ds).results _
    rw [hs1]
    exact trodAll_mk1 (shut_bool hbool _)
  · rw [List.append_nil]
    show DataW.TrodAll _ _ _ _ _ _ _ _ (s.fn H ds).args _
    rw [hs2]
    exact trodAll_below hl bel hr hA
  · rw [List.append_nil]
    show DataW.TrodVars _ _ _ _ s.vars (s.fn H ds).vars _
    rw [hs3, hvars]
    rfl
end Go.Proofs.YthlfdckcnpnemaaDoor
