/-
  tetherlaw04.Md5Nil: a stream that is not there takes nothing and tells nothing: for every input the call answers true. No condition.
-/
import Derived.Test.YtmopdimokoogmaaMdM
import Derived.Test.YtmopdimokoogmaaMdU
import Derived.Test.YtmopdimokoogmaaSeat
import Derived.Test.YtmopdimokoogmaaArgs
import Derived.Test.YtmopdimokoogmaaArr
import Derived.Test.YtmopdimokoogmaaReg
namespace Go.Proofs.Ytmopdimokoogmaa
open Go.RowKit
set_option linter.unusedVariables false
set_option linter.unusedSimpArgs false

theorem resetNil_any (w : World) : Calls Try.prog 50 #[.pointer none] w fun e w' => e = .returned (.tuple #[]) ∧ w = w' := by
  go_enter Try.func50, Try.ntmps50
  go_wp2
  go_end0
  exact ⟨rfl, rfl⟩
theorem lenNil_any (w : World) : Calls Try.prog 51 #[.pointer none] w fun e w' => e = .returned (.int .i64 0) ∧ w = w' := by
  go_enter Try.func51, Try.ntmps51
  go_wp2
  go_ret
  exact ⟨rfl, rfl⟩
theorem copyNil_any (w : World) : Calls Try.prog 45 #[.pointer none] w fun e w' => e = .returned (.pointer none) ∧ w = w' := by
  go_enter Try.func45, Try.ntmps45
  go_wp2
  go_ret
  exact ⟨rfl, rfl⟩
theorem writeNil_any (v : Value) (w : World) : Calls Try.prog 44 #[.pointer none, v] w fun e w' => e = .returned (.int .i64 2) ∧ w = w' := by
  go_enter Try.func44, Try.ntmps44
  go_wp2
  go_ret
  exact ⟨rfl, rfl⟩
set_option maxRecDepth 100000 in
theorem sumNil_any (w : World) : Calls Try.prog 46 #[.pointer none] w fun e w' => e = .returned (.agg #[.int .u8 0, .int .u8 0, .int .u8 0, .int .u8 0, .int .u8 0, .int .u8 0, .int .u8 0, .int .u8 0, .int .u8 0, .int .u8 0, .int .u8 0, .int .u8 0, .int .u8 0, .int .u8 0, .int .u8 0, .int .u8 0]) ∧ Below w.heap.size w w' := by
  go_enter Try.func46, Try.ntmps46
  go_wp2
  exact bodyPost_ret (results_cell_row Try.results46 _ _ w.heap.size 44 _ (0, 0) _ rfl (at_new w _) Try.underlying44 rfl (by kernel_rfl)) rfl ⟨rfl, Ext.out⟩
theorem boxed_cell_at {W : World} {B C : Nat} {t : TypeId} {v : Value} (h : Boxed W B t v) (e : B = C) : W.cell? ⟨C, 0, none⟩ = some v := e ▸ h.cell
theorem seq_mono {α : Type} {F : Fence} {n : Nat} {P : Program} {g : Nat} {lb : Array Value} {encs : α → Array Value} {Kp : World → World → Prop} {S Sp Sp' : List α → Prop} {N : Nat} {w : World} (h : SeqStopsK F n P g lb encs Kp S Sp N w) (k : ∀ p, Sp p → Sp' p) : SeqStopsK F n P g lb encs Kp S Sp' N w :=
  fun l J Jx W a b c d e => (h l J Jx W a b c d e).mono (by
    rintro e W' ⟨h1, h2 | ⟨pre, hp, hj⟩⟩
    · exact ⟨h1, .inl h2⟩
    · exact ⟨h1, .inr ⟨pre, k _ hp, hj⟩⟩)
theorem lblocksNil_any (most : Int) (hm : 0 < most) (hm2 : most ≤ 9223372036854775807) (w : World) :
    Calls Try.prog 48 #[.pointer none, .int .i64 most] w fun e w' => ∃ v, e = .returned v ∧ w'.ownsRow w.heap.size 44 16 v 0 [] ∧ Below w.heap.size w w' := by
  have h := lblocks4_any none most [] 0 (by omega) hm hm2 w (by
    have h1 := blocks_stops_nil 3 (w.heap.size + 1 + 1) w.heap.size (((w.alloc (.cells #[.int .i64 most] 3)).alloc (.cells #[.slice none 0 0] 64)).alloc (.cells #[.pointer none] 59)) (by simp)
      (boxed_cell_at (Boxed.new ((w.alloc (.cells #[.int .i64 most] 3)).alloc (.cells #[.slice none 0 0] 64)) 59 (.pointer none)) (by simp))
    exact seq_mono h1 (by rintro p ⟨k, hk, rfl⟩; exact ⟨0, Nat.zero_le _, by simp [upto]⟩))
  simpa [flat16] using h
theorem args_one {U : Nat} {P : Program} {W : World} {vs : List Value} {t : TypeId} (h : Args U P W [t] vs) : ∃ v, vs = [v] ∧ Arg U P W t v := by
  match vs, h with
  | [v], h => exact ⟨v, rfl, h.1⟩
set_option maxRecDepth 100000 in
set_option maxHeartbeats 4000000 in
theorem nil_any (v : Value) (w : World) : Calls Try.prog 12 #[v] w fun e w' => e = .returned (.bool true) ∧ Below w.heap.size w w' := by
  obtain ⟨i0, hi0, hzz⟩ := Option.map_eq_some_iff.1 info_u8
  have hEq : ∀ W : World, (Op.equalIn 10000 44 (.agg #[.int .u8 0, .int .u8 0, .int .u8 0, .int .u8 0, .int .u8 0, .int .u8 0, .int .u8 0, .int .u8 0, .int .u8 0, .int .u8 0, .int .u8 0, .int .u8 0, .int .u8 0, .int .u8 0, .int .u8 0, .int .u8 0]) (.agg #[.int .u8 0, .int .u8 0, .int .u8 0, .int .u8 0, .int .u8 0, .int .u8 0, .int .u8 0, .int .u8 0, .int .u8 0, .int .u8 0, .int .u8 0, .int .u8 0, .int .u8 0, .int .u8 0, .int .u8 0, .int .u8 0])).run Try.prog W = .ok true W := fun W => run_equalIn_self W 9998 44 5 16 .u8 (List.replicate 16 0) i0 Try.underlying44 Try.underlying5 hi0 (by simp only [Prod.mk.injEq] at hzz; exact hzz.2.1) rfl
  clear hzz hi0
  go_enter Try.func12, Try.ntmps12
  go_wp2_with fail
  refine (resetNil_any _).mono ?_
  rintro e w1 ⟨rfl, rfl⟩
  go_wp2_with fail
  refine (writeNil_any _ _).mono ?_
  rintro e w1 ⟨rfl, rfl⟩
  go_wp2_with fail
  refine (sumNil_any _).mono ?_
  rintro e w1 ⟨rfl, hb1⟩
  have S1 : Step w1 _ := ⟨hb1⟩
  clear hb1
  go_wp2_with fail
  refine (lenNil_any _).mono ?_
  rintro e w2 ⟨rfl, rfl⟩
  go_wp2_with fail
  refine (copyNil_any _).mono ?_
  rintro e w2 ⟨rfl, rfl⟩
  go_wp2_with fail
  refine (lblocksNil_any 5 (by omega) (by omega) _).mono ?_
  rintro e w2 ⟨v2, rfl, ho2, hb2⟩
  have S2 : Step w2 _ := ⟨hb2⟩
  obtain ⟨A2, c2, rfl, _⟩ := own_slice ho2
  clear ho2 hb2
  go_wp2_with fail
  refine (awake4_any _).mono ?_
  rintro e w12 ⟨rfl, hb12⟩
  have S12 : Step w12 _ := ⟨hb12⟩
  clear hb12
  go_wp2
  go_ret
  exact ⟨rfl, Ext.out⟩

namespace Md5Nil
set_option maxRecDepth 100000 in
theorem walk (U : Nat) (W : World) (vs : List Value) (h : Args U Try.prog W Try.f12.params.toList vs) : Calls Try.prog 12 vs.toArray W fun e W' => e = .returned (.bool true) ∧ Below W.heap.size W W' := by
  rw [Try.params12] at h
  obtain ⟨v0, rfl, h0⟩ := args_one h
  exact nil_any v0 W

set_option maxRecDepth 100000 in
theorem lifted (os : Os) (started : os.Started) (H : Type) (enc : TypeId × Value → H) :
    ReturnsInHanded {} Try.checked os 12 .any (Rows.md5NilSpec.pre6 enc Try.prog Try.f12 Rows.md5NilRow.domain false) (Rows.md5NilSpec.post enc Try.prog Try.f12 false true false false) :=
  law_lifted (C := Try.checked) laid_out own_knob started (by kernel_rfl) Try.func12 H enc rfl
    (fun ds hd => by
      have : ds.length = 1 := hd
      match ds, this with
      | [_], _ => exact ⟨rfl, rfl, rfl⟩) rfl Try.underlying4 (by
      have : (Try.f12.params.toList.all fun t => Try.prog.readableRec t && decide (t < Try.prog.types.size)) = true := by kernel_rfl
      intro t ht
      have h := List.all_eq_true.1 this t ht
      rw [Bool.and_eq_true, decide_eq_true_eq] at h
      exact h)
    (ChangeSpec.witness6 (enc := enc) (C := Try.checked) false ⟨#[], #[.slice none 0 0], []⟩ 8 (by kernel_rfl) (by kernel_rfl) (by kernel_rfl) (by kernel_rfl)) walk

theorem over : Rows.md5NilRow.holds Try.pinned (OpenSpec.ofChange Rows.md5NilSpec) :=
  OpenClaim.holds_of_wide 12 Try.f12 rfl rfl rfl rfl rfl rfl rfl ⟨rfl, rfl, rfl, rfl, rfl⟩ rfl rfl rfl rfl rfl (by kernel_rfl) Try.func12 (by kernel_rfl)
    (of_decide_eq_true (by kernel_rfl)) (by unfold Func.isWrapper; first | (rw [if_pos (by decide +kernel)]; kernel_rfl) | (rw [if_neg (by decide +kernel)]; exact ⟨rfl, rfl⟩))
    (fun os started H enc _ => lifted os started H enc)

/-- The statement. -/
theorem proved : Rows.Md5NilSaid := over
#print axioms proved
end Md5Nil
end Go.Proofs.Ytmopdimokoogmaa
