/-
  ccp: ends that are not there; the reference's Same of frames. No condition.
-/
import Derived.Test.YtnhmpmibkpoipaaCcF
namespace Go.Proofs.Ytnhmpmibkpoipaa
open Go.RowKit
set_option linter.unusedVariables false
set_option linter.unusedSimpArgs false

def ZFrame (w : World) (e : Ending) (w' : World) : Prop := e = .returned (.tuple #[.agg #[.int .i64 0, .slice none 0 0], .int .i64 2]) ∧ Below w.heap.size w w'
def ZPacket (w : World) (e : Ending) (w' : World) : Prop := e = .returned (.tuple #[.agg #[.int .i64 0, .int .i64 0, .slice none 0 0], .int .i64 2]) ∧ Below w.heap.size w w'
theorem sendNil_any (v : Array Value) (w : World) : Calls Try.prog 55 #[.pointer none, .agg v] w (ZFrame w) := by
  go_enter Try.func55, Try.ntmps55
  go_wp2
  exact bodyPost_ret (v := .tuple #[.agg #[.int .i64 0, .slice none 0 0], .int .i64 2]) (by simp [results, Try.results55, go_sem]) rfl ⟨rfl, Ext.out⟩
theorem resetNil_any (v : Array Value) (w : World) : Calls Try.prog 56 #[.pointer none, .agg v] w (ZPacket w) := by
  go_enter Try.func56, Try.ntmps56
  go_wp2
  exact bodyPost_ret (v := .tuple #[.agg #[.int .i64 0, .int .i64 0, .slice none 0 0], .int .i64 2]) (by simp [results, Try.results56, go_sem]) rfl ⟨rfl, Ext.out⟩
theorem takeNil_any (v : Array Value) (w : World) : Calls Try.prog 57 #[.pointer none, .agg v] w (ZFrame w) := by
  go_enter Try.func57, Try.ntmps57
  go_wp2
  exact bodyPost_ret (v := .tuple #[.agg #[.int .i64 0, .slice none 0 0], .int .i64 2]) (by simp [results, Try.results57, go_sem]) rfl ⟨rfl, Ext.out⟩
theorem askNil_any (n : Int) (w : World) : Calls Try.prog 58 #[.pointer none, .int .i64 n] w (ZPacket w) := by
  go_enter Try.func58, Try.ntmps58
  go_wp2
  exact bodyPost_ret (v := .tuple #[.agg #[.int .i64 0, .int .i64 0, .slice none 0 0], .int .i64 2]) (by simp [results, Try.results58, go_sem]) rfl ⟨rfl, Ext.out⟩
theorem ackNil_any (v : Array Value) (w : World) : Calls Try.prog 59 #[.pointer none, .agg v] w fun e w' => e = .returned (.int .i64 2) ∧ Below w.heap.size w w' := by
  go_enter Try.func59, Try.ntmps59
  go_wp2
  go_ret
  exact ⟨rfl, Ext.out⟩
theorem stateNil_any (w : World) : Calls Try.prog 61 #[.pointer none] w fun e w' => e = .returned (.int .i64 0) ∧ Below w.heap.size w w' := by
  go_enter Try.func61, Try.ntmps61
  go_wp2
  go_ret
  exact ⟨rfl, Ext.out⟩
/-- Frames are held against each other. -/
def frSame (p q : Int) (xs ys : List Int) : Bool := decide (p = q ∧ xs = ys)
set_option maxHeartbeats 1000000 in
theorem frameSame_any (p q : Int) (A B : Option Addr) (n m c d : Nat) (xs ys : List Int) (hn : xs.length = n) (hm : ys.length = m) (hbx : Byt xs) (hby : Byt ys) (w : World) (hx : Cells w A (nums .u8 xs)) (hy : Cells w B (nums .u8 ys)) :
    Calls Try.prog 18 #[.agg #[.int .i64 p, .slice A n c], .agg #[.int .i64 q, .slice B m d]] w fun e w' => e = .returned (.bool (frSame p q xs ys)) ∧ Below w.heap.size w w' := by
  have h1 := conv_cells (P := Try.prog) (c := c) 22 5 9 Try.underlying22 Try.underlying5 Try.underlying9 hn (hx.ext (w' := (w.alloc (.cells #[.int .i64 p, .slice A n c] 24)).alloc (.cells #[.int .i64 q, .slice B m d] 24)))
  have h2 := conv_cells (P := Try.prog) (c := d) 22 5 9 Try.underlying22 Try.underlying5 Try.underlying9 hm (hy.ext (w' := (w.alloc (.cells #[.int .i64 p, .slice A n c] 24)).alloc (.cells #[.int .i64 q, .slice B m d] 24)))
  by_cases hpq : p = q
  · subst hpq
    have HE : Hid (((strOfNums xs).toList == (strOfNums ys).toList) = frSame p p xs ys) := by
      unfold Hid
      rw [str_eq hbx hby]
      simp [frSame]
    clear hn hm hx hy hbx hby
    generalize strOfNums xs = s at *
    generalize strOfNums ys = t at *
    go_enter Try.func18, Try.ntmps18
    go_wp2
    go_ret
    exact ⟨ret_bool HE.out, Ext.out⟩
  · have hp : (p == q) = false := by simpa using hpq
    have HE : Hid (frSame p q xs ys = false) := Lib.hid (by simp [frSame, hpq])
    clear hn hm hx hy hbx hby hpq h1 h2
    go_enter Try.func18, Try.ntmps18
    go_wp2
    go_ret
    exact ⟨ret_bool HE.out.symm, Ext.out⟩
set_option maxHeartbeats 1000000 in
theorem packetZero_any (w : World) : Calls Try.prog 60 #[.agg #[.int .i64 0, .int .i64 0, .slice none 0 0], .agg #[.int .i64 0, .int .i64 0, .slice none 0 0]] w fun e w' => e = .returned (.bool true) ∧ Below w.heap.size w w' := by
  go_enter Try.func60, Try.ntmps60
  go_wp2_with fail
  refine (same_any none none 0 0 0 0 [] [] rfl rfl (by omega) (by omega) _ (Cells.nil_ _ _) (Cells.nil_ _ _)).mono ?_
  rintro e w1 ⟨rfl, q, rfl⟩
  simp only [decide_true]
  go_wp2
  go_ret
  exact ⟨rfl, Ext.out⟩
end Go.Proofs.Ytnhmpmibkpoipaa
