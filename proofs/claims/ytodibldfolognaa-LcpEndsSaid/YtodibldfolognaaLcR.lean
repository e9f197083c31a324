/-
  lcp.Options: what one direction has, as options; its closure 'add', which lays one more into a captured list. No condition.
-/
import Derived.Test.YtodibldfolognaaLcL
import Derived.Test.YtodibldfolognaaLcN
import Derived.Test.YtodibldfolognaaReg
import Derived.Test.YtodibldfolognaaOptSub
namespace Go.Proofs.Ytodibldfolognaa
open Go.RowKit
set_option linter.unusedVariables false
set_option linter.unusedSimpArgs false

/-- A call of a closure that is met by its contract, as one step of a region that draws its order. -/
theorem step_call_v {P : Program} {ops : Array Oper} {o : Oper} {a : Act} {W : World} {K : Act → World → Prop} {Q : Exit → Act → World → Prop} {F : Prop} (hw : Region.wanted o (yielded ops a.tmps) = true) {f : FuncId} {fn : Func} (hf : P.funcs[f]? = some fn) (hfn : (fn.name == "runtime.NumGoroutine") = false) (hfb : fn.body.isNone = false) (x : Operand) (xs : Array Operand) (ts : Array TypeId)
    (ho : o.op = .call { callee := .value x, args := xs, argTypes := ts }) (cap : Array Value) (hx : a.eval x = .func (.func f) #[] cap) (vs : Array Value) (hvs : xs.map a.eval ++ cap = vs) {R : Ending → World → Prop} (hc : Calls P f vs W R) (h : ∀ e w', R e w' → ∃ v, e = .returned v ∧ K (a.put o.dst v) w') :
    if Region.wanted o (yielded ops a.tmps) = true then Oper.wp P o a W K Q else F := by
  rw [if_pos hw]
  have hrun : (execOp a.eval o).run P W = .ok (.enter f vs) W := by
    unfold execOp
    simp only [ho]
    have h1 : ¬ fn.name = "runtime.NumGoroutine" := by simpa using hfn
    have h2 : ¬ fn.body = none := by intro he; rw [he] at hfb; cases hfb
    simp [resolve, invoke, hx, hvs, Deferred.ofValue, callFunc, hf, h1, h2]
  unfold Oper.wp
  rw [hrun, Oper.upon_enter]
  refine hc.mono ?_
  intro e w' hR
  obtain ⟨v, rfl, hk⟩ := h e w' hR
  exact hk
/-- A list of options in a variable of its own: world w is wI but for that variable and what is younger. -/
structure LAt (wI : World) (B : Nat) (w : World) (v : Value) (bs : List OV) : Prop where
  os : w.os = wI.os
  tape : w.tape = wI.tape
  output : w.output = wI.output
  size : wI.heap.size ≤ w.heap.size
  low : B < wI.heap.size
  block : ∀ k, k < wI.heap.size → k ≠ B → w.heap[k]? = wI.heap[k]?
  cell : w.heap[B]? = some (.cells #[v] 29 (0, 0))
  own : OptsOwn w wI.heap.size v bs
section
variable {wI w w' : World} {B : Nat} {v : Value} {bs : List OV}
theorem LAt.ext [h : Ext w w'] (L : LAt wI B w v bs) : LAt wI B w' v bs :=
  ⟨h.out.os.trans L.os, h.out.tape.trans L.tape, h.out.output.trans L.output, Nat.le_trans L.size h.out.size, L.low, fun k hk hB => (h.out.block k (Nat.lt_of_lt_of_le hk L.size)).trans (L.block k hk hB), at_ext L.cell, L.own.ext⟩
theorem LAt.at {g : Nat} {o : Obj} (L : LAt wI B w v bs) (hg : g ≠ B) (k : wI.heap[g]? = some o) : w.heap[g]? = some o := (L.block g (at_lt k) hg).trans k
theorem LAt.below {b : Nat} {w0 : World} (L : LAt wI B w v bs) (h : Below b w0 wI) (hb : b ≤ B) : Below b w0 w :=
  h.trans ⟨L.os, L.tape, L.output, L.size, fun k hk => L.block k (Nat.lt_of_lt_of_le (Nat.lt_of_lt_of_le hk hb) (Nat.le_of_lt L.low)) (by omega)⟩
theorem LAt.nil_ (hB : B < wI.heap.size) (h : wI.heap[B]? = some (.cells #[.slice none 0 0] 29 (0, 0))) : LAt wI B wI (.slice none 0 0) [] :=
  ⟨rfl, rfl, rfl, Nat.le_refl _, hB, fun _ _ _ => rfl, h, OptsOwn.nil_ _ _⟩
theorem OptsOwn.young_set {base : Nat} {p : Addr} {u : Value} (h : OptsOwn w base v bs) (hp : p.block < base) : OptsOwn (w.setCell p u) base v bs := ⟨own_young h.1 hp, fun x hx => own_young (h.2.1 x hx) hp, h.2.2⟩
theorem LAt.push {W w1 : World} {v1 : Value} {u : OV} (L : LAt wI B W v bs) (e1 : Ext W w) (hd : w.ownsRow W.heap.size 5 1 (.slice u.A u.n u.c) u.n (nums .u8 u.d)) (hok : u.d.length = u.n ∧ u.n ≤ 140737488355300 ∧ Byt u.d)
    (ho2 : w1.ownsRow wI.heap.size 119 2 v1 (bs.length + 1) (flat bs ++ u.cells)) (hb : Below wI.heap.size w w1) (hg : w.grownBy w1 v.ownBlock) (hat : v1.ownBlock = v.ownBlock ∨ ∃ b, v1.ownBlock = some b ∧ w.heap.size ≤ b) :
    LAt wI B (w1.setCell ⟨B, 0, none⟩ v1) v1 (bs ++ [u]) := by
  have L2 := L.ext (w' := w)
  refine ⟨hb.os.trans L2.os, hb.tape.trans L2.tape, hb.output.trans L2.output, ?_, L.low, ?_, ?_, ?_⟩
  · have := hb.size
    have := L2.size
    simp [World.setCell]
    omega
  · intro k hk hkB
    rw [Below.heap_setCell _ _ _ _ hkB, hb.block k hk]
    exact L2.block k hk hkB
  · have h1 := (hb.block B L.low).trans L2.cell
    exact at_set h1 0 v1
  · exact (OptsOwn.push L.own L.size e1 hd hok ho2 hg hat).young_set L.low
end
set_option maxHeartbeats 1000000 in
theorem ladd_no (t : Int) (VA : Option Addr) (vn vc : Nat) (B : Nat) (w : World) : Calls Try.prog 92 #[.bool false, .int .i64 t, .slice VA vn vc, .pointer (some ⟨B, 0, none⟩)] w fun e w' => e = .returned (.tuple #[]) ∧ w' = w := by
  go_enter Try.func92, Try.ntmps92
  go_wp2
  go_end0
  exact ⟨rfl, rfl⟩
set_option maxHeartbeats 2000000 in
theorem ladd_yes (t : Int) (VA : Option Addr) (vn vc : Nat) (d : List Int) (B : Nat) (wI W : World) (v : Value) (bs : List OV) (hbl : bs.length ≤ 1000) (L : LAt wI B W v bs) (w : World) (e1 : Ext W w)
    (hd : w.ownsRow W.heap.size 5 1 (.slice VA vn vc) vn (nums .u8 d)) (hok : d.length = vn ∧ vn ≤ 140737488355300 ∧ Byt d) :
    Calls Try.prog 92 #[.bool true, .int .i64 t, .slice VA vn vc, .pointer (some ⟨B, 0, none⟩)] w fun e w' => e = .returned (.tuple #[]) ∧ ∃ v2, LAt wI B w' v2 (bs ++ [⟨t, VA, vn, vc, d⟩]) := by
  have HL := Lib.hid L
  have HD := Lib.hid hd
  have HK := Lib.hid hok
  have L2 := L.ext (w' := w)
  obtain ⟨Lb, cb, rfl, _⟩ := own_slice L.own.1
  have c0 : w.cell? ⟨B, 0, none⟩ = some (.slice Lb bs.length cb) := at_cell L2.cell 0
  have HS := Lib.hid L2
  clear hd hok L L2
  go_enter Try.func92, Try.ntmps92
  go_wp2_with
    (at_builtin
     refine wp_append_box (w0 := w) wI.heap.size rfl (.tmp 8) (.tmp 12) 29 119 (.agg #[.int .i64 0, .slice none 0 0]) 2 32 1 rfl Try.underlying29 info_opt rfl (by decide) (by decide) (.slice Lb bs.length cb) bs.length (flat bs) [.int .i64 t, .slice VA vn vc] rfl rfl rfl (flat_one [⟨t, VA, vn, vc, []⟩]) HS.out.own.1 (Below.refl _ _) HS.out.size (by omega) ?_
     intro v1 w1 ho1 hb1 hg1 hat1
     obtain ⟨L1, c1, rfl, _⟩ := own_slice ho1
     have H1 := Lib.hid ho1
     have H2 := Lib.hid hb1
     have H3 := Lib.hid hg1
     have H4 := Lib.hid hat1
     have HC := Lib.hid ((hb1.block B HS.out.low).trans HS.out.cell)
     have f0 := at_frozen HC.out 0
     have q0 := at_cell HC.out 0
     simp only [List.getElem?_toArray, List.getElem?_cons_zero] at q0
     clear ho1 hb1 hg1 hat1)
  go_end0
  exact ⟨rfl, _, LAt.push HL.out e1 HD.out HK.out H1.out H2.out H3.out H4.out⟩
theorem lauth_nil (m : Int) (h : authL m = []) (w : World) : Calls Try.prog 34 #[.int .i64 m] w fun e w' => e = .returned (.slice none 0 0) ∧ w' = w := by
  have h1 : ¬ m = 1 := by rintro rfl; cases h
  have h2 : ¬ m = 2 := by rintro rfl; cases h
  have h3 : ¬ m = 3 := by rintro rfl; cases h
  have h1' : (m == 1) = false := by simpa using h1
  have h2' : (m == 2) = false := by simpa using h2
  have h3' : (m == 3) = false := by simpa using h3
  clear h
  go_enter Try.func34, Try.ntmps34
  go_wp2
  go_ret
  exact ⟨rfl, rfl⟩
end Go.Proofs.Ytodibldfolognaa
