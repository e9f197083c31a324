/-
  eap: isByte, the bodies' bytes, body. Conditions: sizes.
-/
import Derived.Test.YtobddmpiljknpaaB6
import Derived.Test.YtobddmpiljknpaaB4
import Derived.Handy
namespace Go.Proofs.Ytobddmpiljknpaa
open Go.RowKit
set_option linter.unusedVariables false
set_option linter.unusedSimpArgs false

def byteB (n : Int) : Bool := decide (0 ≤ n ∧ n ≤ 255)
def bodyE (ty : Int) (v t : List Int) : Int :=
  if ty = 1 ∨ ty = 2 then (if v = [] then 0 else 3)
  else if ty = 4 then (if v.length < 1 ∨ 255 < v.length then 3 else 0)
  else if t ≠ [] ∨ (ty = 3 ∧ v = []) then 3 else 0
def bodyD (ty : Int) (v t : List Int) : List Int :=
  if ty = 1 ∨ ty = 2 then t else if ty = 4 then [(v.length : Int)] ++ v ++ t else v
def wrE (code id ty : Int) (v t : List Int) : (Int × Int) × List Int × Int :=
  if byteB id = false ∨ byteB ty = false then ((0, 0), [], 1)
  else if code < 1 ∨ 4 < code ∨ (code = 1 ∧ ty = 3) then ((0, 0), [], 90)
  else if 3 ≤ code then (if ty ≠ 0 ∨ v ≠ [] ∨ t ≠ [] then ((0, 0), [], 3) else ((code, id), [], 0))
  else if bodyE ty v t ≠ 0 then ((0, 0), [], bodyE ty v t)
  else if 16380 < (bodyD ty v t).length + 1 then ((0, 0), [], 4)
  else ((code, id), [ty] ++ bodyD ty v t, 0)
theorem isByte_any (n : Int) (w : World) : Calls Try.prog 73 #[.int .i64 n] w fun e w' => e = .returned (.bool (byteB n)) ∧ w = w' := by
  by_cases h1 : n < 0
  · have HB : Hid (byteB n = false) := decide_eq_false (by omega)
    go_enter Try.func73, Try.ntmps73
    go_wp2
    go_ret
    exact ⟨ret_bool HB.out.symm, rfl⟩
  have h1' : 0 ≤ n := by omega
  by_cases h2 : 255 < n
  · have HB : Hid (byteB n = false) := decide_eq_false (by omega)
    have h2' : decide (n ≤ 255) = false := decide_eq_false (by omega)
    clear h1
    go_enter Try.func73, Try.ntmps73
    go_wp2
    go_ret
    exact ⟨ret_bool HB.out.symm, rfl⟩
  have HB : Hid (byteB n = true) := decide_eq_true (by omega)
  have h2' : decide (n ≤ 255) = true := decide_eq_true (by omega)
  clear h1
  go_enter Try.func73, Try.ntmps73
  go_wp2
  go_ret
  exact ⟨ret_bool HB.out.symm, rfl⟩
/-- What a body's bytes answers. -/
def BytesTell (d : List Int) (w : World) (e : Ending) (w' : World) : Prop := ∃ A n c, e = .returned (.slice A n c) ∧ d.length = n ∧ Cells w' A (nums .u8 d) ∧ Below w.heap.size w w'
theorem plainBytes_any (s : ByteArray) (w : World) : Calls Try.prog 147 #[.string s] w (BytesTell (strB s) w) := by
  obtain ⟨w1, c1, hcv, hsc, hC1, hB1, _⟩ := conv_str (P := Try.prog) w 117 22 5 s Try.underlying117 Try.underlying22 Try.underlying5
  have HC1 := Lib.hid hC1
  have HB1 := Lib.hid hB1
  clear hC1 hB1 hsc
  go_enter Try.func147, Try.ntmps147
  go_wp2
  go_ret
  exact ⟨_, _, _, rfl, strB_len s, HC1.out, HB1.out⟩
theorem unreadBytes_any (A : Option Addr) (n c : Nat) (d : List Int) (hn : d.length = n) (w : World) (hx : Cells w A (nums .u8 d)) : Calls Try.prog 149 #[.slice A n c] w (BytesTell d w) := by
  have Hn := Lib.hid hn
  have HX := Lib.hid hx
  clear hn hx
  go_enter Try.func149, Try.ntmps149
  go_wp2
  go_ret
  exact ⟨_, _, _, rfl, Hn.out, HX.out, Below.refl _ _⟩
set_option maxRecDepth 100000 in
set_option maxHeartbeats 4000000 in
theorem proofBytes_any (A : Option Addr) (n c : Nat) (v : List Int) (B : Option Addr) (m d : Nat) (t : List Int) (hn : v.length = n) (hn' : n ≤ 255) (hm : t.length = m) (hm' : m ≤ 140737488355000) (w : World) (hx : Cells w A (nums .u8 v)) (hy : Cells w B (nums .u8 t)) :
    Calls Try.prog 148 #[.agg #[.slice A n c, .slice B m d]] w (BytesTell ([(v.length : Int)] ++ v ++ t) w) := by
  have Hn := Lib.hid hn
  have Hm := Lib.hid hm
  have HX := Lib.hid hx
  have HY := Lib.hid hy
  have hwn : IntKind.u8.wrap (n : Int) = n := wraps_u8 _ (by omega) (by omega)
  clear hn hm hx hy
  go_enter Try.func148, Try.ntmps148
  go_upto_region 1 with fail
  obtain ⟨wb, hwb⟩ : ∃ wb, w.alloc (.cells #[.slice A n c, .slice B m d] 119) = wb := ⟨_, rfl⟩
  have HP : Hid (wb.heap[w.heap.size]? = some (.cells #[.slice A n c, .slice B m d] 119 (0, 0))) := by unfold Hid; rw [← hwb]; exact at_new w _
  have HW : Hid (Ext w wb) := by unfold Hid; rw [← hwb]; exact inferInstance
  have hcA := HX.out.ext (h := HW.out)
  have hcB := HY.out.ext (h := HW.out)
  have HCA := Lib.hid hcA
  have HCB := Lib.hid hcB
  rw [hwb]
  clear hwb hcA hcB
  refine wp_region_held_drew (S := Ext wb) (by kernel_rfl) (by exact inferInstance) (fun hHeld => ?_)
  refine wpAnyH_take (i := 0) (v := ?_) rfl (by kernel_rfl) (by kernel_rfl) (by kernel_rfl) (fun _ _ _ h => h) (Yields.yieldsIf (Or.inl ⟨by rfl, ?_⟩)) hHeld ?_
  rotate_left
  · intro W
    go_simp
    try with_reducible rfl
  simp only [List.getElem_toArray, List.getElem_cons_succ, List.getElem_cons_zero, Act.put, List.setIfInBounds_toArray, List.set_cons_zero, List.set_cons_succ]
  refine wpAnyH_take (i := 1) (v := ?_) rfl (by kernel_rfl) (by kernel_rfl) (by kernel_rfl) (fun _ _ _ h => h) (Or.inl ⟨by rfl, ?_⟩) hHeld ?_
  rotate_left
  · intro W hW
    have hcl := cell_ext (h := hW) (at_cell HP.out 0)
    go_simp
    try with_reducible rfl
  simp only [List.getElem_toArray, List.getElem_cons_succ, List.getElem_cons_zero, Act.put, List.setIfInBounds_toArray, List.set_cons_zero, List.set_cons_succ]
  refine wpAnyH_take (i := 2) (v := ?_) rfl (by kernel_rfl) (by kernel_rfl) (by kernel_rfl) (fun _ _ _ h => h) (Yields.yieldsIf (Or.inl ⟨by rfl, ?_⟩)) hHeld ?_
  rotate_left
  · intro W
    go_simp
    try with_reducible rfl
  simp only [List.getElem_toArray, List.getElem_cons_succ, List.getElem_cons_zero, Act.put, List.setIfInBounds_toArray, List.set_cons_zero, List.set_cons_succ]
  refine wpAnyH_take (i := 5) (v := ?_) rfl (by kernel_rfl) (by kernel_rfl) (by kernel_rfl) (fun _ _ _ h => h) (Yields.yieldsIf (Or.inl ⟨by rfl, ?_⟩)) hHeld ?_
  rotate_left
  · intro W
    go_simp
    try with_reducible rfl
  simp only [List.getElem_toArray, List.getElem_cons_succ, List.getElem_cons_zero, Act.put, List.setIfInBounds_toArray, List.set_cons_zero, List.set_cons_succ]
  refine wpAnyH_take (i := 6) (v := ?_) rfl (by kernel_rfl) (by kernel_rfl) (by kernel_rfl) (fun _ _ _ h => h) (Or.inl ⟨by rfl, ?_⟩) hHeld ?_
  rotate_left
  · intro W hW
    have hcl := cell_ext (h := hW) (at_cell HP.out 0)
    go_simp
    try with_reducible rfl
  simp only [List.getElem_toArray, List.getElem_cons_succ, List.getElem_cons_zero, Act.put, List.setIfInBounds_toArray, List.set_cons_zero, List.set_cons_succ]
  refine wpAnyH_take (i := 8) (v := ?_) rfl (by kernel_rfl) (by kernel_rfl) (by kernel_rfl) (fun _ _ _ h => h) (Yields.yieldsIf (Or.inl ⟨by rfl, ?_⟩)) hHeld ?_
  rotate_left
  · intro W
    go_simp
    try with_reducible rfl
  simp only [List.getElem_toArray, List.getElem_cons_succ, List.getElem_cons_zero, Act.put, List.setIfInBounds_toArray, List.set_cons_zero, List.set_cons_succ]
  refine wpAnyH_take (i := 9) (v := ?_) rfl (by kernel_rfl) (by kernel_rfl) (by kernel_rfl) (fun _ _ _ h => h) (Or.inl ⟨by rfl, ?_⟩) hHeld ?_
  rotate_left
  · intro W hW
    have hcl := cell_ext (h := hW) (at_cell HP.out 1)
    go_simp
    try with_reducible rfl
  simp only [List.getElem_toArray, List.getElem_cons_succ, List.getElem_cons_zero, Act.put, List.setIfInBounds_toArray, List.set_cons_zero, List.set_cons_succ]
  refine wpAnyH_take (i := 3) (v := ?_) rfl (by kernel_rfl) (by kernel_rfl) (by kernel_rfl) (fun _ _ _ h => h) (Yields.yieldsIf (Or.inl ⟨by rfl, ?_⟩)) hHeld ?_
  rotate_left
  · intro W
    go_simp
    try with_reducible rfl
  simp only [List.getElem_toArray, List.getElem_cons_succ, List.getElem_cons_zero, Act.put, List.setIfInBounds_toArray, List.set_cons_zero, List.set_cons_succ]
  refine wpAnyH_ready (rs := [4]) (by kernel_rfl) (by simp) ?_
  refine AllReadyH.cons rfl (fun K hK => ?_) AllReadyH.nil
  rw [if_pos (by rfl)]
  unfold Oper.wp
  go_simp
  clear hHeld
  refine hK.out _ _ (by exact inferInstance) (fun hHeld => ?_)
  clear hK K
  try simp only [List.getElem_toArray, List.getElem_cons_succ, List.getElem_cons_zero, Act.put, List.setIfInBounds_toArray, List.set_cons_zero, List.set_cons_succ]
  obtain ⟨w2, hw2⟩ : ∃ w2, (wb.alloc (.cells #[.int .u8 (n : Int)] 5)).drew = w2 := ⟨_, rfl⟩
  have X2 : Hid (Ext wb w2) := by unfold Hid; rw [← hw2]; exact inferInstance
  have HO2 : Hid (w2.ownsRow wb.heap.size 5 1 (.slice (some ⟨wb.heap.size, 0, none⟩) 1 1) 1 (nums .u8 [(n : Int)])) := by unfold Hid; rw [← hw2]; exact own_box wb _ _ rfl (Nat.le_refl _) (nums .u8 [(n : Int)]) 1 1 rfl (by omega) _
  simp only [hw2]
  clear hw2
  refine wpAnyH_ready (rs := [7]) (by kernel_rfl) (by simp) ?_
  refine AllReadyH.cons rfl (fun K hK => ?_) AllReadyH.nil
  refine step_append wb.heap.size rfl (.tmp 7) (.tmp 9) 22 5 (.int .u8 0) 1 1 rfl Try.underlying22 info_u8 rfl (by decide) (by decide) (.slice (some ⟨wb.heap.size, 0, none⟩) 1 1) 1 (nums .u8 [(n : Int)]) A n c (nums .u8 v) rfl rfl (by rw [nums_length, Hn.out, Nat.mul_one]) (nums_one _ _) HO2.out (HCA.out.ext (h := X2.out)) X2.out.out.size (by omega) ?_
  intro v3 w3 ho3 hg3 hat3
  obtain ⟨A3, c3, rfl, hc3⟩ := own_slice ho3
  have X3 : Hid (Ext wb w3) := ⟨below_grown X2.out.out X2.out.out.size hg3 (own_base HO2.out)⟩
  have HO3 := Lib.hid ho3
  clear ho3 hg3 hat3 hc3 hHeld
  refine hK.out _ _ X3.out (fun hHeld => ?_)
  clear hK K
  try simp only [List.getElem_toArray, List.getElem_cons_succ, List.getElem_cons_zero, Act.put, List.setIfInBounds_toArray, List.set_cons_zero, List.set_cons_succ]
  refine wpAnyH_ready (rs := [10]) (by kernel_rfl) (by simp) ?_
  refine AllReadyH.cons rfl (fun K hK => ?_) AllReadyH.nil
  refine step_append wb.heap.size rfl (.tmp 10) (.tmp 12) 22 5 (.int .u8 0) 1 1 rfl Try.underlying22 info_u8 rfl (by decide) (by decide) (.slice A3 (1 + n) c3) (1 + n) _ B m d (nums .u8 t) rfl rfl (by rw [nums_length, Hm.out, Nat.mul_one]) (nums_one _ _) HO3.out (HCB.out.ext (h := X3.out)) X3.out.out.size (by omega) ?_
  intro v4 w4 ho4 hg4 hat4
  obtain ⟨A4, c4, rfl, hc4⟩ := own_slice ho4
  have X4 : Hid (Ext wb w4) := ⟨below_grown X3.out.out X3.out.out.size hg4 (own_base HO3.out)⟩
  have HO4 := Lib.hid ho4
  clear ho4 hg4 hat4 hc4 hHeld
  refine hK.out _ _ X4.out (fun hHeld => ?_)
  clear hK K
  try simp only [List.getElem_toArray, List.getElem_cons_succ, List.getElem_cons_zero, Act.put, List.setIfInBounds_toArray, List.set_cons_zero, List.set_cons_succ]
  refine wpAnyH_take (i := 11) (v := ?_) rfl (by kernel_rfl) (by kernel_rfl) (by kernel_rfl) (fun _ _ _ h => h) (Yields.yieldsIf (Or.inl ⟨by rfl, ?_⟩)) hHeld ?_
  rotate_left
  · intro W
    go_simp
    try with_reducible rfl
  simp only [List.getElem_toArray, List.getElem_cons_succ, List.getElem_cons_zero, Act.put, List.setIfInBounds_toArray, List.set_cons_zero, List.set_cons_succ]
  refine wpAnyH_done (by kernel_rfl) ?_ _
  clear hHeld
  go_wp2
  go_ret
  refine ⟨A4, 1 + n + m, c4, rfl, ?_, ?_, (Ext.trans_ HW.out X4.out).out⟩
  · simp only [List.length_append, List.length_cons, List.length_nil, Hn.out, Hm.out]
    omega
  · show Cells w4 A4 (nums .u8 ([(v.length : Int)] ++ v ++ t))
    rw [nums_append, nums_append, Hn.out]
    exact own_cells HO4.out
/-- A call of a method of an interface's value, as one step of a region that draws its order. -/
theorem step_invoke {P : Program} {ops : Array Oper} {o : Oper} {a : Act} {W : World} {K : Act → World → Prop} {Q : Exit → Act → World → Prop} {F : Prop} (hw : Region.wanted o (yielded ops a.tmps) = true) {f : FuncId} (x : Operand) (nm : String) (ts : Array TypeId)
    (ho : o.op = .call { callee := .invoke x nm, args := #[], argTypes := ts }) (bv : Value) (hx : a.eval x = bv) (vs : Array Value) (hi : (invoke (.fn (.method nm) #[]) #[bv]).run P W = .ok (.enter f vs) W) {R : Ending → World → Prop} (hc : Calls P f vs W R) (h : ∀ e w', R e w' → ∃ v, e = .returned v ∧ K (a.put o.dst v) w') :
    if Region.wanted o (yielded ops a.tmps) = true then Oper.wp P o a W K Q else F := by
  rw [if_pos hw]
  have hrun : (execOp a.eval o).run P W = .ok (.enter f vs) W := by
    unfold execOp
    simp only [ho, resolve, Sem.run_bind, Sem.run_pure, Result.andThen_ok, hx]
    rw [show #[bv] ++ Array.map a.eval #[] = #[bv] from by simp]
    exact hi
  unfold Oper.wp
  rw [hrun, Oper.upon_enter]
  refine hc.mono ?_
  intro e w' hR
  obtain ⟨v, rfl, hk⟩ := h e w' hR
  exact hk
/-- A body whose bytes are d. -/
def BytesOf (w : World) (bv : Value) (d : List Int) : Prop :=
  ∃ f vs, (∀ W, (invoke (.fn (.method "tether/eap.bytes") #[]) #[bv]).run Try.prog W = .ok (.enter f vs) W) ∧ ∀ W, Ext w W → Calls Try.prog f vs W (BytesTell d W)
theorem bytesOf_plain (s : ByteArray) (w : World) : BytesOf w (.iface 117 (.string s)) (strB s) :=
  ⟨147, #[.string s], fun W => by kernel_rfl, fun W _ => plainBytes_any s W⟩
theorem bytesOf_unread (A : Option Addr) (n c : Nat) (d : List Int) (hn : d.length = n) (w : World) (hx : Cells w A (nums .u8 d)) : BytesOf w (.iface 120 (.slice A n c)) d :=
  ⟨149, #[.slice A n c], fun W => by kernel_rfl, fun W hW => unreadBytes_any A n c d hn W (hx.ext)⟩
theorem bytesOf_proof (A : Option Addr) (n c : Nat) (v : List Int) (B : Option Addr) (m d : Nat) (t : List Int) (hn : v.length = n) (hn' : n ≤ 255) (hm : t.length = m) (hm' : m ≤ 140737488355000) (w : World) (hx : Cells w A (nums .u8 v)) (hy : Cells w B (nums .u8 t)) : BytesOf w (.iface 119 (.agg #[.slice A n c, .slice B m d])) ([(v.length : Int)] ++ v ++ t) :=
  ⟨148, #[.agg #[.slice A n c, .slice B m d]], fun W => by kernel_rfl, fun W hW => proofBytes_any A n c v B m d t hn hn' hm hm' W hx.ext hy.ext⟩
end Go.Proofs.Ytobddmpiljknpaa
