/-
  eap.Read. Conditions: sizes.
-/
import Derived.Test.YtobddmpiljknpaaEaD
import Derived.Test.YtobddmpiljknpaaEaC
namespace Go.Proofs.Ytobddmpiljknpaa
open Go.RowKit
set_option linter.unusedVariables false
set_option linter.unusedSimpArgs false

/-- What a packet says: code, identifier, type, value, text. -/
structure MV where
  c : Int
  i : Int
  t : Int
  v : List Int
  s : List Int
def zMV : MV := ⟨0, 0, 0, [], []⟩
def rdB (code id X : Int) (ys : List Int) : MV × Int :=
  if parE code X ys ≠ 0 then (zMV, parE code X ys)
  else if X = 1 ∨ X = 2 then (⟨code, id, X, [], ys⟩, 0)
  else if X = 4 then (match prtF ys with | some (p, r) => (⟨code, id, 4, p, r⟩, 0) | none => (zMV, 0))
  else (⟨code, id, X, ys, []⟩, 0)
def rdC (code id : Int) : List Int → MV × Int
  | [] => (zMV, 8)
  | X :: ys => rdB code id X ys
def rdE (code id : Int) (xs : List Int) : MV × Int :=
  if byteB id = false then (zMV, 1)
  else if code < 1 ∨ 4 < code then (zMV, 90)
  else if 3 ≤ code ∧ xs ≠ [] then (zMV, 3)
  else if 3 ≤ code then (⟨code, id, 0, [], []⟩, 0)
  else rdC code id xs
def RdTells (r : MV × Int) (w : World) (e : Ending) (w' : World) : Prop :=
  ∃ A k, e = .returned (.tuple #[.agg #[.int .i64 r.1.c, .int .i64 r.1.i, .int .i64 r.1.t, .slice A r.1.v.length k, .string (strOfNums r.1.s)], .int .i64 r.2]) ∧ w'.ownsRow w.heap.size 5 1 (.slice A r.1.v.length k) r.1.v.length (nums .u8 r.1.v) ∧ Below w.heap.size w w'
theorem append_types {P : Program} {W : World} {t t2 e e2 ty : TypeId} {args : Array Value} (ht : P.underlying t = some (.slice e)) (h2 : P.underlying t2 = some (.slice e2)) : (Builtin.append_ #[t, t2] ty args).run P W = (Builtin.append_ #[t, t] ty args).run P W := by
  unfold Builtin.append_
  rcases h0 : args[0]? with _ | a0
  · simp [h0]
  rcases h1 : args[1]? with _ | a1
  · simp [h0, h1]
  cases a0 <;> simp [h0, h1, run_underlying ht, run_underlying h2]
/-- 'append(v, xs...)' where xs is of a type of its own. -/
theorem wp_append_typed {P : Program} {ops : Array Oper} {rest : List Oper} {o : Oper} {a : Act} {Q : Exit → Act → World → Prop} {w0 W : World} (base : Nat) (hgd : o.guard = none) (s x : Operand) (t t2 e e2 : TypeId) (z : Value) (size bytes : Nat)
    (ho : o.op = .call { callee := .builtin .append, args := #[s, x], argTypes := #[t, t2] })
    (ht : P.underlying t = some (.slice e)) (ht2 : P.underlying t2 = some (.slice e2)) (hinfo : (P.info? e).map (fun i => (i.zero, i.size, i.bytes)) = some (some z, size, bytes)) (hz : z.cells.size = size) (hs0 : 0 < size) (hb0 : 0 < bytes)
    (v : Value) (n : Nat) (cs : List Value) (A : Option Addr) (m c : Nat) (ds : List Value) (hs : a.eval s = v) (hx : a.eval x = .slice A m c) (hl : ds.length = m * size) (h1 : ∀ u ∈ ds, u.oneCell' = true)
    (HO : W.ownsRow base e size v n cs) (HC : Cells W A ds) (HB : Below base w0 W) (hbase : base ≤ W.heap.size) (hk : (n + m) * bytes ≤ 140737488355328)
    (h : ∀ v1 w1, w1.ownsRow base e size v1 (n + m) (cs ++ ds) → Below base w0 w1 → W.grownBy w1 v.ownBlock → (v1.ownBlock = v.ownBlock ∨ v1.ownBlock = some W.heap.size) → wpList P ops Q rest (a.put o.dst v1) w1) :
    wpList P ops Q (o :: rest) a W := by
  obtain ⟨v1, w1, hrun, h2, h3, h4⟩ := run_append_cells (P := P) W base t o.type e z size bytes ht hinfo hz hs0 hb0 v n cs A m c ds hl h1 HO HC hbase hk
  rw [← append_types ht ht2] at hrun
  refine wpList_plain hgd fun K hK => ?_
  unfold Oper.wp execOp
  simp only [ho, resolve, invoke, builtin, Sem.run_bind, Sem.run_pure, Result.andThen_ok, List.map_toArray, List.map_cons, List.map_nil, hs, hx, hrun]
  exact hK _ _ (h v1 w1 h2 (HB.grown h3 hbase (own_base HO)) h3 h4)
abbrev zMs : Array Value := #[.int .i64 0, .int .i64 0, .int .i64 0, .slice none 0 0, .string ⟨#[]⟩]
set_option maxRecDepth 100000 in
set_option maxHeartbeats 8000000 in
theorem eread_any (code id : Int) (A : Option Addr) (n c : Nat) (xs : List Int) (hn : xs.length = n) (hn' : n ≤ 140737488355000) (hnc : n ≤ c) (hb : Byt xs) (w : World) (hx : Cells w A (nums .u8 xs)) :
    Calls Try.prog 31 #[.agg #[.int .i64 code, .int .i64 id, .slice A n c]] w (RdTells (rdE code id xs) w) := by
  have Hn := Lib.hid hn
  have HX := Lib.hid hx
  have HB := Lib.hid hb
  clear hn hx hb
  go_enter Try.func31, Try.ntmps31
  go_upto_region 1 with fail
  obtain ⟨wb, hwb⟩ : ∃ wb, (w.alloc (.cells #[.int .i64 code, .int .i64 id, .slice A n c] 24)).alloc (.cells zMs 52) = wb := ⟨_, rfl⟩
  have HP : Hid (wb.heap[w.heap.size]? = some (.cells #[.int .i64 code, .int .i64 id, .slice A n c] 24 (0, 0))) := by unfold Hid; rw [← hwb]; exact at_ext (at_new w _)
  have HZ : Hid (wb.heap[w.heap.size + 1]? = some (.cells zMs 52 (0, 0))) := by unfold Hid; rw [← hwb]; exact at_new1 (by simp)
  have HW : Hid (Ext w wb) := by unfold Hid; rw [← hwb]; exact inferInstance
  have HLB : Hid (w.heap.size + 1 < wb.heap.size) := at_lt HZ.out
  rw [hwb]
  clear hwb
  have p0 : wb.cell? ⟨w.heap.size, 0, none⟩ = some (.int .i64 code) := at_cell HP.out 0
  have p1 : wb.cell? ⟨w.heap.size, 1, none⟩ = some (.int .i64 id) := at_cell HP.out 1
  have p2 : wb.cell? ⟨w.heap.size, 2, none⟩ = some (.slice A n c) := at_cell HP.out 2
  go_wp2_with fail
  refine (isByte_any id _).mono ?_
  rintro e w1 ⟨rfl, rfl⟩
  rcases hb1 : byteB id with _ | _
  · have HF : Hid (rdE code id xs = (zMV, 1)) := if_pos hb1
    clear hb1
    go_wp2_with
      (refine wpList_store_row rfl 52 (.tmp 2) (.tmp 15) rfl (w.heap.size + 1) zMs rfl rfl 52 zMs HZ.out (by kernel_rfl) rfl (by simp [Value.oneCell']) ?_)
    refine bodyPost_ret (results_cell_row2 Try.results31 _ _ (w.heap.size + 1) 52 zMs (0, 0) _ (.int .i64 1) rfl rfl (setRow_heap _ _ _ _ _ _ HZ.out) Try.underlying52 rfl (by kernel_rfl)) rfl ?_
    rw [HF.out]
    exact ⟨none, 0, rfl, own_nil _ _ _ _, (Ext.setRow_ HW.out (by omega) _).out⟩
  by_cases c1 : code < 1
  · have HF : Hid (rdE code id xs = (zMV, 90)) := by unfold Hid rdE; rw [if_neg (by rw [hb1]; simp), if_pos (.inl c1)]
    clear hb1
    go_wp2_with
      (refine wpList_store_row rfl 52 (.tmp 2) (.tmp 25) rfl (w.heap.size + 1) zMs rfl rfl 52 zMs HZ.out (by kernel_rfl) rfl (by simp [Value.oneCell']) ?_)
    refine bodyPost_ret (results_cell_row2 Try.results31 _ _ (w.heap.size + 1) 52 zMs (0, 0) _ (.int .i64 90) rfl rfl (setRow_heap _ _ _ _ _ _ HZ.out) Try.underlying52 rfl (by kernel_rfl)) rfl ?_
    rw [HF.out]
    exact ⟨none, 0, rfl, own_nil _ _ _ _, (Ext.setRow_ HW.out (by omega) _).out⟩
  by_cases c2 : 4 < code
  · have HF : Hid (rdE code id xs = (zMV, 90)) := by unfold Hid rdE; rw [if_neg (by rw [hb1]; simp), if_pos (.inr c2)]
    clear hb1
    go_wp2_with
      (refine wpList_store_row rfl 52 (.tmp 2) (.tmp 25) rfl (w.heap.size + 1) zMs rfl rfl 52 zMs HZ.out (by kernel_rfl) rfl (by simp [Value.oneCell']) ?_)
    refine bodyPost_ret (results_cell_row2 Try.results31 _ _ (w.heap.size + 1) 52 zMs (0, 0) _ (.int .i64 90) rfl rfl (setRow_heap _ _ _ _ _ _ HZ.out) Try.underlying52 rfl (by kernel_rfl)) rfl ?_
    rw [HF.out]
    exact ⟨none, 0, rfl, own_nil _ _ _ _, (Ext.setRow_ HW.out (by omega) _).out⟩
  by_cases c3 : 3 ≤ code
  · by_cases hz : n = 0
    case neg =>
      have HF : Hid (rdE code id xs = (zMV, 3)) := by unfold Hid rdE; rw [if_neg (by rw [hb1]; simp), if_neg (by omega), if_pos ⟨c3, fun h => hz (by rw [← Hn.out, h]; rfl)⟩]
      have hzI : (0 : Int) < (n : Int) := by omega
      clear hb1 hz
      go_wp2_with
        (refine wpList_store_row rfl 52 (.tmp 2) (.tmp 36) rfl (w.heap.size + 1) zMs rfl rfl 52 zMs HZ.out (by kernel_rfl) rfl (by simp [Value.oneCell']) ?_)
      refine bodyPost_ret (results_cell_row2 Try.results31 _ _ (w.heap.size + 1) 52 zMs (0, 0) _ (.int .i64 3) rfl rfl (setRow_heap _ _ _ _ _ _ HZ.out) Try.underlying52 rfl (by kernel_rfl)) rfl ?_
      rw [HF.out]
      exact ⟨none, 0, rfl, own_nil _ _ _ _, (Ext.setRow_ HW.out (by omega) _).out⟩
    have HF : Hid (rdE code id xs = (⟨code, id, 0, [], []⟩, 0)) := by unfold Hid rdE; rw [if_neg (by rw [hb1]; simp), if_neg (by omega), if_neg (fun h => h.2 (List.eq_nil_of_length_eq_zero (by rw [Hn.out]; exact hz))), if_pos c3]
    have hzI : ¬ (0 : Int) < (n : Int) := by omega
    clear hb1 hz
    have pp : ∀ o, (wb.alloc o).heap[wb.heap.size]? = some o := at_new wb
    go_upto_region 8 with
      (refine wpList_store_row_o rfl 52 (.tmp 4) (.tmp 41) rfl wb.heap.size #[.int .i64 code, .int .i64 id, .int .i64 0, .slice none 0 0, .string ⟨#[]⟩] rfl rfl 52 zMs (pp _) (by kernel_rfl) rfl (by simp [Value.oneCell']) ?_
       intro w2 hr2 ho2 hz2 hb2
       have HR2 := Lib.hid hr2
       have X2 : Hid (Ext wb w2) := ⟨hb2 _ _ (inferInstance : Ext wb (wb.alloc _)).out (Nat.le_refl _)⟩
       have q0 : w2.cell? ⟨w.heap.size, 0, none⟩ = some (.int .i64 code) := at_cell (at_ext (h := X2.out) HP.out) 0
       have q2 := at_cell (at_ext (h := X2.out) HP.out) 2
       have HZ2 : Hid (w2.heap[w.heap.size + 1]? = some (.cells zMs 52 (0, 0))) := at_ext (h := X2.out) HZ.out
       clear hr2 ho2 hz2 hb2 pp)
    clear p0 p1 p2
    go_wp2_with
      (first
       | (refine wpList_load_row rfl 52 (.tmp 4) rfl wb.heap.size rfl 52 #[.int .i64 code, .int .i64 id, .int .i64 0, .slice none 0 0, .string ⟨#[]⟩] (0, 0) _ HR2.out Try.underlying52 rfl (by kernel_rfl) ?_)
       | (refine wpList_store_row rfl 52 (.tmp 2) (.tmp 45) rfl (w.heap.size + 1) #[.int .i64 code, .int .i64 id, .int .i64 0, .slice none 0 0, .string ⟨#[]⟩] rfl rfl 52 zMs HZ2.out (by kernel_rfl) rfl (by simp [Value.oneCell']) ?_))
    refine bodyPost_ret (results_cell_row2 Try.results31 _ _ (w.heap.size + 1) 52 #[.int .i64 code, .int .i64 id, .int .i64 0, .slice none 0 0, .string ⟨#[]⟩] (0, 0) _ (.int .i64 0) rfl rfl (setRow_heap _ _ _ _ _ _ HZ2.out) Try.underlying52 rfl (by kernel_rfl)) rfl ?_
    rw [HF.out]
    exact ⟨none, 0, rfl, own_nil _ _ _ _, (Ext.setRow_ (Ext.trans_ HW.out X2.out) (by omega) _).out⟩
  have HFN : Hid (∀ R, rdC code id xs = R → rdE code id xs = R) := by
    intro R h
    unfold rdE
    rw [if_neg (by rw [hb1]; simp), if_neg (by omega), if_neg (fun h => c3 h.1), if_neg c3]
    exact h
  clear hb1
  rcases xs with _ | ⟨X, ys⟩
  · obtain rfl : n = 0 := Hn.out.symm
    have HF : Hid (rdE code id [] = (zMV, 8)) := HFN.out _ rfl
    have pp : ∀ o, (wb.alloc o).heap[wb.heap.size]? = some o := at_new wb
    go_upto_region 8 with
      (refine wpList_store_row_o rfl 52 (.tmp 4) (.tmp 41) rfl wb.heap.size #[.int .i64 code, .int .i64 id, .int .i64 0, .slice none 0 0, .string ⟨#[]⟩] rfl rfl 52 zMs (pp _) (by kernel_rfl) rfl (by simp [Value.oneCell']) ?_
       intro w2 hr2 ho2 hz2 hb2
       have HR2 := Lib.hid hr2
       have X2 : Hid (Ext wb w2) := ⟨hb2 _ _ (inferInstance : Ext wb (wb.alloc _)).out (Nat.le_refl _)⟩
       have q0 : w2.cell? ⟨w.heap.size, 0, none⟩ = some (.int .i64 code) := at_cell (at_ext (h := X2.out) HP.out) 0
       have q2 := at_cell (at_ext (h := X2.out) HP.out) 2
       have HZ2 : Hid (w2.heap[w.heap.size + 1]? = some (.cells zMs 52 (0, 0))) := at_ext (h := X2.out) HZ.out
       clear hr2 ho2 hz2 hb2 pp)
    clear p0 p1 p2
    go_wp2_with
      (refine wpList_store_row rfl 52 (.tmp 2) (.tmp 50) rfl (w.heap.size + 1) zMs rfl rfl 52 zMs HZ2.out (by kernel_rfl) rfl (by simp [Value.oneCell']) ?_)
    refine bodyPost_ret (results_cell_row2 Try.results31 _ _ (w.heap.size + 1) 52 zMs (0, 0) _ (.int .i64 8) rfl rfl (setRow_heap _ _ _ _ _ _ HZ2.out) Try.underlying52 rfl (by kernel_rfl)) rfl ?_
    rw [HF.out]
    exact ⟨none, 0, rfl, own_nil _ _ _ _, (Ext.setRow_ (Ext.trans_ HW.out X2.out) (by omega) _).out⟩
  have hl : ys.length + 1 = n := Hn.out
  have hX := HB.out X (by simp)
  obtain ⟨ad, rfl, hc⟩ := HX.out.num (xs := X :: ys) (i := 0) (by simp)
  have hc0 : w.cell? ad = some (.int .u8 X) := by
    have h := hc
    unfold Addr.add at h
    rw [if_pos rfl] at h
    exact h
  have HC0 := Lib.hid hc0
  have hX0 := hX.1
  have hX1 := hX.2
  have hn0 : ((n : Int) == 0) = false := by simp only [beq_eq_false_iff_ne, ne_eq]; omega
  have hn1b : (0 : Int) < (n : Int) := by omega
  have hn1c : 0 < n := by omega
  have hwX : IntKind.i64.wrap X = X := by rw [IntKind.wrap_i64]; omega
  clear hc hX hc0
  have pp : ∀ o, (wb.alloc o).heap[wb.heap.size]? = some o := at_new wb
  go_upto_region 8 with
    (refine wpList_store_row_o rfl 52 (.tmp 4) (.tmp 41) rfl wb.heap.size #[.int .i64 code, .int .i64 id, .int .i64 0, .slice none 0 0, .string ⟨#[]⟩] rfl rfl 52 zMs (pp _) (by kernel_rfl) rfl (by simp [Value.oneCell']) ?_
     intro w2 hr2 ho2 hz2 hb2
     have HR2 := Lib.hid hr2
     have X2 : Hid (Ext wb w2) := ⟨hb2 _ _ (inferInstance : Ext wb (wb.alloc _)).out (Nat.le_refl _)⟩
     have q0 : w2.cell? ⟨w.heap.size, 0, none⟩ = some (.int .i64 code) := at_cell (at_ext (h := X2.out) HP.out) 0
     have q2 := at_cell (at_ext (h := X2.out) HP.out) 2
     have HZ2 : Hid (w2.heap[w.heap.size + 1]? = some (.cells zMs 52 (0, 0))) := at_ext (h := X2.out) HZ.out
     clear hr2 ho2 hz2 hb2 pp)
  clear p0 p1 p2
  have r2 : w2.cell? ⟨wb.heap.size, 2, none⟩ = some (.int .i64 0) := at_cell HR2.out 2
  have f2 : w2.frozen? ⟨wb.heap.size, 2, none⟩ = false := at_frozen HR2.out 2
  have hc2 : w2.cell? ad = some (.int .u8 X) := cell_ext (h := Ext.trans_ HW.out X2.out) HC0.out
  go_upto_region 13 with fail
  obtain ⟨w3, hw3⟩ : ∃ w3, w2.setCell ⟨wb.heap.size, 2, none⟩ (.int .i64 X) = w3 := ⟨_, rfl⟩
  have HR3 : Hid (w3.heap[wb.heap.size]? = some (.cells #[.int .i64 code, .int .i64 id, .int .i64 X, .slice none 0 0, .string ⟨#[]⟩] 52 (0, 0))) := by unfold Hid; rw [← hw3]; exact at_set HR2.out 2 _
  have X3 : Hid (Ext wb w3) := by unfold Hid; rw [← hw3]; exact ⟨X2.out.out.setCell (p := ⟨wb.heap.size, 2, none⟩) (Nat.le_refl _) _⟩
  have HP3 : Hid (w3.heap[w.heap.size]? = some (.cells #[.int .i64 code, .int .i64 id, .slice (some ad) n c] 24 (0, 0))) := at_ext (h := X3.out) HP.out
  rw [hw3]
  clear hw3 r2 f2 hc2 q0 q2
  have b3 : (1 : Int) ≤ (c : Int) := by omega
  have b8 : (1 : Int) ≤ (n : Int) := by omega
  have b6 : 1 ≤ n := by omega
  have b7 : 1 ≤ c := by omega
  have e1 : ad.add 1 = ⟨ad.block, ad.off + 1, none⟩ := by unfold Addr.add; rw [if_neg (by decide)]
  have hd1 := Cells.drop (size := 1) (n := n) (c := c) HX.out (by rw [nums_length, Hn.out, Nat.mul_one]) hnc 1 (by omega)
  rw [Nat.mul_one, ← nums_drop, List.drop_succ_cons, List.drop_zero, Option.map_some, e1] at hd1
  obtain ⟨A1, hA1⟩ : ∃ A1, (if c = 1 then some ad else some (⟨ad.block, ad.off + 1, none⟩ : Addr)) = A1 := ⟨_, rfl⟩
  rw [hA1] at hd1
  have HT := Lib.hid hd1
  have HTL : Hid (ys.length = n - 1) := by unfold Hid; omega
  clear hd1 e1 hl
  refine wp_region_held_drew (S := Ext w3) (by kernel_rfl) (by exact inferInstance) (fun hHeld => ?_)
  refine wpAnyH_take (i := 0) (v := ?_) rfl (by kernel_rfl) (by kernel_rfl) (by kernel_rfl) (fun _ _ _ h => h) (Yields.yieldsIf (Or.inl ⟨by rfl, ?_⟩)) hHeld ?_
  rotate_left
  · intro W
    go_simp
    try with_reducible rfl
  simp only [List.getElem_toArray, List.getElem_cons_succ, List.getElem_cons_zero, Act.put, List.setIfInBounds_toArray, List.set_cons_zero, List.set_cons_succ]
  refine wpAnyH_take (i := 1) (v := ?_) rfl (by kernel_rfl) (by kernel_rfl) (by kernel_rfl) (fun _ _ _ h => h) (Or.inl ⟨by rfl, ?_⟩) hHeld ?_
  rotate_left
  · intro W hW
    have hcl := (cell_ext (h := hW) (at_cell HP3.out 0))
    go_simp
    try with_reducible rfl
  simp only [List.getElem_toArray, List.getElem_cons_succ, List.getElem_cons_zero, Act.put, List.setIfInBounds_toArray, List.set_cons_zero, List.set_cons_succ]
  refine wpAnyH_take (i := 2) (v := ?_) rfl (by kernel_rfl) (by kernel_rfl) (by kernel_rfl) (fun _ _ _ h => h) (Yields.yieldsIf (Or.inl ⟨by rfl, ?_⟩)) hHeld ?_
  rotate_left
  · intro W
    go_simp
    try with_reducible rfl
  simp only [List.getElem_toArray, List.getElem_cons_succ, List.getElem_cons_zero, Act.put, List.setIfInBounds_toArray, List.set_cons_zero, List.set_cons_succ]
  refine wpAnyH_take (i := 3) (v := ?_) rfl (by kernel_rfl) (by kernel_rfl) (by kernel_rfl) (fun _ _ _ h => h) (Or.inl ⟨by rfl, ?_⟩) hHeld ?_
  rotate_left
  · intro W hW
    have hcl := (cell_ext (h := hW) (at_cell HR3.out 2))
    go_simp
    try with_reducible rfl
  simp only [List.getElem_toArray, List.getElem_cons_succ, List.getElem_cons_zero, Act.put, List.setIfInBounds_toArray, List.set_cons_zero, List.set_cons_succ]
  refine wpAnyH_take (i := 4) (v := ?_) rfl (by kernel_rfl) (by kernel_rfl) (by kernel_rfl) (fun _ _ _ h => h) (Yields.yieldsIf (Or.inl ⟨by rfl, ?_⟩)) hHeld ?_
  rotate_left
  · intro W
    go_simp
    try with_reducible rfl
  simp only [List.getElem_toArray, List.getElem_cons_succ, List.getElem_cons_zero, Act.put, List.setIfInBounds_toArray, List.set_cons_zero, List.set_cons_succ]
  refine wpAnyH_take (i := 5) (v := ?_) rfl (by kernel_rfl) (by kernel_rfl) (by kernel_rfl) (fun _ _ _ h => h) (Or.inl ⟨by rfl, ?_⟩) hHeld ?_
  rotate_left
  · intro W hW
    have hcl := (cell_ext (h := hW) (at_cell HP3.out 2))
    go_simp
    try with_reducible rfl
  simp only [List.getElem_toArray, List.getElem_cons_succ, List.getElem_cons_zero, Act.put, List.setIfInBounds_toArray, List.set_cons_zero, List.set_cons_succ]
  refine wpAnyH_take (i := 6) (v := ?_) rfl (by kernel_rfl) (by kernel_rfl) (by kernel_rfl) (fun _ _ _ h => h) (Yields.yieldsIf (Or.inl ⟨by rfl, ?_⟩)) hHeld ?_
  rotate_left
  · intro W
    go_simp
    try with_reducible rfl
  simp only [List.getElem_toArray, List.getElem_cons_succ, List.getElem_cons_zero, Act.put, List.setIfInBounds_toArray, List.set_cons_zero, List.set_cons_succ]
  refine wpAnyH_ready (rs := [7]) (by kernel_rfl) (by simp) ?_
  refine AllReadyH.cons rfl (fun K hK => ?_) AllReadyH.nil
  refine step_call_w (by rfl) Try.func74 (by kernel_rfl) (by kernel_rfl) #[.tmp 59, .tmp 61, .tmp 64] #[3, 3, 22] rfl #[.int .i64 code, .int .i64 X, .slice A1 (n - 1) (c - 1)] ?hv (parse_any code X A1 (n - 1) (c - 1) ys HTL.out (by omega) (by omega) (fun y hy => HB.out y (List.mem_cons_of_mem _ hy)) _ (HT.out.ext (h := Ext.trans_ HW.out (Ext.trans_ X3.out inferInstance)))) ?_
  case hv => go_simp
  rintro e w4 ⟨bv, rfl, hbv, hb4⟩
  refine ⟨_, rfl, ?_⟩
  have X34 : Hid (Ext w3 w4) := Ext.trans_ (inferInstance : Ext w3 w3.drew) ⟨hb4⟩
  have HBV := Lib.hid hbv
  clear hHeld hbv hb4
  refine hK.out _ _ X34.out (fun hHeld => ?_)
  clear hK K
  simp only [List.getElem_toArray, List.getElem_cons_succ, List.getElem_cons_zero, Act.put, List.setIfInBounds_toArray, List.set_cons_zero, List.set_cons_succ]
  refine wpAnyH_take (i := 8) (v := ?_) rfl (by kernel_rfl) (by kernel_rfl) (by kernel_rfl) (fun _ _ _ h => h) (Yields.yieldsIf (Or.inl ⟨by rfl, ?_⟩)) hHeld ?_
  rotate_left
  · intro W
    go_simp
    try with_reducible rfl
  simp only [List.getElem_toArray, List.getElem_cons_succ, List.getElem_cons_zero, Act.put, List.setIfInBounds_toArray, List.set_cons_zero, List.set_cons_succ]
  refine wpAnyH_take (i := 9) (v := ?_) rfl (by kernel_rfl) (by kernel_rfl) (by kernel_rfl) (fun _ _ _ h => h) (Yields.yieldsIf (Or.inl ⟨by rfl, ?_⟩)) hHeld ?_
  rotate_left
  · intro W
    go_simp
    try with_reducible rfl
  simp only [List.getElem_toArray, List.getElem_cons_succ, List.getElem_cons_zero, Act.put, List.setIfInBounds_toArray, List.set_cons_zero, List.set_cons_succ]
  refine wpAnyH_take (i := 10) (v := ?_) rfl (by kernel_rfl) (by kernel_rfl) (by kernel_rfl) (fun _ _ _ h => h) (Yields.yieldsIf (Or.inl ⟨by rfl, ?_⟩)) hHeld ?_
  rotate_left
  · intro W
    go_simp
    try with_reducible rfl
  simp only [List.getElem_toArray, List.getElem_cons_succ, List.getElem_cons_zero, Act.put, List.setIfInBounds_toArray, List.set_cons_zero, List.set_cons_succ]
  refine wpAnyH_take (i := 11) (v := ?_) rfl (by kernel_rfl) (by kernel_rfl) (by kernel_rfl) (fun _ _ _ h => h) (Yields.yieldsIf (Or.inl ⟨by rfl, ?_⟩)) hHeld ?_
  rotate_left
  · intro W
    go_simp
    try with_reducible rfl
  simp only [List.getElem_toArray, List.getElem_cons_succ, List.getElem_cons_zero, Act.put, List.setIfInBounds_toArray, List.set_cons_zero, List.set_cons_succ]
  refine wpAnyH_take (i := 12) (v := ?_) rfl (by kernel_rfl) (by kernel_rfl) (by kernel_rfl) (fun _ _ _ h => h) (Yields.yieldsIf (Or.inl ⟨by rfl, ?_⟩)) hHeld ?_
  rotate_left
  · intro W
    go_simp
    try with_reducible rfl
  simp only [List.getElem_toArray, List.getElem_cons_succ, List.getElem_cons_zero, Act.put, List.setIfInBounds_toArray, List.set_cons_zero, List.set_cons_succ]
  refine wpAnyH_done (by kernel_rfl) ?_ _
  clear hHeld hA1
  have X4 : Hid (Ext wb w4) := Ext.trans_ X3.out X34.out
  have XW4 : Hid (Ext w w4) := Ext.trans_ HW.out X4.out
  have HZ4 : Hid (w4.heap[w.heap.size + 1]? = some (.cells zMs 52 (0, 0))) := at_ext (h := X4.out) HZ.out
  have HR4 : Hid (w4.heap[wb.heap.size]? = some (.cells #[.int .i64 code, .int .i64 id, .int .i64 X, .slice none 0 0, .string ⟨#[]⟩] 52 (0, 0))) := at_ext (h := X34.out) HR3.out
  have HFM : Hid (∀ R, (if parE code X ys ≠ 0 then (zMV, parE code X ys)
      else if X = 1 ∨ X = 2 then (⟨code, id, X, [], ys⟩, 0)
      else if X = 4 then (match prtF ys with | some (p, r) => (⟨code, id, 4, p, r⟩, 0) | none => (zMV, 0))
      else (⟨code, id, X, ys, []⟩, 0)) = R → rdE code id (X :: ys) = R) := fun R h => HFN.out R h
  clear HFN
  obtain ⟨er, her⟩ : ∃ er, parE code X ys = er := ⟨_, rfl⟩
  rw [her] at HFM HBV ⊢
  clear her
  by_cases ee : er = 0
  case neg =>
    have HF : Hid (rdE code id (X :: ys) = (zMV, er)) := HFM.out _ (if_pos ee)
    have eeb : (er != 0) = true := by simpa using ee
    clear ee
    go_wp2_with
      (refine wpList_store_row rfl 52 (.tmp 2) (.tmp 70) rfl (w.heap.size + 1) zMs rfl rfl 52 zMs HZ4.out (by kernel_rfl) rfl (by simp [Value.oneCell']) ?_)
    refine bodyPost_ret (results_cell_row2 Try.results31 _ _ (w.heap.size + 1) 52 zMs (0, 0) _ (.int .i64 er) rfl rfl (setRow_heap _ _ _ _ _ _ HZ4.out) Try.underlying52 rfl (by kernel_rfl)) rfl ?_
    rw [HF.out]
    exact ⟨none, 0, rfl, own_nil _ _ _ _, (Ext.setRow_ XW4.out (by omega) _).out⟩
  subst ee
  have hbo := HBV.out rfl
  clear HBV
  by_cases k1 : X = 1 ∨ X = 2
  · unfold BodyIs at hbo
    rw [if_pos k1] at hbo
    subst hbo
    have HF : Hid (rdE code id (X :: ys) = (⟨code, id, X, [], ys⟩, 0)) := HFM.out _ (by rw [if_neg (by simp), if_pos k1])
    clear k1
    have hp1 : ∀ (s : ByteArray) (W : World), (Instr.typeAssert (.iface 117 (.string s)) 114 117 true).run Try.prog W = .ok (.tuple #[.string s, .bool true]) W := fun _ _ => by kernel_rfl
    have r4 : w4.cell? ⟨wb.heap.size, 4, none⟩ = some (.string ⟨#[]⟩) := at_cell HR4.out 4
    have f4 : w4.frozen? ⟨wb.heap.size, 4, none⟩ = false := at_frozen HR4.out 4
    go_upto_region 26 with fail
    obtain ⟨w5, hw5⟩ : ∃ w5, w4.setCell ⟨wb.heap.size, 4, none⟩ (.string (strOfNums ys)) = w5 := ⟨_, rfl⟩
    have HR5 : Hid (w5.heap[wb.heap.size]? = some (.cells #[.int .i64 code, .int .i64 id, .int .i64 X, .slice none 0 0, .string (strOfNums ys)] 52 (0, 0))) := by unfold Hid; rw [← hw5]; exact at_set HR4.out 4 _
    have X5 : Hid (Ext wb w5) := by unfold Hid; rw [← hw5]; exact ⟨X4.out.out.setCell (p := ⟨wb.heap.size, 4, none⟩) (Nat.le_refl _) _⟩
    have HZ5 : Hid (w5.heap[w.heap.size + 1]? = some (.cells zMs 52 (0, 0))) := at_ext (h := X5.out) HZ.out
    rw [hw5]
    clear hw5 r4 f4 hp1
    go_wp2_with
      (first
       | (refine wpList_load_row rfl 52 (.tmp 4) rfl wb.heap.size rfl 52 #[.int .i64 code, .int .i64 id, .int .i64 X, .slice none 0 0, .string (strOfNums ys)] (0, 0) _ HR5.out Try.underlying52 rfl (by kernel_rfl) ?_)
       | (refine wpList_store_row rfl 52 (.tmp 2) (.tmp 95) rfl (w.heap.size + 1) #[.int .i64 code, .int .i64 id, .int .i64 X, .slice none 0 0, .string (strOfNums ys)] rfl rfl 52 zMs HZ5.out (by kernel_rfl) rfl (by simp [Value.oneCell']) ?_))
    refine bodyPost_ret (results_cell_row2 Try.results31 _ _ (w.heap.size + 1) 52 #[.int .i64 code, .int .i64 id, .int .i64 X, .slice none 0 0, .string (strOfNums ys)] (0, 0) _ (.int .i64 0) rfl rfl (setRow_heap _ _ _ _ _ _ HZ5.out) Try.underlying52 rfl (by kernel_rfl)) rfl ?_
    rw [HF.out]
    exact ⟨none, 0, rfl, own_nil _ _ _ _, (Ext.setRow_ (Ext.trans_ HW.out X5.out) (by omega) _).out⟩
  by_cases k4 : X = 4
  case neg =>
    unfold BodyIs at hbo
    rw [if_neg k1, if_neg k4] at hbo
    subst hbo
    have HF : Hid (rdE code id (X :: ys) = (⟨code, id, X, ys, []⟩, 0)) := HFM.out _ (by rw [if_neg (by simp), if_neg k1, if_neg k4])
    clear k1 k4
    have hr1 : ∀ (W : World), (Instr.typeAssert (.iface 120 (.slice A1 (n - 1) (c - 1))) 114 117 true).run Try.prog W = .ok (.tuple #[.string ⟨#[]⟩, .bool false]) W := fun _ => by kernel_rfl
    have hr2 : ∀ (W : World), (Instr.typeAssert (.iface 120 (.slice A1 (n - 1) (c - 1))) 114 119 true).run Try.prog W = .ok (.tuple #[.agg #[.slice none 0 0, .slice none 0 0], .bool false]) W := fun _ => by kernel_rfl
    have hr3 : ∀ (W : World), (Instr.typeAssert (.iface 120 (.slice A1 (n - 1) (c - 1))) 114 120 true).run Try.prog W = .ok (.tuple #[.slice A1 (n - 1) (c - 1), .bool true]) W := fun _ => by kernel_rfl
    go_upto_region 26 with
      (at_builtin
       refine wp_append_typed (w0 := w4) w4.heap.size rfl (.const (.slice none 0 0)) (.tmp 92) 22 120 5 5 (.int .u8 0) 1 1 rfl Try.underlying22 Try.underlying120 info_u8 rfl (by decide) (by decide) (.slice none 0 0) 0 [] A1 (n - 1) (c - 1) (nums .u8 ys) rfl rfl (by rw [nums_length, HTL.out, Nat.mul_one]) (nums_one _ _) (own_nil _ _ _ _) (HT.out.ext (h := XW4.out)) (Below.refl _ _) (Nat.le_refl _) (by omega) ?_
       intro v5 w5 ho5 hb5 hg5 hat5
       rw [Nat.zero_add, List.nil_append] at ho5
       obtain ⟨A5, c5, rfl, hc5⟩ := own_slice ho5
       have HO5 := Lib.hid ho5
       have X45 : Hid (Ext w4 w5) := ⟨hb5⟩
       have HR5 : Hid (w5.heap[wb.heap.size]? = some (.cells #[.int .i64 code, .int .i64 id, .int .i64 X, .slice none 0 0, .string ⟨#[]⟩] 52 (0, 0))) := at_ext (h := X45.out) HR4.out
       have r3 : w5.cell? ⟨wb.heap.size, 3, none⟩ = some (.slice none 0 0) := at_cell HR5.out 3
       have f3 : w5.frozen? ⟨wb.heap.size, 3, none⟩ = false := at_frozen HR5.out 3
       clear ho5 hb5 hg5 hat5 hc5)
    have X5 : Hid (Ext wb w5) := Ext.trans_ X4.out X45.out
    obtain ⟨w6, hw6⟩ : ∃ w6, w5.setCell ⟨wb.heap.size, 3, none⟩ (.slice A5 (n - 1) c5) = w6 := ⟨_, rfl⟩
    have HN5 : Hid ((Value.slice A5 (n - 1) c5).ownBlock ≠ some wb.heap.size) := own_type_ne HO5.out HR5.out (by decide)
    have HR6 : Hid (w6.heap[wb.heap.size]? = some (.cells #[.int .i64 code, .int .i64 id, .int .i64 X, .slice A5 (n - 1) c5, .string ⟨#[]⟩] 52 (0, 0))) := by unfold Hid; rw [← hw6]; exact at_set HR5.out 3 _
    have HO6 : Hid (w6.ownsRow w4.heap.size 5 1 (.slice A5 (n - 1) c5) (n - 1) (nums .u8 ys)) := by unfold Hid; rw [← hw6]; exact own_setCell HO5.out (p := ⟨wb.heap.size, 3, none⟩) HN5.out _
    have X6 : Hid (Ext wb w6) := by unfold Hid; rw [← hw6]; exact ⟨X5.out.out.setCell (p := ⟨wb.heap.size, 3, none⟩) (Nat.le_refl _) _⟩
    rw [hw6]
    clear hw6 r3 f3 hr1 hr2 hr3
    have HR5 := HR6
    have HZ5 : Hid (w6.heap[w.heap.size + 1]? = some (.cells zMs 52 (0, 0))) := at_ext (h := X6.out) HZ.out
    have HNE : Hid ((Value.slice A5 (n - 1) c5).ownBlock ≠ some (w.heap.size + 1)) := own_type_ne HO6.out HZ5.out (by decide)
    go_wp2_with
      (first
       | (refine wpList_load_row rfl 52 (.tmp 4) rfl wb.heap.size rfl 52 #[.int .i64 code, .int .i64 id, .int .i64 X, .slice A5 (n - 1) c5, .string ⟨#[]⟩] (0, 0) _ HR5.out Try.underlying52 rfl (by kernel_rfl) ?_)
       | (refine wpList_store_row rfl 52 (.tmp 2) (.tmp 95) rfl (w.heap.size + 1) #[.int .i64 code, .int .i64 id, .int .i64 X, .slice A5 (n - 1) c5, .string ⟨#[]⟩] rfl rfl 52 zMs HZ5.out (by kernel_rfl) rfl (by simp [Value.oneCell']) ?_))
    refine bodyPost_ret (results_cell_row2 Try.results31 _ _ (w.heap.size + 1) 52 #[.int .i64 code, .int .i64 id, .int .i64 X, .slice A5 (n - 1) c5, .string ⟨#[]⟩] (0, 0) _ (.int .i64 0) rfl rfl (setRow_heap _ _ _ _ _ _ HZ5.out) Try.underlying52 rfl (by kernel_rfl)) rfl ?_
    rw [HF.out]
    refine ⟨A5, c5, ?_, ?_, (Ext.setRow_ (Ext.trans_ HW.out X6.out) (by omega) _).out⟩
    · simp only [HTL.out]
      rfl
    · simp only [HTL.out]
      exact own_weaken (own_setRow HO6.out HNE.out _) XW4.out.out.size
  subst k4
  unfold BodyIs at hbo
  rw [if_neg k1, if_pos rfl] at hbo
  obtain ⟨p, r, P1, c1', P2, c2', hpr, rfl, hcc⟩ := hbo
  have HF : Hid (rdE code id (4 :: ys) = (⟨code, id, 4, p, r⟩, 0)) := HFM.out _ (by rw [if_neg (by simp), if_neg k1, if_pos rfl, hpr])
  have HPL := Lib.hid (prtF_some (fun y hy => HB.out y (List.mem_cons_of_mem _ hy)) hpr).1
  have HCC : Hid (∀ W, Ext w W → Cells W P1 (nums .u8 p) ∧ Cells W P2 (nums .u8 r)) := fun W hW => hcc W (HT.out.ext (h := hW))
  clear k1 hpr hcc HFM
  have hq1 : ∀ (W : World), (Instr.typeAssert (.iface 119 (.agg #[.slice P1 p.length c1', .slice P2 r.length c2'])) 114 117 true).run Try.prog W = .ok (.tuple #[.string ⟨#[]⟩, .bool false]) W := fun _ => by kernel_rfl
  have hq2 : ∀ (W : World), (Instr.typeAssert (.iface 119 (.agg #[.slice P1 p.length c1', .slice P2 r.length c2'])) 114 119 true).run Try.prog W = .ok (.tuple #[.agg #[.slice P1 p.length c1', .slice P2 r.length c2'], .bool true]) W := fun _ => by kernel_rfl
  have pp : ∀ o, (w4.alloc o).heap[w4.heap.size]? = some o := at_new w4
  go_upto_region 22 with
    (refine wpList_store_row_o rfl 119 (.tmp 8) (.tmp 80) rfl w4.heap.size #[.slice P1 p.length c1', .slice P2 r.length c2'] rfl rfl 119 #[.slice none 0 0, .slice none 0 0] (pp _) (by kernel_rfl) rfl (by simp [Value.oneCell']) ?_
     intro w5 hr5 ho5 hz5 hb5
     have HQ5 := Lib.hid hr5
     have X45 : Hid (Ext w4 w5) := ⟨hb5 _ _ (inferInstance : Ext w4 (w4.alloc _)).out (Nat.le_refl _)⟩
     clear hr5 ho5 hz5 hb5 pp)
  have HR5 : Hid (w5.heap[wb.heap.size]? = some (.cells #[.int .i64 code, .int .i64 id, .int .i64 4, .slice none 0 0, .string ⟨#[]⟩] 52 (0, 0))) := at_ext (h := X45.out) HR4.out
  have X5 : Hid (Ext wb w5) := Ext.trans_ X4.out X45.out
  have XW5 : Hid (Ext w w5) := Ext.trans_ HW.out X5.out
  have HGB : Hid (wb.heap.size < w4.heap.size) := at_lt HR4.out
  clear hq1 hq2
  refine wp_region_held_drew (S := fun W => Ext w W ∧ W.heap[w4.heap.size]? = some (.cells #[.slice P1 p.length c1', .slice P2 r.length c2'] 119 (0, 0))) (by kernel_rfl) ⟨Ext.trans_ XW5.out inferInstance, HQ5.out⟩ (fun hHeld => ?_)
  refine wpAnyH_take (i := 0) (v := ?_) rfl (by kernel_rfl) (by kernel_rfl) (by kernel_rfl) (fun _ _ _ h => h) (Yields.yieldsIf (Or.inl ⟨by rfl, ?_⟩)) hHeld ?_
  rotate_left
  · intro W
    go_simp
    try with_reducible rfl
  simp only [List.getElem_toArray, List.getElem_cons_succ, List.getElem_cons_zero, Act.put, List.setIfInBounds_toArray, List.set_cons_zero, List.set_cons_succ]
  refine wpAnyH_take (i := 1) (v := ?_) rfl (by kernel_rfl) (by kernel_rfl) (by kernel_rfl) (fun _ _ _ h => h) (Or.inl ⟨by rfl, ?_⟩) hHeld ?_
  rotate_left
  · intro W hW
    have hcl := (at_cell hW.2 0)
    go_simp
    try with_reducible rfl
  simp only [List.getElem_toArray, List.getElem_cons_succ, List.getElem_cons_zero, Act.put, List.setIfInBounds_toArray, List.set_cons_zero, List.set_cons_succ]
  refine wpAnyH_take (i := 3) (v := ?_) rfl (by kernel_rfl) (by kernel_rfl) (by kernel_rfl) (fun _ _ _ h => h) (Yields.yieldsIf (Or.inl ⟨by rfl, ?_⟩)) hHeld ?_
  rotate_left
  · intro W
    go_simp
    try with_reducible rfl
  simp only [List.getElem_toArray, List.getElem_cons_succ, List.getElem_cons_zero, Act.put, List.setIfInBounds_toArray, List.set_cons_zero, List.set_cons_succ]
  refine wpAnyH_take (i := 4) (v := ?_) rfl (by kernel_rfl) (by kernel_rfl) (by kernel_rfl) (fun _ _ _ h => h) (Or.inl ⟨by rfl, ?_⟩) hHeld ?_
  rotate_left
  · intro W hW
    have hcl := (at_cell hW.2 1)
    go_simp
    try with_reducible rfl
  simp only [List.getElem_toArray, List.getElem_cons_succ, List.getElem_cons_zero, Act.put, List.setIfInBounds_toArray, List.set_cons_zero, List.set_cons_succ]
  refine wpAnyH_ready (rs := [2, 5]) (by kernel_rfl) (by simp) ?_
  refine AllReadyH.cons rfl (fun K hK => ?_) (AllReadyH.cons rfl (fun K hK => ?_) AllReadyH.nil)
  · skip
    refine step_append w5.heap.size rfl (.const (.slice none 0 0)) (.tmp 82) 22 5 (.int .u8 0) 1 1 rfl Try.underlying22 info_u8 rfl (by decide) (by decide) (.slice none 0 0) 0 [] P1 p.length c1' (nums .u8 p) rfl rfl (by rw [nums_length, Nat.mul_one]) (nums_one _ _) (own_nil _ _ _ _) (HCC.out w5.drew (Ext.trans_ XW5.out inferInstance)).1 (Nat.le_refl _) (by have := HPL.out.2; omega) ?_
    intro v6 w6 ho6 hg6 hat6
    rw [Nat.zero_add, List.nil_append] at ho6
    obtain ⟨A6, c6, rfl, hc6⟩ := own_slice ho6
    have HO6 := Lib.hid ho6
    have X56 : Hid (Ext w5 w6) := ⟨below_grown (Ext.out (w := w5) (w' := w5.drew)) (Nat.le_refl _) hg6 (fun k hk => by cases hk)⟩
    have XW6 : Hid (Ext w w6) := Ext.trans_ XW5.out X56.out
    have HQ6 : Hid (w6.heap[w4.heap.size]? = some (.cells #[.slice P1 p.length c1', .slice P2 r.length c2'] 119 (0, 0))) := at_ext (h := X56.out) HQ5.out
    have HR6 : Hid (w6.heap[wb.heap.size]? = some (.cells #[.int .i64 code, .int .i64 id, .int .i64 4, .slice none 0 0, .string ⟨#[]⟩] 52 (0, 0))) := at_ext (h := X56.out) HR5.out
    clear ho6 hg6 hat6 hc6 hHeld
    refine hK.out _ _ ⟨XW6.out, HQ6.out⟩ (fun hHeld => ?_)
    clear hK K
    try simp only [List.getElem_toArray, List.getElem_cons_succ, List.getElem_cons_zero, Act.put, List.setIfInBounds_toArray, List.set_cons_zero, List.set_cons_succ]
    refine wpAnyH_take (i := 6) (v := ?_) rfl (by kernel_rfl) (by kernel_rfl) (by kernel_rfl) (fun _ _ _ h => h) (Yields.yieldsIf (Or.inl ⟨by rfl, ?_⟩)) hHeld ?_
    rotate_left
    · intro W
      go_simp
      try with_reducible rfl
    simp only [List.getElem_toArray, List.getElem_cons_succ, List.getElem_cons_zero, Act.put, List.setIfInBounds_toArray, List.set_cons_zero, List.set_cons_succ]
    refine wpAnyH_ready (rs := [5, 7]) (by kernel_rfl) (by simp) ?_
    refine AllReadyH.cons rfl (fun K hK => ?_) (AllReadyH.cons rfl (fun K hK => ?_) AllReadyH.nil)
    · skip
      have hcv : (convert 22 9 (.slice P2 r.length c2')).run Try.prog w6 = .ok (.string (strOfNums r)) w6 := conv_cells (P := Try.prog) (c := c2') 22 5 9 Try.underlying22 Try.underlying5 Try.underlying9 rfl (HCC.out w6 XW6.out).2
      rw [if_pos (by rfl)]
      unfold Oper.wp
      go_simp
      clear hHeld hcv
      refine hK.out _ _ ⟨XW6.out, HQ6.out⟩ (fun hHeld => ?_)
      clear hK K
      try simp only [List.getElem_toArray, List.getElem_cons_succ, List.getElem_cons_zero, Act.put, List.setIfInBounds_toArray, List.set_cons_zero, List.set_cons_succ]
      refine wpAnyH_ready (rs := [7]) (by kernel_rfl) (by simp) ?_
      refine AllReadyH.cons rfl (fun K hK => ?_) AllReadyH.nil
      have r3 : w6.cell? ⟨wb.heap.size, 3, none⟩ = some (.slice none 0 0) := at_cell HR6.out 3
      have f3 : w6.frozen? ⟨wb.heap.size, 3, none⟩ = false := at_frozen HR6.out 3
      rw [if_pos (by rfl)]
      unfold Oper.wp
      go_simp
      obtain ⟨w7, hw7⟩ : ∃ w7, w6.setCell ⟨wb.heap.size, 3, none⟩ (.slice A6 p.length c6) = w7 := ⟨_, rfl⟩
      have HR7 : Hid (w7.heap[wb.heap.size]? = some (.cells #[.int .i64 code, .int .i64 id, .int .i64 4, .slice A6 p.length c6, .string ⟨#[]⟩] 52 (0, 0))) := by unfold Hid; rw [← hw7]; exact at_set HR6.out 3 _
      have HN6 : Hid ((Value.slice A6 p.length c6).ownBlock ≠ some wb.heap.size) := own_type_ne HO6.out HR6.out (by decide)
      have HO7 : Hid (w7.ownsRow w5.heap.size 5 1 (.slice A6 p.length c6) p.length (nums .u8 p)) := by unfold Hid; rw [← hw7]; exact own_setCell HO6.out (p := ⟨wb.heap.size, 3, none⟩) HN6.out _
      have X7 : Hid (Ext wb w7) := by unfold Hid; rw [← hw7]; exact ⟨(Ext.trans_ X5.out X56.out).out.setCell (p := ⟨wb.heap.size, 3, none⟩) (Nat.le_refl _) _⟩
      have HQ7 : Hid (w7.heap[w4.heap.size]? = some (.cells #[.slice P1 p.length c1', .slice P2 r.length c2'] 119 (0, 0))) := by unfold Hid; rw [← hw7]; exact at_other (p := ⟨wb.heap.size, 3, none⟩) _ HQ6.out (by have := HGB.out; show w4.heap.size ≠ wb.heap.size; omega)
      simp only [hw7]
      clear hHeld hw7 r3 f3
      refine hK.out _ _ ⟨Ext.trans_ HW.out X7.out, HQ7.out⟩ (fun hHeld => ?_)
      clear hK K
      try simp only [List.getElem_toArray, List.getElem_cons_succ, List.getElem_cons_zero, Act.put, List.setIfInBounds_toArray, List.set_cons_zero, List.set_cons_succ]
      refine wpAnyH_take (i := 8) (v := ?_) rfl (by kernel_rfl) (by kernel_rfl) (by kernel_rfl) (fun _ _ _ h => h) (Yields.yieldsIf (Or.inl ⟨by rfl, ?_⟩)) hHeld ?_
      rotate_left
      · intro W
        go_simp
        try with_reducible rfl
      simp only [List.getElem_toArray, List.getElem_cons_succ, List.getElem_cons_zero, Act.put, List.setIfInBounds_toArray, List.set_cons_zero, List.set_cons_succ]
      refine wpAnyH_ready (rs := [9]) (by kernel_rfl) (by simp) ?_
      refine AllReadyH.cons rfl (fun K hK => ?_) AllReadyH.nil
      have r4 : w7.cell? ⟨wb.heap.size, 4, none⟩ = some (.string ⟨#[]⟩) := at_cell HR7.out 4
      have f4 : w7.frozen? ⟨wb.heap.size, 4, none⟩ = false := at_frozen HR7.out 4
      rw [if_pos (by rfl)]
      unfold Oper.wp
      go_simp
      obtain ⟨w8, hw8⟩ : ∃ w8, w7.setCell ⟨wb.heap.size, 4, none⟩ (.string (strOfNums r)) = w8 := ⟨_, rfl⟩
      have HR8 : Hid (w8.heap[wb.heap.size]? = some (.cells #[.int .i64 code, .int .i64 id, .int .i64 4, .slice A6 p.length c6, .string (strOfNums r)] 52 (0, 0))) := by unfold Hid; rw [← hw8]; exact at_set HR7.out 4 _
      have HO8 : Hid (w8.ownsRow w5.heap.size 5 1 (.slice A6 p.length c6) p.length (nums .u8 p)) := by unfold Hid; rw [← hw8]; exact own_setCell HO7.out (p := ⟨wb.heap.size, 4, none⟩) HN6.out _
      have X8 : Hid (Ext wb w8) := by unfold Hid; rw [← hw8]; exact ⟨X7.out.out.setCell (p := ⟨wb.heap.size, 4, none⟩) (Nat.le_refl _) _⟩
      have HQ8 : Hid (w8.heap[w4.heap.size]? = some (.cells #[.slice P1 p.length c1', .slice P2 r.length c2'] 119 (0, 0))) := by unfold Hid; rw [← hw8]; exact at_other (p := ⟨wb.heap.size, 4, none⟩) _ HQ7.out (by have := HGB.out; show w4.heap.size ≠ wb.heap.size; omega)
      simp only [hw8]
      clear hHeld hw8 r4 f4
      refine hK.out _ _ ⟨Ext.trans_ HW.out X8.out, HQ8.out⟩ (fun hHeld => ?_)
      clear hK K
      refine wpAnyH_done (by kernel_rfl) ?_ _
      clear hHeld HR5
      have HR5 := HR8
      have HZ5 : Hid (w8.heap[w.heap.size + 1]? = some (.cells zMs 52 (0, 0))) := at_ext (h := X8.out) HZ.out
      have HNE : Hid ((Value.slice A6 p.length c6).ownBlock ≠ some (w.heap.size + 1)) := own_type_ne HO8.out HZ5.out (by decide)
      go_wp2_with
        (first
         | (refine wpList_load_row rfl 52 (.tmp 4) rfl wb.heap.size rfl 52 #[.int .i64 code, .int .i64 id, .int .i64 4, .slice A6 p.length c6, .string (strOfNums r)] (0, 0) _ HR5.out Try.underlying52 rfl (by kernel_rfl) ?_)
         | (refine wpList_store_row rfl 52 (.tmp 2) (.tmp 95) rfl (w.heap.size + 1) #[.int .i64 code, .int .i64 id, .int .i64 4, .slice A6 p.length c6, .string (strOfNums r)] rfl rfl 52 zMs HZ5.out (by kernel_rfl) rfl (by simp [Value.oneCell']) ?_))
      refine bodyPost_ret (results_cell_row2 Try.results31 _ _ (w.heap.size + 1) 52 #[.int .i64 code, .int .i64 id, .int .i64 4, .slice A6 p.length c6, .string (strOfNums r)] (0, 0) _ (.int .i64 0) rfl rfl (setRow_heap _ _ _ _ _ _ HZ5.out) Try.underlying52 rfl (by kernel_rfl)) rfl ?_
      rw [HF.out]
      exact ⟨A6, c6, rfl, own_weaken (own_setRow HO8.out HNE.out _) XW5.out.out.size, (Ext.setRow_ (Ext.trans_ HW.out X8.out) (by omega) _).out⟩
    · skip
      have r3 : w6.cell? ⟨wb.heap.size, 3, none⟩ = some (.slice none 0 0) := at_cell HR6.out 3
      have f3 : w6.frozen? ⟨wb.heap.size, 3, none⟩ = false := at_frozen HR6.out 3
      rw [if_pos (by rfl)]
      unfold Oper.wp
      go_simp
      obtain ⟨w7, hw7⟩ : ∃ w7, w6.setCell ⟨wb.heap.size, 3, none⟩ (.slice A6 p.length c6) = w7 := ⟨_, rfl⟩
      have HR7 : Hid (w7.heap[wb.heap.size]? = some (.cells #[.int .i64 code, .int .i64 id, .int .i64 4, .slice A6 p.length c6, .string ⟨#[]⟩] 52 (0, 0))) := by unfold Hid; rw [← hw7]; exact at_set HR6.out 3 _
      have HN6 : Hid ((Value.slice A6 p.length c6).ownBlock ≠ some wb.heap.size) := own_type_ne HO6.out HR6.out (by decide)
      have HO7 : Hid (w7.ownsRow w5.heap.size 5 1 (.slice A6 p.length c6) p.length (nums .u8 p)) := by unfold Hid; rw [← hw7]; exact own_setCell HO6.out (p := ⟨wb.heap.size, 3, none⟩) HN6.out _
      have X7 : Hid (Ext wb w7) := by unfold Hid; rw [← hw7]; exact ⟨(Ext.trans_ X5.out X56.out).out.setCell (p := ⟨wb.heap.size, 3, none⟩) (Nat.le_refl _) _⟩
      have HQ7 : Hid (w7.heap[w4.heap.size]? = some (.cells #[.slice P1 p.length c1', .slice P2 r.length c2'] 119 (0, 0))) := by unfold Hid; rw [← hw7]; exact at_other (p := ⟨wb.heap.size, 3, none⟩) _ HQ6.out (by have := HGB.out; show w4.heap.size ≠ wb.heap.size; omega)
      simp only [hw7]
      clear hHeld hw7 r3 f3
      refine hK.out _ _ ⟨Ext.trans_ HW.out X7.out, HQ7.out⟩ (fun hHeld => ?_)
      clear hK K
      try simp only [List.getElem_toArray, List.getElem_cons_succ, List.getElem_cons_zero, Act.put, List.setIfInBounds_toArray, List.set_cons_zero, List.set_cons_succ]
      refine wpAnyH_ready (rs := [5]) (by kernel_rfl) (by simp) ?_
      refine AllReadyH.cons rfl (fun K hK => ?_) AllReadyH.nil
      have hcv : (convert 22 9 (.slice P2 r.length c2')).run Try.prog w7 = .ok (.string (strOfNums r)) w7 := conv_cells (P := Try.prog) (c := c2') 22 5 9 Try.underlying22 Try.underlying5 Try.underlying9 rfl (HCC.out w7 (Ext.trans_ HW.out X7.out)).2
      rw [if_pos (by rfl)]
      unfold Oper.wp
      go_simp
      clear hHeld hcv
      refine hK.out _ _ ⟨(Ext.trans_ HW.out X7.out), HQ7.out⟩ (fun hHeld => ?_)
      clear hK K
      try simp only [List.getElem_toArray, List.getElem_cons_succ, List.getElem_cons_zero, Act.put, List.setIfInBounds_toArray, List.set_cons_zero, List.set_cons_succ]
      refine wpAnyH_take (i := 8) (v := ?_) rfl (by kernel_rfl) (by kernel_rfl) (by kernel_rfl) (fun _ _ _ h => h) (Yields.yieldsIf (Or.inl ⟨by rfl, ?_⟩)) hHeld ?_
      rotate_left
      · intro W
        go_simp
        try with_reducible rfl
      simp only [List.getElem_toArray, List.getElem_cons_succ, List.getElem_cons_zero, Act.put, List.setIfInBounds_toArray, List.set_cons_zero, List.set_cons_succ]
      refine wpAnyH_ready (rs := [9]) (by kernel_rfl) (by simp) ?_
      refine AllReadyH.cons rfl (fun K hK => ?_) AllReadyH.nil
      have r4 : w7.cell? ⟨wb.heap.size, 4, none⟩ = some (.string ⟨#[]⟩) := at_cell HR7.out 4
      have f4 : w7.frozen? ⟨wb.heap.size, 4, none⟩ = false := at_frozen HR7.out 4
      rw [if_pos (by rfl)]
      unfold Oper.wp
      go_simp
      obtain ⟨w8, hw8⟩ : ∃ w8, w7.setCell ⟨wb.heap.size, 4, none⟩ (.string (strOfNums r)) = w8 := ⟨_, rfl⟩
      have HR8 : Hid (w8.heap[wb.heap.size]? = some (.cells #[.int .i64 code, .int .i64 id, .int .i64 4, .slice A6 p.length c6, .string (strOfNums r)] 52 (0, 0))) := by unfold Hid; rw [← hw8]; exact at_set HR7.out 4 _
      have HO8 : Hid (w8.ownsRow w5.heap.size 5 1 (.slice A6 p.length c6) p.length (nums .u8 p)) := by unfold Hid; rw [← hw8]; exact own_setCell HO7.out (p := ⟨wb.heap.size, 4, none⟩) HN6.out _
      have X8 : Hid (Ext wb w8) := by unfold Hid; rw [← hw8]; exact ⟨X7.out.out.setCell (p := ⟨wb.heap.size, 4, none⟩) (Nat.le_refl _) _⟩
      have HQ8 : Hid (w8.heap[w4.heap.size]? = some (.cells #[.slice P1 p.length c1', .slice P2 r.length c2'] 119 (0, 0))) := by unfold Hid; rw [← hw8]; exact at_other (p := ⟨wb.heap.size, 4, none⟩) _ HQ7.out (by have := HGB.out; show w4.heap.size ≠ wb.heap.size; omega)
      simp only [hw8]
      clear hHeld hw8 r4 f4
      refine hK.out _ _ ⟨Ext.trans_ HW.out X8.out, HQ8.out⟩ (fun hHeld => ?_)
      clear hK K
      refine wpAnyH_done (by kernel_rfl) ?_ _
      clear hHeld HR5
      have HR5 := HR8
      have HZ5 : Hid (w8.heap[w.heap.size + 1]? = some (.cells zMs 52 (0, 0))) := at_ext (h := X8.out) HZ.out
      have HNE : Hid ((Value.slice A6 p.length c6).ownBlock ≠ some (w.heap.size + 1)) := own_type_ne HO8.out HZ5.out (by decide)
      go_wp2_with
        (first
         | (refine wpList_load_row rfl 52 (.tmp 4) rfl wb.heap.size rfl 52 #[.int .i64 code, .int .i64 id, .int .i64 4, .slice A6 p.length c6, .string (strOfNums r)] (0, 0) _ HR5.out Try.underlying52 rfl (by kernel_rfl) ?_)
         | (refine wpList_store_row rfl 52 (.tmp 2) (.tmp 95) rfl (w.heap.size + 1) #[.int .i64 code, .int .i64 id, .int .i64 4, .slice A6 p.length c6, .string (strOfNums r)] rfl rfl 52 zMs HZ5.out (by kernel_rfl) rfl (by simp [Value.oneCell']) ?_))
      refine bodyPost_ret (results_cell_row2 Try.results31 _ _ (w.heap.size + 1) 52 #[.int .i64 code, .int .i64 id, .int .i64 4, .slice A6 p.length c6, .string (strOfNums r)] (0, 0) _ (.int .i64 0) rfl rfl (setRow_heap _ _ _ _ _ _ HZ5.out) Try.underlying52 rfl (by kernel_rfl)) rfl ?_
      rw [HF.out]
      exact ⟨A6, c6, rfl, own_weaken (own_setRow HO8.out HNE.out _) XW5.out.out.size, (Ext.setRow_ (Ext.trans_ HW.out X8.out) (by omega) _).out⟩
  · skip
    have hcv : (convert 22 9 (.slice P2 r.length c2')).run Try.prog w5.drew = .ok (.string (strOfNums r)) w5.drew := conv_cells (P := Try.prog) (c := c2') 22 5 9 Try.underlying22 Try.underlying5 Try.underlying9 rfl (HCC.out w5.drew (Ext.trans_ XW5.out inferInstance)).2
    rw [if_pos (by rfl)]
    unfold Oper.wp
    go_simp
    clear hHeld hcv
    refine hK.out _ _ ⟨(Ext.trans_ XW5.out inferInstance), HQ5.out⟩ (fun hHeld => ?_)
    clear hK K
    try simp only [List.getElem_toArray, List.getElem_cons_succ, List.getElem_cons_zero, Act.put, List.setIfInBounds_toArray, List.set_cons_zero, List.set_cons_succ]
    refine wpAnyH_ready (rs := [2]) (by kernel_rfl) (by simp) ?_
    refine AllReadyH.cons rfl (fun K hK => ?_) AllReadyH.nil
    refine step_append w5.heap.size rfl (.const (.slice none 0 0)) (.tmp 82) 22 5 (.int .u8 0) 1 1 rfl Try.underlying22 info_u8 rfl (by decide) (by decide) (.slice none 0 0) 0 [] P1 p.length c1' (nums .u8 p) rfl rfl (by rw [nums_length, Nat.mul_one]) (nums_one _ _) (own_nil _ _ _ _) (HCC.out w5.drew (Ext.trans_ XW5.out inferInstance)).1 (Nat.le_refl _) (by have := HPL.out.2; omega) ?_
    intro v6 w6 ho6 hg6 hat6
    rw [Nat.zero_add, List.nil_append] at ho6
    obtain ⟨A6, c6, rfl, hc6⟩ := own_slice ho6
    have HO6 := Lib.hid ho6
    have X56 : Hid (Ext w5 w6) := ⟨below_grown (Ext.out (w := w5) (w' := w5.drew)) (Nat.le_refl _) hg6 (fun k hk => by cases hk)⟩
    have XW6 : Hid (Ext w w6) := Ext.trans_ XW5.out X56.out
    have HQ6 : Hid (w6.heap[w4.heap.size]? = some (.cells #[.slice P1 p.length c1', .slice P2 r.length c2'] 119 (0, 0))) := at_ext (h := X56.out) HQ5.out
    have HR6 : Hid (w6.heap[wb.heap.size]? = some (.cells #[.int .i64 code, .int .i64 id, .int .i64 4, .slice none 0 0, .string ⟨#[]⟩] 52 (0, 0))) := at_ext (h := X56.out) HR5.out
    clear ho6 hg6 hat6 hc6 hHeld
    refine hK.out _ _ ⟨XW6.out, HQ6.out⟩ (fun hHeld => ?_)
    clear hK K
    try simp only [List.getElem_toArray, List.getElem_cons_succ, List.getElem_cons_zero, Act.put, List.setIfInBounds_toArray, List.set_cons_zero, List.set_cons_succ]
    refine wpAnyH_take (i := 6) (v := ?_) rfl (by kernel_rfl) (by kernel_rfl) (by kernel_rfl) (fun _ _ _ h => h) (Yields.yieldsIf (Or.inl ⟨by rfl, ?_⟩)) hHeld ?_
    rotate_left
    · intro W
      go_simp
      try with_reducible rfl
    simp only [List.getElem_toArray, List.getElem_cons_succ, List.getElem_cons_zero, Act.put, List.setIfInBounds_toArray, List.set_cons_zero, List.set_cons_succ]
    refine wpAnyH_ready (rs := [7]) (by kernel_rfl) (by simp) ?_
    refine AllReadyH.cons rfl (fun K hK => ?_) AllReadyH.nil
    have r3 : w6.cell? ⟨wb.heap.size, 3, none⟩ = some (.slice none 0 0) := at_cell HR6.out 3
    have f3 : w6.frozen? ⟨wb.heap.size, 3, none⟩ = false := at_frozen HR6.out 3
    rw [if_pos (by rfl)]
    unfold Oper.wp
    go_simp
    obtain ⟨w7, hw7⟩ : ∃ w7, w6.setCell ⟨wb.heap.size, 3, none⟩ (.slice A6 p.length c6) = w7 := ⟨_, rfl⟩
    have HR7 : Hid (w7.heap[wb.heap.size]? = some (.cells #[.int .i64 code, .int .i64 id, .int .i64 4, .slice A6 p.length c6, .string ⟨#[]⟩] 52 (0, 0))) := by unfold Hid; rw [← hw7]; exact at_set HR6.out 3 _
    have HN6 : Hid ((Value.slice A6 p.length c6).ownBlock ≠ some wb.heap.size) := own_type_ne HO6.out HR6.out (by decide)
    have HO7 : Hid (w7.ownsRow w5.heap.size 5 1 (.slice A6 p.length c6) p.length (nums .u8 p)) := by unfold Hid; rw [← hw7]; exact own_setCell HO6.out (p := ⟨wb.heap.size, 3, none⟩) HN6.out _
    have X7 : Hid (Ext wb w7) := by unfold Hid; rw [← hw7]; exact ⟨(Ext.trans_ X5.out X56.out).out.setCell (p := ⟨wb.heap.size, 3, none⟩) (Nat.le_refl _) _⟩
    have HQ7 : Hid (w7.heap[w4.heap.size]? = some (.cells #[.slice P1 p.length c1', .slice P2 r.length c2'] 119 (0, 0))) := by unfold Hid; rw [← hw7]; exact at_other (p := ⟨wb.heap.size, 3, none⟩) _ HQ6.out (by have := HGB.out; show w4.heap.size ≠ wb.heap.size; omega)
    simp only [hw7]
    clear hHeld hw7 r3 f3
    refine hK.out _ _ ⟨Ext.trans_ HW.out X7.out, HQ7.out⟩ (fun hHeld => ?_)
    clear hK K
    try simp only [List.getElem_toArray, List.getElem_cons_succ, List.getElem_cons_zero, Act.put, List.setIfInBounds_toArray, List.set_cons_zero, List.set_cons_succ]
    refine wpAnyH_take (i := 8) (v := ?_) rfl (by kernel_rfl) (by kernel_rfl) (by kernel_rfl) (fun _ _ _ h => h) (Yields.yieldsIf (Or.inl ⟨by rfl, ?_⟩)) hHeld ?_
    rotate_left
    · intro W
      go_simp
      try with_reducible rfl
    simp only [List.getElem_toArray, List.getElem_cons_succ, List.getElem_cons_zero, Act.put, List.setIfInBounds_toArray, List.set_cons_zero, List.set_cons_succ]
    refine wpAnyH_ready (rs := [9]) (by kernel_rfl) (by simp) ?_
    refine AllReadyH.cons rfl (fun K hK => ?_) AllReadyH.nil
    have r4 : w7.cell? ⟨wb.heap.size, 4, none⟩ = some (.string ⟨#[]⟩) := at_cell HR7.out 4
    have f4 : w7.frozen? ⟨wb.heap.size, 4, none⟩ = false := at_frozen HR7.out 4
    rw [if_pos (by rfl)]
    unfold Oper.wp
    go_simp
    obtain ⟨w8, hw8⟩ : ∃ w8, w7.setCell ⟨wb.heap.size, 4, none⟩ (.string (strOfNums r)) = w8 := ⟨_, rfl⟩
    have HR8 : Hid (w8.heap[wb.heap.size]? = some (.cells #[.int .i64 code, .int .i64 id, .int .i64 4, .slice A6 p.length c6, .string (strOfNums r)] 52 (0, 0))) := by unfold Hid; rw [← hw8]; exact at_set HR7.out 4 _
    have HO8 : Hid (w8.ownsRow w5.heap.size 5 1 (.slice A6 p.length c6) p.length (nums .u8 p)) := by unfold Hid; rw [← hw8]; exact own_setCell HO7.out (p := ⟨wb.heap.size, 4, none⟩) HN6.out _
    have X8 : Hid (Ext wb w8) := by unfold Hid; rw [← hw8]; exact ⟨X7.out.out.setCell (p := ⟨wb.heap.size, 4, none⟩) (Nat.le_refl _) _⟩
    have HQ8 : Hid (w8.heap[w4.heap.size]? = some (.cells #[.slice P1 p.length c1', .slice P2 r.length c2'] 119 (0, 0))) := by unfold Hid; rw [← hw8]; exact at_other (p := ⟨wb.heap.size, 4, none⟩) _ HQ7.out (by have := HGB.out; show w4.heap.size ≠ wb.heap.size; omega)
    simp only [hw8]
    clear hHeld hw8 r4 f4
    refine hK.out _ _ ⟨Ext.trans_ HW.out X8.out, HQ8.out⟩ (fun hHeld => ?_)
    clear hK K
    refine wpAnyH_done (by kernel_rfl) ?_ _
    clear hHeld HR5
    have HR5 := HR8
    have HZ5 : Hid (w8.heap[w.heap.size + 1]? = some (.cells zMs 52 (0, 0))) := at_ext (h := X8.out) HZ.out
    have HNE : Hid ((Value.slice A6 p.length c6).ownBlock ≠ some (w.heap.size + 1)) := own_type_ne HO8.out HZ5.out (by decide)
    go_wp2_with
      (first
       | (refine wpList_load_row rfl 52 (.tmp 4) rfl wb.heap.size rfl 52 #[.int .i64 code, .int .i64 id, .int .i64 4, .slice A6 p.length c6, .string (strOfNums r)] (0, 0) _ HR5.out Try.underlying52 rfl (by kernel_rfl) ?_)
       | (refine wpList_store_row rfl 52 (.tmp 2) (.tmp 95) rfl (w.heap.size + 1) #[.int .i64 code, .int .i64 id, .int .i64 4, .slice A6 p.length c6, .string (strOfNums r)] rfl rfl 52 zMs HZ5.out (by kernel_rfl) rfl (by simp [Value.oneCell']) ?_))
    refine bodyPost_ret (results_cell_row2 Try.results31 _ _ (w.heap.size + 1) 52 #[.int .i64 code, .int .i64 id, .int .i64 4, .slice A6 p.length c6, .string (strOfNums r)] (0, 0) _ (.int .i64 0) rfl rfl (setRow_heap _ _ _ _ _ _ HZ5.out) Try.underlying52 rfl (by kernel_rfl)) rfl ?_
    rw [HF.out]
    exact ⟨A6, c6, rfl, own_weaken (own_setRow HO8.out HNE.out _) XW5.out.out.size, (Ext.setRow_ (Ext.trans_ HW.out X8.out) (by omega) _).out⟩
end Go.Proofs.Ytobddmpiljknpaa
