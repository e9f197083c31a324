/-
  eap: an authenticator in memory; Server.ask. Conditions: sizes.
-/
import Derived.Test.YtobddmpiljknpaaEbA
namespace Go.Proofs.Ytobddmpiljknpaa
open Go.RowKit
set_option linter.unusedVariables false
set_option linter.unusedSimpArgs false

/-- How far an authenticator is. -/
structure SS where
  st : Int
  tried : Int
  id : Int
  says : ByteArray
  who : ByteArray
  lc : Int
  li : Int
  ld : List Int
  due : List Int
def srvRow (nm : ByteArray) (T : Nat) (tries : Int) (s : SS) (LA : Option Addr) (lk : Nat) : Array Value :=
  (([.string nm, .pointer (some ⟨T, 0, none⟩), .int .i64 tries, .int .i64 s.tried, .int .i64 s.st, .int .i64 s.id, .string s.says, .string s.who, .int .i64 s.lc, .int .i64 s.li, .slice LA s.ld.length lk] : List Value) ++ nums .u8 s.due).toArray
section
variable (nm : ByteArray) (T : Nat) (tries : Int) (s : SS) (LA : Option Addr) (lk : Nat) (x : Int) (b : ByteArray)
theorem srv_tried : (srvRow nm T tries s LA lk).setIfInBounds 3 (.int .i64 x) = srvRow nm T tries { s with tried := x } LA lk := by simp [srvRow]
theorem srv_st : (srvRow nm T tries s LA lk).setIfInBounds 4 (.int .i64 x) = srvRow nm T tries { s with st := x } LA lk := by simp [srvRow]
theorem srv_id : (srvRow nm T tries s LA lk).setIfInBounds 5 (.int .i64 x) = srvRow nm T tries { s with id := x } LA lk := by simp [srvRow]
theorem srv_says : (srvRow nm T tries s LA lk).setIfInBounds 6 (.string b) = srvRow nm T tries { s with says := b } LA lk := by simp [srvRow]
theorem srv_who : (srvRow nm T tries s LA lk).setIfInBounds 7 (.string b) = srvRow nm T tries { s with who := b } LA lk := by simp [srvRow]
theorem srv_size (h : s.due.length = 16) : (srvRow nm T tries s LA lk).size = 27 := by simp [srvRow, nums_length, h]
theorem srv_last (c i : Int) (d : List Int) (A : Option Addr) (k : Nat) :
    ((srvRow nm T tries s LA lk).toList.take 8 ++ (#[.int .i64 c, .int .i64 i, .slice A d.length k] : Array Value).toList ++ (srvRow nm T tries s LA lk).toList.drop (8 + (#[.int .i64 c, .int .i64 i, .slice A d.length k] : Array Value).size)).toArray = srvRow nm T tries { s with lc := c, li := i, ld := d } A k := by simp [srvRow]
theorem srv_due (d : List Int) (h : s.due.length = 16) (hd : d.length = 16) :
    ((srvRow nm T tries s LA lk).toList.take 11 ++ (nums .u8 d).toArray.toList ++ (srvRow nm T tries s LA lk).toList.drop (11 + (nums .u8 d).toArray.size)).toArray = srvRow nm T tries { s with due := d } LA lk := by
  simp [srvRow, nums_length, h, hd]
end
/-- An authenticator, at block B; its table at T. -/
structure ESrv (w : World) (B T : Nat) (nm : ByteArray) (tries : Int) (s : SS) (us : List SV) (LA : Option Addr) (lk : Nat) : Prop where
  b : w.heap[B]? = some (.cells (srvRow nm T tries s LA lk) 127 (0, 0))
  t : TabLow w B T us
  l : us.length ≤ 64
  due : s.due.length = 16
  dueb : Byt s.due
  id : 0 ≤ s.id ∧ s.id ≤ 255
  last : Cells w LA (nums .u8 s.ld)
  far : ∀ ad, LA = some ad → ad.block ≠ B ∧ ad.block < w.heap.size
  ll : s.ld.length ≤ 20000
  nml : nm.size ≤ 64
  own : w.ownsRow 0 5 1 (.slice LA s.ld.length lk) s.ld.length (nums .u8 s.ld)
theorem slice_block {A : Option Addr} {n c j : Nat} (h : (Value.slice A n c).ownBlock = some j) : ∃ ad, A = some ad ∧ ad.block = j := by
  rcases A with _ | ad
  · cases h
  · exact ⟨ad, rfl, Option.some.inj h⟩
section
variable {w w' : World} {B T : Nat} {nm : ByteArray} {tries : Int} {s : SS} {us : List SV} {LA : Option Addr} {lk : Nat}
theorem ESrv.ext [h : Ext w w'] (k : ESrv w B T nm tries s us LA lk) : ESrv w' B T nm tries s us LA lk :=
  ⟨at_ext k.b, k.t.move fun j hj => h.out.block j (Nat.lt_trans hj (at_lt k.b)), k.l, k.due, k.dueb, k.id, k.last.ext, fun ad ha => ⟨(k.far ad ha).1, Nat.lt_of_lt_of_le (k.far ad ha).2 h.out.size⟩, k.ll, k.nml, own_ext k.own⟩
/-- The server's own block is written, nothing else. -/
theorem ESrv.turn {s' : SS} (k : ESrv w B T nm tries s us LA lk) (hb : w'.heap[B]? = some (.cells (srvRow nm T tries s' LA lk) 127 (0, 0))) (ho : ∀ j, j ≠ B → w'.heap[j]? = w.heap[j]?) (hl : s'.ld = s.ld) (hd : s'.due = s.due) (hi : 0 ≤ s'.id ∧ s'.id ≤ 255) (hz : w.heap.size ≤ w'.heap.size) : ESrv w' B T nm tries s' us LA lk :=
  ⟨hb, k.t.move fun j hj => ho j (Nat.ne_of_lt hj), k.l, by rw [hd]; exact k.due, by rw [hd]; exact k.dueb, hi, by
    rw [hl]
    exact k.last.keep fun p _ ad hv e hp => (World.cell?_of_block (by rw [hp]; exact ho _ (k.far ad e).1)).trans hv, fun ad ha => ⟨(k.far ad ha).1, Nat.lt_of_lt_of_le (k.far ad ha).2 hz⟩, by rw [hl]; exact k.ll, k.nml, by
    rw [hl]
    exact own_heap2 k.own fun j hj => by
      obtain ⟨ad, e1, e2⟩ := slice_block hj
      exact ho j (fun e => (k.far ad e1).1 (e2.trans e))⟩
theorem ESrv.dueC (k : ESrv w B T nm tries s us LA lk) : Cells w (some ⟨B, 11, none⟩) (nums .u8 s.due) := by
  intro _
  refine ⟨_, rfl, fun j u hu => ?_⟩
  have h1 : (⟨B, 11, none⟩ : Addr).add j = ⟨B, 11 + j, none⟩ := by unfold Addr.add; split <;> simp_all
  rw [h1]
  refine (at_cell k.b (11 + j)).trans ?_
  unfold srvRow
  rw [List.getElem?_toArray, List.getElem?_append_right (by simp)]
  simpa using hu
theorem ESrv.rowY (k : ESrv w B T nm tries s us LA lk) {g : Nat} (hg : B < g) (hne : ∀ ad, LA = some ad → ad.block ≠ g) (row : Array Value) : ESrv (w.setRow g row) B T nm tries s us LA lk :=
  ⟨(setRow_other _ _ _ _ (by omega)).trans k.b, k.t.move fun j hj => setRow_other _ _ _ _ (by omega), k.l, k.due, k.dueb, k.id, cells_setRow k.last hne row, fun ad ha => ⟨(k.far ad ha).1, by simpa using (k.far ad ha).2⟩, k.ll, k.nml, own_setRow k.own (fun h => by
    obtain ⟨ad, e1, e2⟩ := slice_block h
    exact hne ad e1 e2) row⟩
theorem ESrv.cellY (k : ESrv w B T nm tries s us LA lk) {g i : Nat} (hg : B < g) (hne : ∀ ad, LA = some ad → ad.block ≠ g) (u : Value) : ESrv (w.setCell ⟨g, i, none⟩ u) B T nm tries s us LA lk :=
  ⟨(Below.heap_setCell _ _ _ _ (show B ≠ g by omega)).trans k.b, k.t.move fun j hj => Below.heap_setCell _ _ _ _ (show j ≠ g by omega), k.l, k.due, k.dueb, k.id,
    k.last.keep fun p _ ad hv e hp => (World.cell?_of_block (Below.heap_setCell _ _ _ _ (show p.block ≠ g by rw [hp]; exact hne ad e))).trans hv, fun ad ha => ⟨(k.far ad ha).1, by simpa [World.setCell] using (k.far ad ha).2⟩, k.ll, k.nml, own_setCell k.own (p := ⟨g, i, none⟩) (fun h => by
    obtain ⟨ad, e1, e2⟩ := slice_block h
    exact hne ad e1 e2) u⟩
end
/-- What is left of the world but for one block: a world that stands behind others. -/
theorem But.refl_ (w : World) (B : Nat) : But w w B := ⟨rfl, rfl, rfl, Nat.le_refl _, fun _ _ _ => rfl⟩
theorem But.setRow_ {w w1 : World} {B : Nat} (h : But w w1 B) (cs : Array Value) : But w (w1.setRow B cs) B :=
  ⟨h.os, h.tape, h.output, by have := h.size; simpa using this, fun k hk hB => (setRow_other _ _ _ _ hB).trans (h.block k hk hB)⟩
theorem But.rowY {w w1 : World} {B g : Nat} (h : But w w1 B) (hg : w.heap.size ≤ g) (cs : Array Value) : But w (w1.setRow g cs) B :=
  ⟨h.os, h.tape, h.output, by have := h.size; simpa using this, fun k hk hB => (setRow_other _ _ _ _ (by omega)).trans (h.block k hk hB)⟩
theorem But.setYoung {w w1 : World} {B g : Nat} (h : But w w1 B) (hg : w.heap.size ≤ g) (i : Nat) (v : Value) : But w (w1.setCell ⟨g, i, none⟩ v) B :=
  ⟨h.os, h.tape, h.output, by have := h.size; simp [World.setCell]; omega, fun k hk hB => (Below.heap_setCell _ _ _ _ (show k ≠ g by omega)).trans (h.block k hk hB)⟩
theorem But.step {w w1 w2 : World} {B : Nat} (h : But w w1 B) (e : Ext w1 w2) : But w w2 B :=
  ⟨e.out.os.trans h.os, e.out.tape.trans h.tape, e.out.output.trans h.output, Nat.le_trans h.size e.out.size, fun k hk hB => (e.out.block k (Nat.lt_of_lt_of_le hk h.size)).trans (h.block k hk hB)⟩
theorem But.trans {w w1 w2 : World} {B : Nat} (h : But w w1 B) (e : But w1 w2 B) : But w w2 B :=
  ⟨e.os.trans h.os, e.tape.trans h.tape, e.output.trans h.output, Nat.le_trans h.size e.size, fun k hk hB => (e.block k (Nat.lt_of_lt_of_le hk h.size) hB).trans (h.block k hk hB)⟩
theorem But.cells {w w1 : World} {B : Nat} {A : Option Addr} {cs : List Value} (h : But w w1 B) (hc : Cells w A cs) (hA : ∀ ad, A = some ad → ad.block ≠ B ∧ ad.block < w.heap.size) : Cells w1 A cs :=
  hc.keep fun p _ ad hv e hp => (World.cell?_of_block (by rw [hp]; exact h.block _ (hA ad e).2 (hA ad e).1)).trans hv
def wrL (id ty : Int) (v t : List Int) : (Int × Int) × List Int := ((wrE 1 id ty v t).1, (wrE 1 id ty v t).2.1)
def askS (s : SS) (ty : Int) (v t : List Int) : SS :=
  { s with id := (s.id + 1) % 256, tried := 1, lc := (wrE 1 ((s.id + 1) % 256) ty v t).1.1, li := (wrE 1 ((s.id + 1) % 256) ty v t).1.2, ld := (wrE 1 ((s.id + 1) % 256) ty v t).2.1 }
theorem wrE_len {code id ty : Int} {v t : List Int} : (wrE code id ty v t).2.1.length ≤ 16400 := by
  unfold wrE
  split
  · simp
  split
  · simp
  split
  · split <;> simp
  split
  · simp
  split
  · simp
  · simp only [List.length_append, List.length_cons, List.length_nil]; omega
def AskTells (B T : Nat) (nm : ByteArray) (tries : Int) (s' : SS) (us : List SV) (w : World) (e : Ending) (w' : World) : Prop :=
  ∃ A k LA lk, e = .returned (.agg #[.int .i64 s'.lc, .int .i64 s'.li, .slice A s'.ld.length k]) ∧ w'.ownsRow w.heap.size 5 1 (.slice A s'.ld.length k) s'.ld.length (nums .u8 s'.ld) ∧ ESrv w' B T nm tries s' us LA lk ∧ But w w' B ∧ ∀ ad, LA = some ad → w.heap.size ≤ ad.block
set_option maxRecDepth 100000 in
set_option maxHeartbeats 8000000 in
theorem ask4_any (B T : Nat) (nm : ByteArray) (tries : Int) (s : SS) (us : List SV) (LA : Option Addr) (lk : Nat) (ty : Int) (V : Option Addr) (n c : Nat) (v : List Int) (tx : ByteArray) (hn : v.length = n) (hn' : n ≤ 140737488355000) (htx : tx.size ≤ 140737488355000) (w : World) (hx : Cells w V (nums .u8 v)) (hfv : ∀ ad, V = some ad → ad.block ≠ B ∧ ad.block < w.heap.size) (hE : ESrv w B T nm tries s us LA lk) :
    Calls Try.prog 79 #[.pointer (some ⟨B, 0, none⟩), .agg #[.int .i64 0, .int .i64 0, .int .i64 ty, .slice V n c, .string tx]] w (AskTells B T nm tries (askS s ty v (strB tx)) us w) := by
  have Hn := Lib.hid hn
  have HX := Lib.hid hx
  have HE := Lib.hid hE
  have HBL : Hid (B < w.heap.size) := at_lt hE.b
  have hid := hE.id
  have HFV := Lib.hid hfv
  clear hn hx hE hfv
  go_enter Try.func79, Try.ntmps79
  go_upto_region 1 with fail
  obtain ⟨wb, hwb⟩ : ∃ wb, (w.alloc (.cells #[.int .i64 0, .int .i64 0, .int .i64 ty, .slice V n c, .string tx] 52)).alloc zPk = wb := ⟨_, rfl⟩
  have HM : Hid (wb.heap[w.heap.size]? = some (.cells #[.int .i64 0, .int .i64 0, .int .i64 ty, .slice V n c, .string tx] 52 (0, 0))) := by unfold Hid; rw [← hwb]; exact at_ext (at_new w _)
  have HZ : Hid (wb.heap[w.heap.size + 1]? = some zPk) := by unfold Hid; rw [← hwb]; exact at_new1 (by simp)
  have HW : Hid (Ext w wb) := by unfold Hid; rw [← hwb]; exact inferInstance
  have HLB : Hid (w.heap.size + 1 < wb.heap.size) := at_lt HZ.out
  rw [hwb]
  clear hwb
  have HE0 : Hid (ESrv wb B T nm tries s us LA lk) := HE.out.ext (h := HW.out)
  have s5 : wb.cell? ⟨B, 5, none⟩ = some (.int .i64 s.id) := at_cell HE0.out.b 5
  have f5 : wb.frozen? ⟨B, 5, none⟩ = false := at_frozen HE0.out.b 5
  go_upto_region 2 with fail
  obtain ⟨i', hi'⟩ : ∃ i', (s.id + 1) % 256 = i' := ⟨_, rfl⟩
  have hii : 0 ≤ i' ∧ i' ≤ 255 := by omega
  have HII := Lib.hid hi'
  rw [hi']
  obtain ⟨w1, hw1⟩ : ∃ w1, wb.setCell ⟨B, 5, none⟩ (.int .i64 i') = w1 := ⟨_, rfl⟩
  have HE1 : Hid (ESrv w1 B T nm tries { s with id := i' } us LA lk) := by
    unfold Hid
    rw [← hw1]
    exact HE0.out.turn (by rw [← srv_id]; exact at_set HE0.out.b 5 _) (fun j hj => Below.heap_setCell _ _ _ _ hj) rfl rfl hii (by simp [World.setCell])
  have HM1 : Hid (w1.heap[w.heap.size]? = some (.cells #[.int .i64 0, .int .i64 0, .int .i64 ty, .slice V n c, .string tx] 52 (0, 0))) := by unfold Hid; rw [← hw1]; exact at_other (p := ⟨B, 5, none⟩) _ HM.out (by have := HBL.out; show w.heap.size ≠ B; omega)
  have HZ1 : Hid (w1.heap[w.heap.size + 1]? = some zPk) := by unfold Hid; rw [← hw1]; exact at_other (p := ⟨B, 5, none⟩) _ HZ.out (by have := HBL.out; show w.heap.size + 1 ≠ B; omega)
  have HB1 : Hid (But w w1 B) := by unfold Hid; rw [← hw1]; exact (But.of (h := HW.out)).set 5 _
  rw [hw1]
  clear hw1 s5 f5 hi'
  have s3 : w1.cell? ⟨B, 3, none⟩ = some (.int .i64 s.tried) := at_cell HE1.out.b 3
  have f3 : w1.frozen? ⟨B, 3, none⟩ = false := at_frozen HE1.out.b 3
  go_upto_region 3 with fail
  obtain ⟨w2, hw2⟩ : ∃ w2, w1.setCell ⟨B, 3, none⟩ (.int .i64 1) = w2 := ⟨_, rfl⟩
  have HE2 : Hid (ESrv w2 B T nm tries { s with id := i', tried := 1 } us LA lk) := by
    unfold Hid
    rw [← hw2]
    exact HE1.out.turn (by rw [at_set HE1.out.b 3 _, srv_tried]) (fun j hj => Below.heap_setCell _ _ _ _ hj) rfl rfl hii (by simp [World.setCell])
  have HM2 : Hid (w2.heap[w.heap.size]? = some (.cells #[.int .i64 0, .int .i64 0, .int .i64 ty, .slice V n c, .string tx] 52 (0, 0))) := by unfold Hid; rw [← hw2]; exact at_other (p := ⟨B, 3, none⟩) _ HM1.out (by have := HBL.out; show w.heap.size ≠ B; omega)
  have HZ2 : Hid (w2.heap[w.heap.size + 1]? = some zPk) := by unfold Hid; rw [← hw2]; exact at_other (p := ⟨B, 3, none⟩) _ HZ1.out (by have := HBL.out; show w.heap.size + 1 ≠ B; omega)
  have HB2 : Hid (But w w2 B) := by unfold Hid; rw [← hw2]; exact HB1.out.set 3 _
  rw [hw2]
  clear hw2 s3 f3
  refine wp_region_held_drew (S := fun W => W.heap[B]? = some (.cells (srvRow nm T tries { s with id := i', tried := 1 } LA lk) 127 (0, 0))) (by kernel_rfl) HE2.out.b (fun hHeld => ?_)
  refine wpAnyH_take (i := 0) (v := ?_) rfl (by kernel_rfl) (by kernel_rfl) (by kernel_rfl) (fun _ _ _ h => h) (Yields.yieldsIf (Or.inl ⟨by rfl, ?_⟩)) hHeld ?_
  rotate_left
  · intro W
    go_simp
    try with_reducible rfl
  simp only [List.getElem_toArray, List.getElem_cons_succ, List.getElem_cons_zero, Act.put, List.setIfInBounds_toArray, List.set_cons_zero, List.set_cons_succ]
  refine wpAnyH_take (i := 1) (v := ?_) rfl (by kernel_rfl) (by kernel_rfl) (by kernel_rfl) (fun _ _ _ h => h) (Yields.yieldsIf (Or.inl ⟨by rfl, ?_⟩)) hHeld ?_
  rotate_left
  · intro W
    go_simp
    try with_reducible rfl
  simp only [List.getElem_toArray, List.getElem_cons_succ, List.getElem_cons_zero, Act.put, List.setIfInBounds_toArray, List.set_cons_zero, List.set_cons_succ]
  refine wpAnyH_take (i := 2) (v := ?_) rfl (by kernel_rfl) (by kernel_rfl) (by kernel_rfl) (fun _ _ _ h => h) (Yields.yieldsIf (Or.inl ⟨by rfl, ?_⟩)) hHeld ?_
  rotate_left
  · intro W
    go_simp
    try with_reducible rfl
  simp only [List.getElem_toArray, List.getElem_cons_succ, List.getElem_cons_zero, Act.put, List.setIfInBounds_toArray, List.set_cons_zero, List.set_cons_succ]
  refine wpAnyH_take (i := 3) (v := ?_) rfl (by kernel_rfl) (by kernel_rfl) (by kernel_rfl) (fun _ _ _ h => h) (Or.inl ⟨by rfl, ?_⟩) hHeld ?_
  rotate_left
  · intro W hW
    have hcl := (show W.cell? ⟨B, 5, none⟩ = some (.int .i64 i') from at_cell hW 5)
    go_simp
    try with_reducible rfl
  simp only [List.getElem_toArray, List.getElem_cons_succ, List.getElem_cons_zero, Act.put, List.setIfInBounds_toArray, List.set_cons_zero, List.set_cons_succ]
  refine wpAnyH_take (i := 4) (v := ?_) rfl (by kernel_rfl) (by kernel_rfl) (by kernel_rfl) (fun _ _ _ h => h) (Yields.yieldsIf (Or.inl ⟨by rfl, ?_⟩)) hHeld ?_
  rotate_left
  · intro W
    go_simp
    try with_reducible rfl
  simp only [List.getElem_toArray, List.getElem_cons_succ, List.getElem_cons_zero, Act.put, List.setIfInBounds_toArray, List.set_cons_zero, List.set_cons_succ]
  refine wpAnyH_ready (rs := [5]) (by kernel_rfl) (by simp) ?_
  refine AllReadyH.cons rfl (fun K hK => ?_) AllReadyH.nil
  have m0 : w2.cell? ⟨w.heap.size, 0, none⟩ = some (.int .i64 0) := at_cell HM2.out 0
  have g0 : w2.frozen? ⟨w.heap.size, 0, none⟩ = false := at_frozen HM2.out 0
  rw [if_pos (by rfl)]
  unfold Oper.wp
  go_simp
  obtain ⟨w3, hw3⟩ : ∃ w3, (w2.setCell ⟨w.heap.size, 0, none⟩ (.int .i64 1)).drew = w3 := ⟨_, rfl⟩
  have HLW : Hid (∀ ad, LA = some ad → ad.block ≠ w.heap.size) := fun ad ha => by
    intro hb
    have h2 := (HE.out.far ad ha).2
    omega
  have HE3 : Hid (ESrv w3 B T nm tries { s with id := i', tried := 1 } us LA lk) := by
    unfold Hid
    rw [← hw3]
    exact ESrv.ext (h := inferInstance) (HE2.out.cellY (g := w.heap.size) (i := 0) HBL.out HLW.out (.int .i64 1))
  have HM3 : Hid (w3.heap[w.heap.size]? = some (.cells #[.int .i64 1, .int .i64 0, .int .i64 ty, .slice V n c, .string tx] 52 (0, 0))) := by unfold Hid; rw [← hw3]; exact at_set HM2.out 0 _
  have HZ3 : Hid (w3.heap[w.heap.size + 1]? = some zPk) := by unfold Hid; rw [← hw3]; exact at_other (p := ⟨w.heap.size, 0, none⟩) _ HZ2.out (by show w.heap.size + 1 ≠ w.heap.size; omega)
  have HB3 : Hid (But w w3 B) := by unfold Hid; rw [← hw3]; exact (HB2.out.setYoung (Nat.le_refl _) 0 (.int .i64 1)).step inferInstance
  simp only [hw3]
  clear hHeld hw3 m0 g0
  refine hK.out _ _ HE3.out.b (fun hHeld => ?_)
  clear hK K
  try simp only [List.getElem_toArray, List.getElem_cons_succ, List.getElem_cons_zero, Act.put, List.setIfInBounds_toArray, List.set_cons_zero, List.set_cons_succ]
  refine wpAnyH_take (i := 6) (v := ?_) rfl (by kernel_rfl) (by kernel_rfl) (by kernel_rfl) (fun _ _ _ h => h) (Yields.yieldsIf (Or.inl ⟨by rfl, ?_⟩)) hHeld ?_
  rotate_left
  · intro W
    go_simp
    try with_reducible rfl
  simp only [List.getElem_toArray, List.getElem_cons_succ, List.getElem_cons_zero, Act.put, List.setIfInBounds_toArray, List.set_cons_zero, List.set_cons_succ]
  refine wpAnyH_ready (rs := [7]) (by kernel_rfl) (by simp) ?_
  refine AllReadyH.cons rfl (fun K hK => ?_) AllReadyH.nil
  have m1 : w3.cell? ⟨w.heap.size, 1, none⟩ = some (.int .i64 0) := at_cell HM3.out 1
  have g1 : w3.frozen? ⟨w.heap.size, 1, none⟩ = false := at_frozen HM3.out 1
  rw [if_pos (by rfl)]
  unfold Oper.wp
  go_simp
  obtain ⟨w4, hw4⟩ : ∃ w4, w3.setCell ⟨w.heap.size, 1, none⟩ (.int .i64 i') = w4 := ⟨_, rfl⟩
  have HE4 : Hid (ESrv w4 B T nm tries { s with id := i', tried := 1 } us LA lk) := by unfold Hid; rw [← hw4]; exact HE3.out.cellY (g := w.heap.size) (i := 1) HBL.out HLW.out _
  have HM4 : Hid (w4.heap[w.heap.size]? = some (.cells #[.int .i64 1, .int .i64 i', .int .i64 ty, .slice V n c, .string tx] 52 (0, 0))) := by unfold Hid; rw [← hw4]; exact at_set HM3.out 1 _
  have HZ4 : Hid (w4.heap[w.heap.size + 1]? = some zPk) := by unfold Hid; rw [← hw4]; exact at_other (p := ⟨w.heap.size, 1, none⟩) _ HZ3.out (by show w.heap.size + 1 ≠ w.heap.size; omega)
  have HB4 : Hid (But w w4 B) := by unfold Hid; rw [← hw4]; exact HB3.out.setYoung (Nat.le_refl _) 1 _
  simp only [hw4]
  clear hHeld hw4 m1 g1
  refine hK.out _ _ HE4.out.b (fun hHeld => ?_)
  clear hK K
  refine wpAnyH_done (by kernel_rfl) ?_ _
  clear hHeld
  have HV4 : Hid (Cells w4 V (nums .u8 v)) := HB4.out.cells HX.out HFV.out
  have HWL := wrE_len (code := 1) (id := i') (ty := ty) (v := v) (t := strB tx)
  obtain ⟨⟨⟨ci, ii⟩, d, er⟩, hwr⟩ : ∃ F, wrE 1 i' ty v (strB tx) = F := ⟨_, rfl⟩
  have HWR := Lib.hid hwr
  rw [hwr] at HWL
  have HDL : Hid (d.length ≤ 16400) := HWL
  clear hwr HWL
  go_upto_region 5 with
    (first
     | (refine wpList_load_row rfl 52 (.tmp 3) rfl w.heap.size rfl 52 #[.int .i64 1, .int .i64 i', .int .i64 ty, .slice V n c, .string tx] (0, 0) _ HM4.out Try.underlying52 rfl (by kernel_rfl) ?_))
  refine (write_any 1 i' ty V n c v tx Hn.out hn' htx _ HV4.out).mono ?_
  rintro e w5 ⟨A5, k5, rfl, ho5, hb5⟩
  rw [HWR.out] at ho5 ⊢
  simp only at ho5 ⊢
  have X45 : Hid (Ext w4 w5) := ⟨hb5⟩
  have HO5 := Lib.hid ho5
  have HE5 : Hid (ESrv w5 B T nm tries { s with id := i', tried := 1 } us LA lk) := HE4.out.ext (h := X45.out)
  have HZ5 : Hid (w5.heap[w.heap.size + 1]? = some zPk) := at_ext (h := X45.out) HZ4.out
  have HB5 : Hid (But w w5 B) := HB4.out.step X45.out
  clear ho5 hb5
  have hsz : (srvRow nm T tries { s with id := i', tried := 1 } LA lk).size = 27 := srv_size _ _ _ _ _ _ HE.out.due
  have HSZ := Lib.hid hsz
  clear hsz
  go_upto_region 5 with
    (refine wpList_store_sub rfl 24 (.tmp 30) (.tmp 27) rfl B 8 #[.int .i64 ci, .int .i64 ii, .slice A5 d.length k5] (srvRow nm T tries { s with id := i', tried := 1, lc := ci, li := ii, ld := d } A5 k5) rfl rfl 127 _ HE5.out.b (by kernel_rfl) (by rw [HSZ.out]; show 8 + 3 ≤ 27; omega) (by simp [Value.oneCell']) (srv_last _ _ _ _ _ _ _ _ _ _ _) ?_)
  have HN5 : Hid ((Value.slice A5 d.length k5).ownBlock ≠ some B) := own_type_ne HO5.out HE5.out.b (by decide)
  obtain ⟨w6, hw6⟩ : ∃ w6, w5.setRow B (srvRow nm T tries { s with id := i', tried := 1, lc := ci, li := ii, ld := d } A5 k5) = w6 := ⟨_, rfl⟩
  have HO6 : Hid (w6.ownsRow w4.heap.size 5 1 (.slice A5 d.length k5) d.length (nums .u8 d)) := by unfold Hid; rw [← hw6]; exact own_setRow HO5.out HN5.out _
  have HE6 : Hid (ESrv w6 B T nm tries { s with id := i', tried := 1, lc := ci, li := ii, ld := d } us A5 k5) := by
    unfold Hid
    refine ⟨by rw [← hw6]; exact setRow_heap _ _ _ _ _ _ HE5.out.b, HE5.out.t.move fun j hj => by rw [← hw6]; exact setRow_other _ _ _ _ (Nat.ne_of_lt hj), HE.out.l, HE.out.due, HE.out.dueb, hii, own_cells HO6.out, fun ad ha => ?_, Nat.le_trans HDL.out (by decide), HE.out.nml, own_weaken HO6.out (Nat.zero_le _)⟩
    subst ha
    exact ⟨fun h => HN5.out (by rw [← h]; rfl), own_lt HO6.out _ rfl⟩
  have HZ6 : Hid (w6.heap[w.heap.size + 1]? = some zPk) := by unfold Hid; rw [← hw6]; exact (setRow_other _ _ _ _ (by have := HBL.out; omega)).trans HZ5.out
  have HB6 : Hid (But w w6 B) := by unfold Hid; rw [← hw6]; exact HB5.out.setRow_ _
  rw [hw6]
  clear hw6
  have s8 : w6.cell? ⟨B, 8, none⟩ = some (.int .i64 ci) := at_cell HE6.out.b 8
  have s9 : w6.cell? ⟨B, 9, none⟩ = some (.int .i64 ii) := at_cell HE6.out.b 9
  have s10 : w6.cell? ⟨B, 10, none⟩ = some (.slice A5 d.length k5) := at_cell HE6.out.b 10
  go_wp2_with fail
  refine (copied_any ci ii A5 d.length k5 d rfl (by have := HDL.out; omega) _ (own_cells HO6.out)).mono ?_
  rintro e w7 ⟨A7, k7, rfl, ho7, hb7⟩
  have X67 : Hid (Ext w6 w7) := ⟨hb7⟩
  have HO7 := Lib.hid ho7
  have HE7 := Lib.hid (HE6.out.ext (h := X67.out))
  have HZ7 : Hid (w7.heap[w.heap.size + 1]? = some zPk) := at_ext (h := X67.out) HZ6.out
  have HB7 : Hid (But w w7 B) := HB6.out.step X67.out
  have HNE : Hid ((Value.slice A7 d.length k7).ownBlock ≠ some (w.heap.size + 1)) := own_type_ne HO7.out HZ7.out (by decide)
  have HNL : Hid ((Value.slice A5 d.length k5).ownBlock ≠ some (w.heap.size + 1)) := own_type_ne HO6.out HZ6.out (by decide)
  clear ho7 hb7 s8 s9 s10
  go_wp2_with
    (refine wpList_store_row rfl 24 (.tmp 4) (.tmp 35) rfl (w.heap.size + 1) #[.int .i64 ci, .int .i64 ii, .slice A7 d.length k7] rfl rfl 24 #[.int .i64 0, .int .i64 0, .slice none 0 0] HZ7.out (by kernel_rfl) rfl (by simp [Value.oneCell']) ?_)
  refine bodyPost_ret (results_cell_row1 Try.results79 _ _ (w.heap.size + 1) 24 #[.int .i64 ci, .int .i64 ii, .slice A7 d.length k7] (0, 0) _ rfl (setRow_heap _ _ _ _ _ _ HZ7.out) Try.underlying24 rfl (by kernel_rfl)) rfl ?_
  have HS : askS s ty v (strB tx) = { s with id := i', tried := 1, lc := ci, li := ii, ld := d } := by
    unfold askS
    rw [HII.out, HWR.out]
  rw [HS]
  refine ⟨A7, k7, A5, k5, rfl, own_weaken (own_setRow HO7.out HNE.out _) HB6.out.size, ?_, ?_, fun ad ha => Nat.le_trans HB4.out.size (own_base HO6.out ad.block (by rw [ha]; rfl))⟩
  · exact HE7.out.rowY (by have := HBL.out; omega) (fun ad ha h => HNL.out (by rw [ha, ← h]; rfl)) _
  · exact HB7.out.rowY (by omega) _
end Go.Proofs.Ytobddmpiljknpaa
