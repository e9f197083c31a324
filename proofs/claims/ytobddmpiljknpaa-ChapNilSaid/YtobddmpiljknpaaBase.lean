/-
  WORDS FOR MEMORY, over any program: a slice that reads as a list of cells, a row of the call's own, what a call leaves alone; append, make and copy as steps of the walk. No condition: nothing here speaks of one program.
-/
import Derived.Below
import Derived.Deep.Draws
import Derived.Deep.AppendLies
import Derived.Maps.AppendAt
import Derived.OwnWalk
import Derived.Laws.MakeOwn
import Derived.Laws.OwnMore
import Derived.Laws.CopyOwn
import Derived.Laws.AppendOwnNone
import Derived.WalkKit
import Derived.Lib.Hide
namespace Go.Proofs.Ytobddmpiljknpaa
open Go.RowKit

/-- Some orders have been drawn, nothing else has turned. -/
def Drawn (w w' : World) : Prop := ∃ k, w' = w.drewN k
theorem Drawn.refl (w : World) : Drawn w w := ⟨0, rfl⟩
theorem Drawn.drewN {w w' : World} (h : Drawn w w') (n : Nat) : Drawn w (w'.drewN n) := by
  obtain ⟨m, rfl⟩ := h
  exact ⟨m + n, World.drewN_drewN ..⟩
theorem Drawn.trans {w w1 w2 : World} (h : Drawn w w1) (k : Drawn w1 w2) : Drawn w w2 := by
  obtain ⟨m, rfl⟩ := k
  exact h.drewN m

def nums (k : IntKind) (xs : List Int) : List Value := xs.map fun x => .int k x
theorem nums_length (k : IntKind) (xs : List Int) : (nums k xs).length = xs.length := by simp [nums]
theorem nums_append (k : IntKind) (xs ys : List Int) : nums k (xs ++ ys) = nums k xs ++ nums k ys := by simp [nums]
theorem nums_take (k : IntKind) (xs : List Int) (i : Nat) : nums k (xs.take i) = (nums k xs).take i := by simp [nums]
theorem nums_drop (k : IntKind) (xs : List Int) (i : Nat) : nums k (xs.drop i) = (nums k xs).drop i := by simp [nums]
theorem nums_set (k : IntKind) (xs : List Int) (i : Nat) (x : Int) : nums k (xs.set i x) = (nums k xs).set i (.int k x) := by simp [nums, List.map_set]
theorem nums_one (k : IntKind) (xs : List Int) : ∀ u ∈ nums k xs, u.oneCell' = true := by
  intro u hu
  simp only [nums, List.mem_map] at hu
  obtain ⟨x, _, rfl⟩ := hu
  rfl
theorem nums_get (k : IntKind) (xs : List Int) (i : Nat) (h : i < xs.length) : (nums k xs)[i]? = some (.int k (xs.getD i 0)) := by
  simp [nums, List.getElem?_eq_getElem h, List.getD_eq_getElem?_getD]

/-! ### Places -/
theorem block_of_add (a : Addr) (n : Nat) : (a.add n).block = a.block := by unfold Addr.add; split <;> rfl
theorem add_of_add (a : Addr) (i j : Nat) : (a.add i).add j = a.add (i + j) := by
  unfold Addr.add
  by_cases hi : i = 0 <;> by_cases hj : j = 0 <;> simp [hi, hj, Nat.add_assoc]
theorem add_plain (g j : Nat) : (⟨g, 0, none⟩ : Addr).add j = ⟨g, j, none⟩ := by unfold Addr.add; split <;> simp_all

/-! ### Worlds -/
theorem below_then {B : Nat} {w w1 w2 : World} (h : Below B w w1) (hB : B ≤ w1.heap.size) (k : Below w1.heap.size w1 w2) : Below B w w2 :=
  h.trans (k.mono hB)
theorem below_drewN {B : Nat} {w W : World} (h : Below B w W) (n : Nat) : Below B w (W.drewN n) := ⟨h.os, h.tape, h.output, h.size, h.block⟩
theorem below_drawn {B : Nat} {w W W' : World} (h : Below B w W) (k : Drawn W W') : Below B w W' := by
  obtain ⟨n, rfl⟩ := k
  exact below_drewN h n
theorem Drawn.below {w w' : World} (h : Drawn w w') : Below w.heap.size w w' := below_drawn (Below.refl _ _) h
theorem grown_of_below {w w1 : World} (h : Below w.heap.size w w1) (row : Option Nat) : w.grownBy w1 row := ⟨h.os, h.tape, h.output, h.size, fun i hi _ => h.block i hi⟩
theorem grown_drewN {w W : World} {row : Option Nat} (h : w.grownBy W row) (n : Nat) : w.grownBy (W.drewN n) row := ⟨h.os, h.tape, h.output, h.size, h.block⟩
theorem grown_refl (w : World) (row : Option Nat) : w.grownBy w row := ⟨rfl, rfl, rfl, Nat.le_refl _, fun _ _ _ => rfl⟩
theorem below_grown {B : Nat} {w w1 w2 : World} {row : Option Nat} (h : Below B w w1) (hB : B ≤ w1.heap.size) (hg : w1.grownBy w2 row) (hr : ∀ k, row = some k → B ≤ k) : Below B w w2 := h.grown hg hB hr

theorem grown_setCell {w w1 : World} {row : Option Nat} (h : w.grownBy w1 row) {p : Addr} (hp : w.heap.size ≤ p.block ∨ some p.block = row) (u : Value) : w.grownBy (w1.setCell p u) row :=
  ⟨h.os, h.tape, h.output, by rw [World.size_setCell]; exact h.size, fun k hk hne => by
    have : k ≠ p.block := by
      rintro rfl
      rcases hp with hp | hp
      · omega
      · exact hne hp
    rw [Below.heap_setCell _ _ _ _ this]
    exact h.block k hk hne⟩
theorem grown_trans_row {w w1 w2 : World} {row row1 : Option Nat} (h : w.grownBy w1 row) (k : w1.grownBy w2 row1) (hr : row1 = row ∨ ∀ b, row1 = some b → w.heap.size ≤ b) : w.grownBy w2 row :=
  ⟨k.os.trans h.os, k.tape.trans h.tape, k.output.trans h.output, Nat.le_trans h.size k.size, fun i hi hne => by
    refine (k.block i (Nat.lt_of_lt_of_le hi h.size) ?_).trans (h.block i hi hne)
    rcases hr with rfl | hr
    · exact hne
    · intro he
      have := hr i he.symm
      omega⟩
theorem grown_alloc {w w1 : World} {row : Option Nat} (h : w.grownBy w1 row) (o : Obj) : w.grownBy (w1.alloc o) row := World.grownBy.trans h (World.grownBy_alloc w1 o row)

/-! ### Cells that stand one behind the other -/
/-- From A on the cells cs stand, if there is one. -/
def Cells (w : World) (A : Option Addr) (cs : List Value) : Prop := 0 < cs.length → ∃ ad, A = some ad ∧ ∀ j u, cs[j]? = some u → w.cell? (ad.add j) = some u
section
variable {w w1 : World} {A : Option Addr} {cs : List Value}
theorem Cells.nil_ (w : World) (A : Option Addr) : Cells w A [] := fun h => absurd h (by simp)
theorem Cells.keep (h : Cells w A cs) (hk : ∀ p v ad, w.cell? p = some v → A = some ad → p.block = ad.block → w1.cell? p = some v) : Cells w1 A cs := by
  intro hn
  obtain ⟨ad, e, hc⟩ := h hn
  exact ⟨ad, e, fun j u hu => hk _ _ ad (hc j u hu) e (block_of_add ad j)⟩
theorem Cells.drewN (h : Cells w A cs) (n : Nat) : Cells (w.drewN n) A cs := h
theorem Cells.drew (h : Cells w A cs) : Cells w.drew A cs := h
theorem Cells.drawn (h : Cells w A cs) (hd : Drawn w w1) : Cells w1 A cs := by
  obtain ⟨n, rfl⟩ := hd
  exact h
theorem Cells.below (h : Cells w A cs) (hb : Below w.heap.size w w1) : Cells w1 A cs :=
  h.keep fun p _ _ hv _ _ => (hb.cell (World.block_lt_of_cell? w p hv)).trans hv
theorem Cells.alloc (h : Cells w A cs) (o : Obj) : Cells (w.alloc o) A cs := h.below ((Below.refl _ _).alloc (Nat.le_refl _) o)
theorem Cells.grown (h : Cells w A cs) {row : Option Nat} (hg : w.grownBy w1 row) (hr : ∀ ad, A = some ad → some ad.block ≠ row) : Cells w1 A cs :=
  h.keep fun p _ ad hv e hp => (World.cell?_of_block (hg.block p.block (World.block_lt_of_cell? w p hv) (by rw [hp]; exact hr ad e))).trans hv
theorem Cells.at_ (h : Cells w A cs) {k : Nat} (hk : k < cs.length) : ∃ ad, A = some ad ∧ w.cell? (ad.add k) = some cs[k] := by
  obtain ⟨ad, e, hc⟩ := h (by omega)
  exact ⟨ad, e, hc k _ (List.getElem?_eq_getElem hk)⟩
theorem Cells.num {k : IntKind} {xs : List Int} (h : Cells w A (nums k xs)) {i : Nat} (hi : i < xs.length) : ∃ ad, A = some ad ∧ w.cell? (ad.add i) = some (.int k (xs.getD i 0)) := by
  obtain ⟨ad, e, hc⟩ := h (by rw [nums_length]; omega)
  exact ⟨ad, e, hc i _ (nums_get k xs i hi)⟩
theorem Cells.take (h : Cells w A cs) (i : Nat) : Cells w A (cs.take i) := by
  intro hn
  obtain ⟨ad, e, hc⟩ := h (by rw [List.length_take] at hn; omega)
  refine ⟨ad, e, fun j u hu => hc j u ?_⟩
  rw [List.getElem?_take] at hu
  split at hu
  · exact hu
  · cases hu
theorem Cells.left {ds : List Value} (h : Cells w A (cs ++ ds)) : Cells w A cs := by
  have := h.take cs.length
  rwa [List.take_left] at this
/-- What is left behind a cut, at the model's own spelling of its address. -/
theorem Cells.drop {size n c : Nat} (h : Cells w A cs) (hl : cs.length = n * size) (hn : n ≤ c) (i : Nat) (hi : i ≤ n) : Cells w (if c = i then A else A.map (·.add (i * size))) (cs.drop (i * size)) := by
  intro hlen
  rw [List.length_drop, hl] at hlen
  obtain ⟨ad, rfl, hc⟩ := h (by omega)
  have hne : ¬ c = i := by
    rintro rfl
    have : n = c := by omega
    subst this
    omega
  rw [if_neg hne]
  refine ⟨ad.add (i * size), rfl, fun j u hu => ?_⟩
  rw [add_of_add]
  exact hc _ u (by rw [← hu, List.getElem?_drop])
end

/-! ### A row of the call's own -/
section
variable {w w1 : World} {base n size : Nat} {e : TypeId} {v : Value} {cs : List Value}
theorem own_nil (w : World) (base : Nat) (e : TypeId) (size : Nat) : w.ownsRow base e size (.slice none 0 0) 0 [] := World.ownsRow_nil w base e size
theorem own_base (h : w.ownsRow base e size v n cs) (k : Nat) (hk : v.ownBlock = some k) : base ≤ k := (h.lt k hk).1
theorem own_lt (h : w.ownsRow base e size v n cs) (k : Nat) (hk : v.ownBlock = some k) : k < w.heap.size := (h.lt k hk).2
theorem own_slice (h : w.ownsRow base e size v n cs) : ∃ A c, v = .slice A n c ∧ n ≤ c := by
  rcases h.2 with ⟨rfl, rfl⟩ | ⟨g, cap, cur, rfl, _, _, hc, _⟩
  · exact ⟨none, 0, rfl, Nat.le_refl _⟩
  · exact ⟨_, cap, rfl, hc⟩
theorem own_weaken {base' : Nat} (h : w.ownsRow base e size v n cs) (hb : base' ≤ base) : w.ownsRow base' e size v n cs := by
  refine ⟨h.1, ?_⟩
  rcases h.2 with h' | ⟨g, cap, cur, h1, h2, h3⟩
  · exact .inl h'
  · exact .inr ⟨g, cap, cur, h1, Nat.le_trans hb h2, h3⟩
theorem own_grown {row : Option Nat} (h : w.ownsRow base e size v n cs) (hg : w.grownBy w1 row) (hne : v.ownBlock = none ∨ v.ownBlock ≠ row) : w1.ownsRow base e size v n cs := h.kept hg hne
theorem own_below (h : w.ownsRow base e size v n cs) (hb : Below w.heap.size w w1) : w1.ownsRow base e size v n cs :=
  h.kept (grown_of_below hb none) (by cases v.ownBlock <;> simp)
theorem own_drewN (h : w.ownsRow base e size v n cs) (k : Nat) : (w.drewN k).ownsRow base e size v n cs := h
theorem own_drawn (h : w.ownsRow base e size v n cs) (hd : Drawn w w1) : w1.ownsRow base e size v n cs := by
  obtain ⟨k, rfl⟩ := hd
  exact h
/-- Two rows, the one laid behind the other's world, never meet. -/
theorem own_ne {w0 : World} {base' n' size' : Nat} {e' : TypeId} {v' : Value} {cs' : List Value} (h : w0.ownsRow base e size v n cs) (h' : w1.ownsRow base' e' size' v' n' cs') (hb : w0.heap.size ≤ base') : v.ownBlock = none ∨ v.ownBlock ≠ v'.ownBlock := by
  rcases hv : v.ownBlock with _ | g
  · exact .inl rfl
  · refine .inr fun heq => ?_
    have h1 := own_lt h g hv
    have h2 := own_base h' g heq.symm
    omega
theorem own_cells {A : Option Addr} {c m : Nat} (h : w.ownsRow base e size (.slice A m c) n cs) : Cells w A cs := by
  intro hn
  rcases h.2 with ⟨hv, rfl⟩ | ⟨g, cap, cur, hv, _⟩
  · rw [h.1] at hn; omega
  · injection hv with hA _ _
    subst hA
    exact ⟨_, rfl, h.cells (g := g) rfl⟩
theorem own_len (h : w.ownsRow base e size v n cs) : cs.length = n * size := h.1
theorem own_len1 (h : w.ownsRow base e 1 v n cs) : cs.length = n := by rw [h.1, Nat.mul_one]
theorem own_max (h : w.ownsRow base e size v n cs) : n ≤ 9223372036854775807 := by
  rcases h.2 with ⟨_, rfl⟩ | ⟨g, cap, cur, _, _, _, h1, h2, _⟩
  · omega
  · simp only [maxLen] at h2; omega
/-- The block of a row that holds something. -/
theorem own_form (h : w.ownsRow base e size v n cs) (hn : 0 < n) : ∃ g c, v = .slice (some ⟨g, 0, none⟩) n c ∧ base ≤ g ∧ g < w.heap.size ∧ n ≤ c := by
  rcases h.2 with ⟨_, rfl⟩ | ⟨g, cap, cur, rfl, hb, hg, hc, _⟩
  · omega
  · exact ⟨g, cap, rfl, hb, (Array.getElem?_eq_some_iff.1 hg).1, hc⟩
end

theorem own_take {w : World} {base n size g cap : Nat} {e : TypeId} {cs : List Value} (h : w.ownsRow base e size (.slice (some ⟨g, 0, none⟩) n cap) n cs) (k : Nat) (hk : k ≤ n) :
    w.ownsRow base e size (.slice (some ⟨g, 0, none⟩) k cap) k (cs.take (k * size)) := by
  obtain ⟨h1, h2 | ⟨g', cap', cur, hv, hb, hg, hn, hc, hs, ht⟩⟩ := h
  · cases h2.1
  · have hle : k * size ≤ n * size := Nat.mul_le_mul_right _ hk
    injection hv with hv1 hv2 hv3
    injection hv1 with hv1
    injection hv1 with hv1
    subst hv1
    subst hv3
    refine ⟨by rw [List.length_take, h1]; omega, .inr ⟨g, cap, cur, rfl, hb, hg, by omega, hc, hs, ?_⟩⟩
    rw [← ht, List.take_take, Nat.min_eq_left hle]

/-! ### append, as a step of the walk -/
section
variable {P : Program} {ops : Array Oper} {rest : List Oper} {o : Oper} {a : Act} {Q : Exit → Act → World → Prop}

theorem run_append_cells (W : World) (base : Nat) (t ty e : TypeId) (z : Value) (size bytes : Nat)
    (ht : P.underlying t = some (.slice e)) (hinfo : (P.info? e).map (fun i => (i.zero, i.size, i.bytes)) = some (some z, size, bytes)) (hz : z.cells.size = size) (hs0 : 0 < size) (hb0 : 0 < bytes)
    (v : Value) (n : Nat) (cs : List Value) (A : Option Addr) (m c : Nat) (ds : List Value) (hl : ds.length = m * size) (h1 : ∀ u ∈ ds, u.oneCell' = true)
    (HO : W.ownsRow base e size v n cs) (HC : Cells W A ds) (hbase : base ≤ W.heap.size) (hk : (n + m) * bytes ≤ 140737488355328) :
    ∃ v1 w1, (Builtin.append_ #[t, t] ty #[v, .slice A m c]).run P W = .ok v1 w1 ∧ w1.ownsRow base e size v1 (n + m) (cs ++ ds) ∧ W.grownBy w1 v.ownBlock ∧ (v1.ownBlock = v.ownBlock ∨ v1.ownBlock = some W.heap.size) := by
  obtain ⟨i0, hi, hzz⟩ := Option.map_eq_some_iff.1 hinfo
  simp only [Prod.mk.injEq] at hzz
  obtain ⟨hz0, hz1, hz2⟩ := hzz
  have hlen : n + m ≤ 140737488355328 := Nat.le_trans (Nat.le_mul_of_pos_right _ hb0) hk
  rcases A with _ | ad
  · have hd : ds = [] := by
      rcases Nat.eq_zero_or_pos ds.length with h0 | h0
      · exact List.eq_nil_of_length_eq_zero h0
      · obtain ⟨ad, h, _⟩ := HC h0
        cases h
    subst hd
    have hm : m = 0 := by
      rcases Nat.eq_zero_or_pos m with h0 | h0
      · exact h0
      · have := Nat.mul_pos h0 hs0
        simp at hl
        omega
    subst hm
    refine ⟨v, W, ?_, by simpa using HO, grown_refl _ _, .inl rfl⟩
    rcases HO.2 with ⟨rfl, rfl⟩ | ⟨g, cap, cur, rfl, _, _, hnc, _⟩
    · simp [Builtin.append_, run_underlying ht, sizeOf, typeInfo, hi, Builtin.lenOf, Builtin.firstCells]
    · simp [Builtin.append_, run_underlying ht, sizeOf, typeInfo, hi, Builtin.lenOf, Builtin.firstCells, hnc, storeCells]
  · have hcells : ∀ j u, ds[j]? = some u → W.cell? (ad.add j) = some u := by
      intro j u hu
      have hj : j < ds.length := (List.getElem?_eq_some_iff.1 hu).1
      obtain ⟨ad', h, hc⟩ := HC (by omega)
      injection h with h
      subst h
      exact hc j u hu
    obtain ⟨v1, w1, hrun, h2, h3, _, h5⟩ := run_append_own_at (P := P) W base t ty e i0 z size bytes ht hi hz0 hz1 hz2 hz hs0 v n cs HO ad m c ds hl hcells h1 (by simp only [maxLen]; omega) hk hbase
    exact ⟨v1, w1, hrun, h2, h3, h5⟩

/-- 'append(v, xs...)': v a row of the call's own, xs any slice that reads. -/
theorem wp_append_cells {w0 W : World} (base : Nat) (hgd : o.guard = none) (s x : Operand) (t e : TypeId) (z : Value) (size bytes : Nat)
    (ho : o.op = .call { callee := .builtin .append, args := #[s, x], argTypes := #[t, t] })
    (ht : P.underlying t = some (.slice e)) (hinfo : (P.info? e).map (fun i => (i.zero, i.size, i.bytes)) = some (some z, size, bytes)) (hz : z.cells.size = size) (hs0 : 0 < size) (hb0 : 0 < bytes)
    (v : Value) (n : Nat) (cs : List Value) (A : Option Addr) (m c : Nat) (ds : List Value) (hs : a.eval s = v) (hx : a.eval x = .slice A m c) (hl : ds.length = m * size) (h1 : ∀ u ∈ ds, u.oneCell' = true)
    (HO : W.ownsRow base e size v n cs) (HC : Cells W A ds) (HB : Below base w0 W) (hbase : base ≤ W.heap.size) (hk : (n + m) * bytes ≤ 140737488355328)
    (h : ∀ v1 w1, w1.ownsRow base e size v1 (n + m) (cs ++ ds) → Below base w0 w1 → W.grownBy w1 v.ownBlock → (v1.ownBlock = v.ownBlock ∨ v1.ownBlock = some W.heap.size) → wpList P ops Q rest (a.put o.dst v1) w1) :
    wpList P ops Q (o :: rest) a W := by
  obtain ⟨v1, w1, hrun, h2, h3, h4⟩ := run_append_cells (P := P) W base t o.type e z size bytes ht hinfo hz hs0 hb0 v n cs A m c ds hl h1 HO HC hbase hk
  refine wpList_plain hgd fun K hK => ?_
  unfold Oper.wp execOp
  simp only [ho, resolve, invoke, builtin, Sem.run_bind, Sem.run_pure, Result.andThen_ok, List.map_toArray, List.map_cons, List.map_nil, hs, hx, hrun]
  exact hK _ _ (h v1 w1 h2 (HB.grown h3 hbase (own_base HO)) h3 h4)

/-- 'append(v, x)': the element's cells have just been laid in a block of their own. -/
theorem wp_append_box {w0 W : World} (base : Nat) (hgd : o.guard = none) (s x : Operand) (t e : TypeId) (z : Value) (size bytes m : Nat)
    (ho : o.op = .call { callee := .builtin .append, args := #[s, x], argTypes := #[t, t] })
    (ht : P.underlying t = some (.slice e)) (hinfo : (P.info? e).map (fun i => (i.zero, i.size, i.bytes)) = some (some z, size, bytes)) (hz : z.cells.size = size) (hs0 : 0 < size) (hb0 : 0 < bytes)
    (v : Value) (n : Nat) (cs : List Value) (ds : List Value) (hs : a.eval s = v) (hx : a.eval x = .slice (some ⟨W.heap.size, 0, none⟩) m m) (hl : ds.length = m * size) (h1 : ∀ u ∈ ds, u.oneCell' = true)
    (HO : W.ownsRow base e size v n cs) (HB : Below base w0 W) (hbase : base ≤ W.heap.size) (hk : (n + m) * bytes ≤ 140737488355328)
    (h : ∀ v1 w1, w1.ownsRow base e size v1 (n + m) (cs ++ ds) → Below base w0 w1 → W.grownBy w1 v.ownBlock → (v1.ownBlock = v.ownBlock ∨ ∃ b, v1.ownBlock = some b ∧ W.heap.size ≤ b) → wpList P ops Q rest (a.put o.dst v1) w1) :
    wpList P ops Q (o :: rest) a (W.alloc (.cells ds.toArray e)) := by
  refine wp_append_cells base hgd s x t e z size bytes ho ht hinfo hz hs0 hb0 v n cs (some ⟨W.heap.size, 0, none⟩) m m ds hs hx hl h1 (HO.alloc _) ?_ (HB.alloc hbase _) (by simp; omega) hk ?_
  · intro _
    refine ⟨_, rfl, fun j u hu => ?_⟩
    have := World.news_of_block (cs := ds.toArray) (t := e) (fr := (0, 0)) (heap_alloc_new W _) j u (by simpa using hu)
    exact this
  · intro v1 w1 hown hB hg hat
    refine h v1 w1 hown hB (World.grownBy.trans (World.grownBy_alloc W _ _) hg) ?_
    rcases hat with hat | hat
    · exact .inl hat
    · exact .inr ⟨_, hat, by simp⟩
end

/-! ### make and copy -/
theorem own_of_block {w : World} {base g n cap size : Nat} {e : TypeId} {cur : List Value} (hg : w.heap[g]? = some (.cells cur.toArray e (0, 0))) (hb : base ≤ g) (hn : n ≤ cap) (hc : cap ≤ 9223372036854775807) (hs : cur.length = cap * size) :
    w.ownsRow base e size (.slice (some ⟨g, 0, none⟩) n cap) n (cur.take (n * size)) :=
  ⟨by rw [List.length_take, hs]; exact Nat.min_eq_left (Nat.mul_le_mul_right _ hn), .inr ⟨g, cap, cur.toArray, rfl, hb, hg, hn, by simpa [maxLen] using hc, by simpa using hs, rfl⟩⟩
section
variable {P : Program} {ops : Array Oper} {rest : List Oper} {o : Oper} {a : Act} {Q : Exit → Act → World → Prop}
theorem wp_make {w0 W : World} (base : Nat) (hgd : o.guard = none) (l c : Operand) (t e : TypeId) (z : Value) (bytes : Nat) (ho : o.op = .makeSlice t l c)
    (ht : P.underlying t = some (.slice e)) (hinfo : (P.info? e).map (fun i => (i.zero, i.size, i.bytes)) = some (some z, 1, bytes)) (hz1 : z.cells = #[z]) (hb0 : 0 < bytes)
    (kl kc : IntKind) (n m : Nat) (hl : a.eval l = .int kl (n : Int)) (hc : a.eval c = .int kc (m : Int)) (hnm : n ≤ m) (hk : m * bytes ≤ 281474976710656) (HB : Below base w0 W) (hbase : base ≤ W.heap.size)
    (h : ∀ w1, w1.heap[W.heap.size]? = some (.cells (List.replicate m z).toArray e (0, 0)) → Below base w0 w1 → W.grownBy w1 none → W.heap.size < w1.heap.size → wpList P ops Q rest (a.put o.dst (.slice (some ⟨W.heap.size, 0, none⟩) n m)) w1) :
    wpList P ops Q (o :: rest) a W := by
  obtain ⟨i0, hi, hzz⟩ := Option.map_eq_some_iff.1 hinfo
  simp only [Prod.mk.injEq] at hzz
  obtain ⟨hz0, hs1, hb1⟩ := hzz
  have hm : m ≤ 281474976710656 := Nat.le_trans (Nat.le_mul_of_pos_right _ hb0) hk
  have hbk : (i0.bytes : Int) * (m : Int) ≤ 281474976710656 := by
    rw [hb1]
    have hk' : bytes * m ≤ 281474976710656 := by rw [Nat.mul_comm]; exact hk
    have : ((bytes * m : Nat) : Int) ≤ 281474976710656 := by omega
    rwa [Int.natCast_mul] at this
  have hr := run_make (P := P) W t e i0 z ht hi hz0 kl kc n m (by omega) (by omega) hbk (by omega)
  rw [hz1, hs1] at hr
  simp only [Int.toNat_natCast, Nat.mul_one] at hr
  clear hbk hk hm
  refine wpList_plain hgd fun K hK => ?_
  unfold Oper.wp execOp
  simp only [ho, hl, hc, hr, Sem.run_bind, Sem.run_pure, Result.andThen_ok]
  have he : madeCells #[z] m = (List.replicate m z).toArray := by
    apply Array.toList_inj.1
    rw [toList_madeCells_one]
  refine hK _ _ (h _ ?_ (HB.alloc hbase _) (World.grownBy_alloc W _ _) (by simp))
  rw [← he]
  exact heap_alloc_new W _
/-- For an arm of the walk: it fails at once at any other operation. -/
theorem gate {W : World} (b : Builtin) (xs : Array Operand) {ts : Array TypeId} (_ho : o.op = .call { callee := .builtin b, args := xs, argTypes := ts }) (h : wpList P ops Q (o :: rest) a W) : wpList P ops Q (o :: rest) a W := h

/-- 'copy(d, s)': d lies in a block that is known whole; s any slice that reads: as many cells as the shorter of the two has go over. -/
theorem wp_copy {w0 W : World} (base : Nat) (hgd : o.guard = none) (d s : Operand) (dT sT : TypeId) (elem : TypeId) (z : Value) (bytes : Nat)
    (ho : o.op = .call { callee := .builtin .copy, args := #[d, s], argTypes := #[dT, sT] }) (hu : P.underlying dT = some (.slice elem)) (hinfo : (P.info? elem).map (fun i => (i.zero, i.size, i.bytes)) = some (some z, 1, bytes))
    (dp sp : Option Addr) (dLen dCap sLen sCap : Nat) (hd : a.eval d = .slice dp dLen dCap) (hs : a.eval s = .slice sp sLen sCap)
    (g off : Nat) (cur : List Value) (t : TypeId) (hg : W.heap[g]? = some (.cells cur.toArray t (0, 0))) (cs : List Value) (hn : cs.length = Nat.min sLen dLen) (hdp : 0 < cs.length → dp = some ⟨g, off, none⟩) (hC : Cells W sp cs)
    (hfit : off + cs.length ≤ cur.length) (h1 : ∀ v ∈ cs, v.oneCell' = true) (hb : Below base w0 W) (hBg : base ≤ g)
    (h : ∀ w', w'.heap[g]? = some (.cells (splice cur off cs).toArray t (0, 0)) → Below base w0 w' → W.grownBy w' (some g) → wpList P ops Q rest (a.put o.dst (goInt cs.length)) w') :
    wpList P ops Q (o :: rest) a W := by
  have hsz : (P.info? elem).map (·.size) = some 1 := by
    obtain ⟨i0, hi, hzz⟩ := Option.map_eq_some_iff.1 hinfo
    simp only [Prod.mk.injEq] at hzz
    rw [hi]
    simp [hzz.2.1]
  by_cases h0 : cs.length = 0
  · obtain rfl : cs = [] := List.eq_nil_of_length_eq_zero h0
    refine wpList_copy_nothing hgd d s dT sT ho elem hu hsz dp sp dLen dCap sLen sCap hd hs (by simpa using hn.symm) ?_
    exact h W (by simpa [splice] using hg) hb (grown_refl _ _)
  · obtain ⟨ad, rfl, hsrc⟩ := hC (by omega)
    obtain rfl := hdp (by omega)
    refine wpList_copy_own hgd d s dT sT ho elem hu hsz g off dLen dCap ad sLen sCap hd hs cur.toArray t hg cs hn hsrc (by simpa using hfit) h1 ?_
    refine h _ ?_ (below_setRow hb hBg _) ⟨rfl, rfl, rfl, by simp [World.setRow], fun k hk hne => setRow_other W g k _ (fun e => hne (by rw [e]))⟩
    have := setRow_heap W g cur.toArray (splice cur off cs).toArray t (0, 0) hg
    simpa [splice] using this
theorem one_int (k : IntKind) (x : Int) : ∀ u ∈ [Value.int k x], u.oneCell' = true := by
  intro u hu
  simp at hu
  subst hu
  rfl
end
end Go.Proofs.Ytobddmpiljknpaa
