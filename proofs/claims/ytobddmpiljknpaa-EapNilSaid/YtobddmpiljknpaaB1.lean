/-
  WORDS FOR MEMORY, over any program: a slice that reads as a list of cells, a row of the call's own, what a call leaves alone; append, make and copy as steps of the walk. No condition: nothing here speaks of one program.
  What the references' helpers for bytes do: Same, Lent, Kept and Spoil. Conditions: the lists are no longer than the model's memory.
  MORE WORDS FOR MEMORY, over any program: a block that is known whole. No condition.
  A WORLD BEHIND ANOTHER: all that was there stands as it stood. Facts are carried over by instances. No condition.
  PLAIN MATHEMATICS of bytes and numbers: no program in sight.
  Bytes as text, bytes.Equal, slices.Contains at whole numbers. Conditions: the lists are no longer than the model's memory.
  THE FRAME OF A LAW's ROW, over any program: what an argument's reading gives, and: a call that answers true and leaves all old memory alone meets the row. No condition beyond the row's own.
  What an argument's reading gives of structs and of slices of structs. No condition.
  copy as one step of a region that draws its order; whole arrays. No condition.
  Steps of a region that draws its order, taken one by one: whole structs, single cells, calls by contract; guarded operations. No condition: nothing here speaks of one program.
  What opt's packets and the reference's tell: Clone, Pack, Unpack, SamePacket. Conditions: the lists are no longer than the model's memory; numbers are of their kinds.
  Two arrays of numbers that are the same are found equal. No condition.
  Closed facts of this seat's program that each row's frame asks for.
  What an argument's reading gives of packets, frames and lists of options. No condition.
-/
import Derived.Below
import Derived.Deep.Draws
import Derived.Deep.AppendLies
import Derived.Maps.AppendAt
import Derived.OwnWalk
import Derived.Laws.MakeOwn
import Derived.Laws.OwnMore
import Derived.Laws.CopyOwn
import Derived.Laws.AppendOwnNone
import Derived.WalkKit
import Derived.Lib.Hide
import Derived.Test.YtobddmpiljknpaaProg
import Derived.WalkSpells
import Derived.WalkLawsBesides
import Derived.BigQuiet
import Derived.Deep.QuietTactic
import Derived.Deep.LoopGhost
import Derived.KernelRfl
import Derived.RegionTactic
import Derived.BigRegion
import Derived.Laws.BitsLemmas
import Derived.Laws.Bits64
import Derived.IntWalk
import Derived.Laws.BytesArg
import Derived.Lib.Strings
import Derived.ProofKit
import Derived.SizedLaws
import Derived.Carry
import Derived.OpenShut
import Derived.ShutString
import Derived.ChangeOld
import Derived.ChangeArms
import Derived.DataReads
import Derived.Deep.CondSized
import Derived.JoinedCond
import Derived.Test.YtobddmpiljknpaaRows
import Derived.Deep.RegionWith
import Derived.Deep.RegionHeld3
import Derived.Laws.Tables
import Derived.Laws.ResultCell
import Derived.Laws.StructEq
namespace Go.Proofs.Ytobddmpiljknpaa
open Go.RowKit

/-- Some orders have been drawn, nothing else has turned. -/
def Drawn (w w' : World) : Prop := ∃ k, w' = w.drewN k
theorem Drawn.refl (w : World) : Drawn w w := ⟨0, rfl⟩
theorem Drawn.drewN {w w' : World} (h : Drawn w w') (n : Nat) : Drawn w (w'.drewN n) := by
  obtain ⟨m, rfl⟩ := h
  exact ⟨m + n, World.drewN_drewN ..⟩
theorem Drawn.trans {w w1 w2 : World} (h : Drawn w w1) (k : Drawn w1 w2) : Drawn w w2 := by
  obtain ⟨m, rfl⟩ := k
  exact h.drewN m

def nums (k : IntKind) (xs : List Int) : List Value := xs.map fun x => .int k x
theorem nums_length (k : IntKind) (xs : List Int) : (nums k xs).length = xs.length := by simp [nums]
theorem nums_append (k : IntKind) (xs ys : List Int) : nums k (xs ++ ys) = nums k xs ++ nums k ys := by simp [nums]
theorem nums_take (k : IntKind) (xs : List Int) (i : Nat) : nums k (xs.take i) = (nums k xs).take i := by simp [nums]
theorem nums_drop (k : IntKind) (xs : List Int) (i : Nat) : nums k (xs.drop i) = (nums k xs).drop i := by simp [nums]
theorem nums_set (k : IntKind) (xs : List Int) (i : Nat) (x : Int) : nums k (xs.set i x) = (nums k xs).set i (.int k x) := by simp [nums, List.map_set]
theorem nums_one (k : IntKind) (xs : List Int) : ∀ u ∈ nums k xs, u.oneCell' = true := by
  intro u hu
  simp only [nums, List.mem_map] at hu
  obtain ⟨x, _, rfl⟩ := hu
  rfl
theorem nums_get (k : IntKind) (xs : List Int) (i : Nat) (h : i < xs.length) : (nums k xs)[i]? = some (.int k (xs.getD i 0)) := by
  simp [nums, List.getElem?_eq_getElem h, List.getD_eq_getElem?_getD]

/-! ### Places -/
theorem block_of_add (a : Addr) (n : Nat) : (a.add n).block = a.block := by unfold Addr.add; split <;> rfl
theorem add_of_add (a : Addr) (i j : Nat) : (a.add i).add j = a.add (i + j) := by
  unfold Addr.add
  by_cases hi : i = 0 <;> by_cases hj : j = 0 <;> simp [hi, hj, Nat.add_assoc]
theorem add_plain (g j : Nat) : (⟨g, 0, none⟩ : Addr).add j = ⟨g, j, none⟩ := by unfold Addr.add; split <;> simp_all

/-! ### Worlds -/
theorem below_then {B : Nat} {w w1 w2 : World} (h : Below B w w1) (hB : B ≤ w1.heap.size) (k : Below w1.heap.size w1 w2) : Below B w w2 :=
  h.trans (k.mono hB)
theorem below_drewN {B : Nat} {w W : World} (h : Below B w W) (n : Nat) : Below B w (W.drewN n) := ⟨h.os, h.tape, h.output, h.size, h.block⟩
theorem below_drawn {B : Nat} {w W W' : World} (h : Below B w W) (k : Drawn W W') : Below B w W' := by
  obtain ⟨n, rfl⟩ := k
  exact below_drewN h n
theorem Drawn.below {w w' : World} (h : Drawn w w') : Below w.heap.size w w' := below_drawn (Below.refl _ _) h
theorem grown_of_below {w w1 : World} (h : Below w.heap.size w w1) (row : Option Nat) : w.grownBy w1 row := ⟨h.os, h.tape, h.output, h.size, fun i hi _ => h.block i hi⟩
theorem grown_drewN {w W : World} {row : Option Nat} (h : w.grownBy W row) (n : Nat) : w.grownBy (W.drewN n) row := ⟨h.os, h.tape, h.output, h.size, h.block⟩
theorem grown_refl (w : World) (row : Option Nat) : w.grownBy w row := ⟨rfl, rfl, rfl, Nat.le_refl _, fun _ _ _ => rfl⟩
theorem below_grown {B : Nat} {w w1 w2 : World} {row : Option Nat} (h : Below B w w1) (hB : B ≤ w1.heap.size) (hg : w1.grownBy w2 row) (hr : ∀ k, row = some k → B ≤ k) : Below B w w2 := h.grown hg hB hr

theorem grown_setCell {w w1 : World} {row : Option Nat} (h : w.grownBy w1 row) {p : Addr} (hp : w.heap.size ≤ p.block ∨ some p.block = row) (u : Value) : w.grownBy (w1.setCell p u) row :=
  ⟨h.os, h.tape, h.output, by rw [World.size_setCell]; exact h.size, fun k hk hne => by
    have : k ≠ p.block := by
      rintro rfl
      rcases hp with hp | hp
      · omega
      · exact hne hp
    rw [Below.heap_setCell _ _ _ _ this]
    exact h.block k hk hne⟩
theorem grown_trans_row {w w1 w2 : World} {row row1 : Option Nat} (h : w.grownBy w1 row) (k : w1.grownBy w2 row1) (hr : row1 = row ∨ ∀ b, row1 = some b → w.heap.size ≤ b) : w.grownBy w2 row :=
  ⟨k.os.trans h.os, k.tape.trans h.tape, k.output.trans h.output, Nat.le_trans h.size k.size, fun i hi hne => by
    refine (k.block i (Nat.lt_of_lt_of_le hi h.size) ?_).trans (h.block i hi hne)
    rcases hr with rfl | hr
    · exact hne
    · intro he
      have := hr i he.symm
      omega⟩
theorem grown_alloc {w w1 : World} {row : Option Nat} (h : w.grownBy w1 row) (o : Obj) : w.grownBy (w1.alloc o) row := World.grownBy.trans h (World.grownBy_alloc w1 o row)

/-! ### Cells that stand one behind the other -/
/-- From A on the cells cs stand, if there is one. -/
def Cells (w : World) (A : Option Addr) (cs : List Value) : Prop := 0 < cs.length → ∃ ad, A = some ad ∧ ∀ j u, cs[j]? = some u → w.cell? (ad.add j) = some u
section
variable {w w1 : World} {A : Option Addr} {cs : List Value}
theorem Cells.nil_ (w : World) (A : Option Addr) : Cells w A [] := fun h => absurd h (by simp)
theorem Cells.keep (h : Cells w A cs) (hk : ∀ p v ad, w.cell? p = some v → A = some ad → p.block = ad.block → w1.cell? p = some v) : Cells w1 A cs := by
  intro hn
  obtain ⟨ad, e, hc⟩ := h hn
  exact ⟨ad, e, fun j u hu => hk _ _ ad (hc j u hu) e (block_of_add ad j)⟩
theorem Cells.drewN (h : Cells w A cs) (n : Nat) : Cells (w.drewN n) A cs := h
theorem Cells.drew (h : Cells w A cs) : Cells w.drew A cs := h
theorem Cells.drawn (h : Cells w A cs) (hd : Drawn w w1) : Cells w1 A cs := by
  obtain ⟨n, rfl⟩ := hd
  exact h
theorem Cells.below (h : Cells w A cs) (hb : Below w.heap.size w w1) : Cells w1 A cs :=
  h.keep fun p _ _ hv _ _ => (hb.cell (World.block_lt_of_cell? w p hv)).trans hv
theorem Cells.alloc (h : Cells w A cs) (o : Obj) : Cells (w.alloc o) A cs := h.below ((Below.refl _ _).alloc (Nat.le_refl _) o)
theorem Cells.grown (h : Cells w A cs) {row : Option Nat} (hg : w.grownBy w1 row) (hr : ∀ ad, A = some ad → some ad.block ≠ row) : Cells w1 A cs :=
  h.keep fun p _ ad hv e hp => (World.cell?_of_block (hg.block p.block (World.block_lt_of_cell? w p hv) (by rw [hp]; exact hr ad e))).trans hv
theorem Cells.at_ (h : Cells w A cs) {k : Nat} (hk : k < cs.length) : ∃ ad, A = some ad ∧ w.cell? (ad.add k) = some cs[k] := by
  obtain ⟨ad, e, hc⟩ := h (by omega)
  exact ⟨ad, e, hc k _ (List.getElem?_eq_getElem hk)⟩
theorem Cells.num {k : IntKind} {xs : List Int} (h : Cells w A (nums k xs)) {i : Nat} (hi : i < xs.length) : ∃ ad, A = some ad ∧ w.cell? (ad.add i) = some (.int k (xs.getD i 0)) := by
  obtain ⟨ad, e, hc⟩ := h (by rw [nums_length]; omega)
  exact ⟨ad, e, hc i _ (nums_get k xs i hi)⟩
theorem Cells.take (h : Cells w A cs) (i : Nat) : Cells w A (cs.take i) := by
  intro hn
  obtain ⟨ad, e, hc⟩ := h (by rw [List.length_take] at hn; omega)
  refine ⟨ad, e, fun j u hu => hc j u ?_⟩
  rw [List.getElem?_take] at hu
  split at hu
  · exact hu
  · cases hu
theorem Cells.left {ds : List Value} (h : Cells w A (cs ++ ds)) : Cells w A cs := by
  have := h.take cs.length
  rwa [List.take_left] at this
/-- What is left behind a cut, at the model's own spelling of its address. -/
theorem Cells.drop {size n c : Nat} (h : Cells w A cs) (hl : cs.length = n * size) (hn : n ≤ c) (i : Nat) (hi : i ≤ n) : Cells w (if c = i then A else A.map (·.add (i * size))) (cs.drop (i * size)) := by
  intro hlen
  rw [List.length_drop, hl] at hlen
  obtain ⟨ad, rfl, hc⟩ := h (by omega)
  have hne : ¬ c = i := by
    rintro rfl
    have : n = c := by omega
    subst this
    omega
  rw [if_neg hne]
  refine ⟨ad.add (i * size), rfl, fun j u hu => ?_⟩
  rw [add_of_add]
  exact hc _ u (by rw [← hu, List.getElem?_drop])
end

/-! ### A row of the call's own -/
section
variable {w w1 : World} {base n size : Nat} {e : TypeId} {v : Value} {cs : List Value}
theorem own_nil (w : World) (base : Nat) (e : TypeId) (size : Nat) : w.ownsRow base e size (.slice none 0 0) 0 [] := World.ownsRow_nil w base e size
theorem own_base (h : w.ownsRow base e size v n cs) (k : Nat) (hk : v.ownBlock = some k) : base ≤ k := (h.lt k hk).1
theorem own_lt (h : w.ownsRow base e size v n cs) (k : Nat) (hk : v.ownBlock = some k) : k < w.heap.size := (h.lt k hk).2
theorem own_slice (h : w.ownsRow base e size v n cs) : ∃ A c, v = .slice A n c ∧ n ≤ c := by
  rcases h.2 with ⟨rfl, rfl⟩ | ⟨g, cap, cur, rfl, _, _, hc, _⟩
  · exact ⟨none, 0, rfl, Nat.le_refl _⟩
  · exact ⟨_, cap, rfl, hc⟩
theorem own_weaken {base' : Nat} (h : w.ownsRow base e size v n cs) (hb : base' ≤ base) : w.ownsRow base' e size v n cs := by
  refine ⟨h.1, ?_⟩
  rcases h.2 with h' | ⟨g, cap, cur, h1, h2, h3⟩
  · exact .inl h'
  · exact .inr ⟨g, cap, cur, h1, Nat.le_trans hb h2, h3⟩
theorem own_grown {row : Option Nat} (h : w.ownsRow base e size v n cs) (hg : w.grownBy w1 row) (hne : v.ownBlock = none ∨ v.ownBlock ≠ row) : w1.ownsRow base e size v n cs := h.kept hg hne
theorem own_below (h : w.ownsRow base e size v n cs) (hb : Below w.heap.size w w1) : w1.ownsRow base e size v n cs :=
  h.kept (grown_of_below hb none) (by cases v.ownBlock <;> simp)
theorem own_drewN (h : w.ownsRow base e size v n cs) (k : Nat) : (w.drewN k).ownsRow base e size v n cs := h
theorem own_drawn (h : w.ownsRow base e size v n cs) (hd : Drawn w w1) : w1.ownsRow base e size v n cs := by
  obtain ⟨k, rfl⟩ := hd
  exact h
/-- Two rows, the one laid behind the other's world, never meet. -/
theorem own_ne {w0 : World} {base' n' size' : Nat} {e' : TypeId} {v' : Value} {cs' : List Value} (h : w0.ownsRow base e size v n cs) (h' : w1.ownsRow base' e' size' v' n' cs') (hb : w0.heap.size ≤ base') : v.ownBlock = none ∨ v.ownBlock ≠ v'.ownBlock := by
  rcases hv : v.ownBlock with _ | g
  · exact .inl rfl
  · refine .inr fun heq => ?_
    have h1 := own_lt h g hv
    have h2 := own_base h' g heq.symm
    omega
theorem own_cells {A : Option Addr} {c m : Nat} (h : w.ownsRow base e size (.slice A m c) n cs) : Cells w A cs := by
  intro hn
  rcases h.2 with ⟨hv, rfl⟩ | ⟨g, cap, cur, hv, _⟩
  · rw [h.1] at hn; omega
  · injection hv with hA _ _
    subst hA
    exact ⟨_, rfl, h.cells (g := g) rfl⟩
theorem own_len (h : w.ownsRow base e size v n cs) : cs.length = n * size := h.1
theorem own_len1 (h : w.ownsRow base e 1 v n cs) : cs.length = n := by rw [h.1, Nat.mul_one]
theorem own_max (h : w.ownsRow base e size v n cs) : n ≤ 9223372036854775807 := by
  rcases h.2 with ⟨_, rfl⟩ | ⟨g, cap, cur, _, _, _, h1, h2, _⟩
  · omega
  · simp only [maxLen] at h2; omega
/-- The block of a row that holds something. -/
theorem own_form (h : w.ownsRow base e size v n cs) (hn : 0 < n) : ∃ g c, v = .slice (some ⟨g, 0, none⟩) n c ∧ base ≤ g ∧ g < w.heap.size ∧ n ≤ c := by
  rcases h.2 with ⟨_, rfl⟩ | ⟨g, cap, cur, rfl, hb, hg, hc, _⟩
  · omega
  · exact ⟨g, cap, rfl, hb, (Array.getElem?_eq_some_iff.1 hg).1, hc⟩
end

theorem own_take {w : World} {base n size g cap : Nat} {e : TypeId} {cs : List Value} (h : w.ownsRow base e size (.slice (some ⟨g, 0, none⟩) n cap) n cs) (k : Nat) (hk : k ≤ n) :
    w.ownsRow base e size (.slice (some ⟨g, 0, none⟩) k cap) k (cs.take (k * size)) := by
  obtain ⟨h1, h2 | ⟨g', cap', cur, hv, hb, hg, hn, hc, hs, ht⟩⟩ := h
  · cases h2.1
  · have hle : k * size ≤ n * size := Nat.mul_le_mul_right _ hk
    injection hv with hv1 hv2 hv3
    injection hv1 with hv1
    injection hv1 with hv1
    subst hv1
    subst hv3
    refine ⟨by rw [List.length_take, h1]; omega, .inr ⟨g, cap, cur, rfl, hb, hg, by omega, hc, hs, ?_⟩⟩
    rw [← ht, List.take_take, Nat.min_eq_left hle]

/-! ### append, as a step of the walk -/
section
variable {P : Program} {ops : Array Oper} {rest : List Oper} {o : Oper} {a : Act} {Q : Exit → Act → World → Prop}

theorem run_append_cells (W : World) (base : Nat) (t ty e : TypeId) (z : Value) (size bytes : Nat)
    (ht : P.underlying t = some (.slice e)) (hinfo : (P.info? e).map (fun i => (i.zero, i.size, i.bytes)) = some (some z, size, bytes)) (hz : z.cells.size = size) (hs0 : 0 < size) (hb0 : 0 < bytes)
    (v : Value) (n : Nat) (cs : List Value) (A : Option Addr) (m c : Nat) (ds : List Value) (hl : ds.length = m * size) (h1 : ∀ u ∈ ds, u.oneCell' = true)
    (HO : W.ownsRow base e size v n cs) (HC : Cells W A ds) (hbase : base ≤ W.heap.size) (hk : (n + m) * bytes ≤ 140737488355328) :
    ∃ v1 w1, (Builtin.append_ #[t, t] ty #[v, .slice A m c]).run P W = .ok v1 w1 ∧ w1.ownsRow base e size v1 (n + m) (cs ++ ds) ∧ W.grownBy w1 v.ownBlock ∧ (v1.ownBlock = v.ownBlock ∨ v1.ownBlock = some W.heap.size) := by
  obtain ⟨i0, hi, hzz⟩ := Option.map_eq_some_iff.1 hinfo
  simp only [Prod.mk.injEq] at hzz
  obtain ⟨hz0, hz1, hz2⟩ := hzz
  have hlen : n + m ≤ 140737488355328 := Nat.le_trans (Nat.le_mul_of_pos_right _ hb0) hk
  rcases A with _ | ad
  · have hd : ds = [] := by
      rcases Nat.eq_zero_or_pos ds.length with h0 | h0
      · exact List.eq_nil_of_length_eq_zero h0
      · obtain ⟨ad, h, _⟩ := HC h0
        cases h
    subst hd
    have hm : m = 0 := by
      rcases Nat.eq_zero_or_pos m with h0 | h0
      · exact h0
      · have := Nat.mul_pos h0 hs0
        simp at hl
        omega
    subst hm
    refine ⟨v, W, ?_, by simpa using HO, grown_refl _ _, .inl rfl⟩
    rcases HO.2 with ⟨rfl, rfl⟩ | ⟨g, cap, cur, rfl, _, _, hnc, _⟩
    · simp [Builtin.append_, run_underlying ht, sizeOf, typeInfo, hi, Builtin.lenOf, Builtin.firstCells]
    · simp [Builtin.append_, run_underlying ht, sizeOf, typeInfo, hi, Builtin.lenOf, Builtin.firstCells, hnc, storeCells]
  · have hcells : ∀ j u, ds[j]? = some u → W.cell? (ad.add j) = some u := by
      intro j u hu
      have hj : j < ds.length := (List.getElem?_eq_some_iff.1 hu).1
      obtain ⟨ad', h, hc⟩ := HC (by omega)
      injection h with h
      subst h
      exact hc j u hu
    obtain ⟨v1, w1, hrun, h2, h3, _, h5⟩ := run_append_own_at (P := P) W base t ty e i0 z size bytes ht hi hz0 hz1 hz2 hz hs0 v n cs HO ad m c ds hl hcells h1 (by simp only [maxLen]; omega) hk hbase
    exact ⟨v1, w1, hrun, h2, h3, h5⟩

/-- 'append(v, xs...)': v a row of the call's own, xs any slice that reads. -/
theorem wp_append_cells {w0 W : World} (base : Nat) (hgd : o.guard = none) (s x : Operand) (t e : TypeId) (z : Value) (size bytes : Nat)
    (ho : o.op = .call { callee := .builtin .append, args := #[s, x], argTypes := #[t, t] })
    (ht : P.underlying t = some (.slice e)) (hinfo : (P.info? e).map (fun i => (i.zero, i.size, i.bytes)) = some (some z, size, bytes)) (hz : z.cells.size = size) (hs0 : 0 < size) (hb0 : 0 < bytes)
    (v : Value) (n : Nat) (cs : List Value) (A : Option Addr) (m c : Nat) (ds : List Value) (hs : a.eval s = v) (hx : a.eval x = .slice A m c) (hl : ds.length = m * size) (h1 : ∀ u ∈ ds, u.oneCell' = true)
    (HO : W.ownsRow base e size v n cs) (HC : Cells W A ds) (HB : Below base w0 W) (hbase : base ≤ W.heap.size) (hk : (n + m) * bytes ≤ 140737488355328)
    (h : ∀ v1 w1, w1.ownsRow base e size v1 (n + m) (cs ++ ds) → Below base w0 w1 → W.grownBy w1 v.ownBlock → (v1.ownBlock = v.ownBlock ∨ v1.ownBlock = some W.heap.size) → wpList P ops Q rest (a.put o.dst v1) w1) :
    wpList P ops Q (o :: rest) a W := by
  obtain ⟨v1, w1, hrun, h2, h3, h4⟩ := run_append_cells (P := P) W base t o.type e z size bytes ht hinfo hz hs0 hb0 v n cs A m c ds hl h1 HO HC hbase hk
  refine wpList_plain hgd fun K hK => ?_
  unfold Oper.wp execOp
  simp only [ho, resolve, invoke, builtin, Sem.run_bind, Sem.run_pure, Result.andThen_ok, List.map_toArray, List.map_cons, List.map_nil, hs, hx, hrun]
  exact hK _ _ (h v1 w1 h2 (HB.grown h3 hbase (own_base HO)) h3 h4)

/-- 'append(v, x)': the element's cells have just been laid in a block of their own. -/
theorem wp_append_box {w0 W : World} (base : Nat) (hgd : o.guard = none) (s x : Operand) (t e : TypeId) (z : Value) (size bytes m : Nat)
    (ho : o.op = .call { callee := .builtin .append, args := #[s, x], argTypes := #[t, t] })
    (ht : P.underlying t = some (.slice e)) (hinfo : (P.info? e).map (fun i => (i.zero, i.size, i.bytes)) = some (some z, size, bytes)) (hz : z.cells.size = size) (hs0 : 0 < size) (hb0 : 0 < bytes)
    (v : Value) (n : Nat) (cs : List Value) (ds : List Value) (hs : a.eval s = v) (hx : a.eval x = .slice (some ⟨W.heap.size, 0, none⟩) m m) (hl : ds.length = m * size) (h1 : ∀ u ∈ ds, u.oneCell' = true)
    (HO : W.ownsRow base e size v n cs) (HB : Below base w0 W) (hbase : base ≤ W.heap.size) (hk : (n + m) * bytes ≤ 140737488355328)
    (h : ∀ v1 w1, w1.ownsRow base e size v1 (n + m) (cs ++ ds) → Below base w0 w1 → W.grownBy w1 v.ownBlock → (v1.ownBlock = v.ownBlock ∨ ∃ b, v1.ownBlock = some b ∧ W.heap.size ≤ b) → wpList P ops Q rest (a.put o.dst v1) w1) :
    wpList P ops Q (o :: rest) a (W.alloc (.cells ds.toArray e)) := by
  refine wp_append_cells base hgd s x t e z size bytes ho ht hinfo hz hs0 hb0 v n cs (some ⟨W.heap.size, 0, none⟩) m m ds hs hx hl h1 (HO.alloc _) ?_ (HB.alloc hbase _) (by simp; omega) hk ?_
  · intro _
    refine ⟨_, rfl, fun j u hu => ?_⟩
    have := World.news_of_block (cs := ds.toArray) (t := e) (fr := (0, 0)) (heap_alloc_new W _) j u (by simpa using hu)
    exact this
  · intro v1 w1 hown hB hg hat
    refine h v1 w1 hown hB (World.grownBy.trans (World.grownBy_alloc W _ _) hg) ?_
    rcases hat with hat | hat
    · exact .inl hat
    · exact .inr ⟨_, hat, by simp⟩
end

/-! ### make and copy -/
theorem own_of_block {w : World} {base g n cap size : Nat} {e : TypeId} {cur : List Value} (hg : w.heap[g]? = some (.cells cur.toArray e (0, 0))) (hb : base ≤ g) (hn : n ≤ cap) (hc : cap ≤ 9223372036854775807) (hs : cur.length = cap * size) :
    w.ownsRow base e size (.slice (some ⟨g, 0, none⟩) n cap) n (cur.take (n * size)) :=
  ⟨by rw [List.length_take, hs]; exact Nat.min_eq_left (Nat.mul_le_mul_right _ hn), .inr ⟨g, cap, cur.toArray, rfl, hb, hg, hn, by simpa [maxLen] using hc, by simpa using hs, rfl⟩⟩
section
variable {P : Program} {ops : Array Oper} {rest : List Oper} {o : Oper} {a : Act} {Q : Exit → Act → World → Prop}
theorem wp_make {w0 W : World} (base : Nat) (hgd : o.guard = none) (l c : Operand) (t e : TypeId) (z : Value) (bytes : Nat) (ho : o.op = .makeSlice t l c)
    (ht : P.underlying t = some (.slice e)) (hinfo : (P.info? e).map (fun i => (i.zero, i.size, i.bytes)) = some (some z, 1, bytes)) (hz1 : z.cells = #[z]) (hb0 : 0 < bytes)
    (kl kc : IntKind) (n m : Nat) (hl : a.eval l = .int kl (n : Int)) (hc : a.eval c = .int kc (m : Int)) (hnm : n ≤ m) (hk : m * bytes ≤ 281474976710656) (HB : Below base w0 W) (hbase : base ≤ W.heap.size)
    (h : ∀ w1, w1.heap[W.heap.size]? = some (.cells (List.replicate m z).toArray e (0, 0)) → Below base w0 w1 → W.grownBy w1 none → W.heap.size < w1.heap.size → wpList P ops Q rest (a.put o.dst (.slice (some ⟨W.heap.size, 0, none⟩) n m)) w1) :
    wpList P ops Q (o :: rest) a W := by
  obtain ⟨i0, hi, hzz⟩ := Option.map_eq_some_iff.1 hinfo
  simp only [Prod.mk.injEq] at hzz
  obtain ⟨hz0, hs1, hb1⟩ := hzz
  have hm : m ≤ 281474976710656 := Nat.le_trans (Nat.le_mul_of_pos_right _ hb0) hk
  have hbk : (i0.bytes : Int) * (m : Int) ≤ 281474976710656 := by
    rw [hb1]
    have hk' : bytes * m ≤ 281474976710656 := by rw [Nat.mul_comm]; exact hk
    have : ((bytes * m : Nat) : Int) ≤ 281474976710656 := by omega
    rwa [Int.natCast_mul] at this
  have hr := run_make (P := P) W t e i0 z ht hi hz0 kl kc n m (by omega) (by omega) hbk (by omega)
  rw [hz1, hs1] at hr
  simp only [Int.toNat_natCast, Nat.mul_one] at hr
  clear hbk hk hm
  refine wpList_plain hgd fun K hK => ?_
  unfold Oper.wp execOp
  simp only [ho, hl, hc, hr, Sem.run_bind, Sem.run_pure, Result.andThen_ok]
  have he : madeCells #[z] m = (List.replicate m z).toArray := by
    apply Array.toList_inj.1
    rw [toList_madeCells_one]
  refine hK _ _ (h _ ?_ (HB.alloc hbase _) (World.grownBy_alloc W _ _) (by simp))
  rw [← he]
  exact heap_alloc_new W _
/-- For an arm of the walk: it fails at once at any other operation. -/
theorem gate {W : World} (b : Builtin) (xs : Array Operand) {ts : Array TypeId} (_ho : o.op = .call { callee := .builtin b, args := xs, argTypes := ts }) (h : wpList P ops Q (o :: rest) a W) : wpList P ops Q (o :: rest) a W := h

/-- 'copy(d, s)': d lies in a block that is known whole; s any slice that reads: as many cells as the shorter of the two has go over. -/
theorem wp_copy {w0 W : World} (base : Nat) (hgd : o.guard = none) (d s : Operand) (dT sT : TypeId) (elem : TypeId) (z : Value) (bytes : Nat)
    (ho : o.op = .call { callee := .builtin .copy, args := #[d, s], argTypes := #[dT, sT] }) (hu : P.underlying dT = some (.slice elem)) (hinfo : (P.info? elem).map (fun i => (i.zero, i.size, i.bytes)) = some (some z, 1, bytes))
    (dp sp : Option Addr) (dLen dCap sLen sCap : Nat) (hd : a.eval d = .slice dp dLen dCap) (hs : a.eval s = .slice sp sLen sCap)
    (g off : Nat) (cur : List Value) (t : TypeId) (hg : W.heap[g]? = some (.cells cur.toArray t (0, 0))) (cs : List Value) (hn : cs.length = Nat.min sLen dLen) (hdp : 0 < cs.length → dp = some ⟨g, off, none⟩) (hC : Cells W sp cs)
    (hfit : off + cs.length ≤ cur.length) (h1 : ∀ v ∈ cs, v.oneCell' = true) (hb : Below base w0 W) (hBg : base ≤ g)
    (h : ∀ w', w'.heap[g]? = some (.cells (splice cur off cs).toArray t (0, 0)) → Below base w0 w' → W.grownBy w' (some g) → wpList P ops Q rest (a.put o.dst (goInt cs.length)) w') :
    wpList P ops Q (o :: rest) a W := by
  have hsz : (P.info? elem).map (·.size) = some 1 := by
    obtain ⟨i0, hi, hzz⟩ := Option.map_eq_some_iff.1 hinfo
    simp only [Prod.mk.injEq] at hzz
    rw [hi]
    simp [hzz.2.1]
  by_cases h0 : cs.length = 0
  · obtain rfl : cs = [] := List.eq_nil_of_length_eq_zero h0
    refine wpList_copy_nothing hgd d s dT sT ho elem hu hsz dp sp dLen dCap sLen sCap hd hs (by simpa using hn.symm) ?_
    exact h W (by simpa [splice] using hg) hb (grown_refl _ _)
  · obtain ⟨ad, rfl, hsrc⟩ := hC (by omega)
    obtain rfl := hdp (by omega)
    refine wpList_copy_own hgd d s dT sT ho elem hu hsz g off dLen dCap ad sLen sCap hd hs cur.toArray t hg cs hn hsrc (by simpa using hfit) h1 ?_
    refine h _ ?_ (below_setRow hb hBg _) ⟨rfl, rfl, rfl, by simp [World.setRow], fun k hk hne => setRow_other W g k _ (fun e => hne (by rw [e]))⟩
    have := setRow_heap W g cur.toArray (splice cur off cs).toArray t (0, 0) hg
    simpa [splice] using this
theorem one_int (k : IntKind) (x : Int) : ∀ u ∈ [Value.int k x], u.oneCell' = true := by
  intro u hu
  simp at hu
  subst hu
  rfl
end
end Go.Proofs.Ytobddmpiljknpaa

namespace Go.Proofs.Ytobddmpiljknpaa
open Go.RowKit
set_option linter.unusedVariables false
set_option linter.unusedSimpArgs false

theorem info_u8 : (Try.prog.info? 5).map (fun i => (i.zero, i.size, i.bytes)) = some (some (.int .u8 0), 1, 1) := by kernel_rfl

theorem take_eq_succ {xs ys : List Int} {k : Nat} (h : xs.take k = ys.take k) (hk : k < xs.length) (hk' : k < ys.length) (e : xs.getD k 0 = ys.getD k 0) : xs.take (k + 1) = ys.take (k + 1) := by
  rw [List.take_add_one, List.take_add_one, h]
  simp only [List.getD_eq_getElem?_getD, List.getElem?_eq_getElem hk, List.getElem?_eq_getElem hk', Option.getD_some] at e ⊢
  rw [e]
theorem ret_bool {a b : Bool} (h : a = b) : Ending.returned (.bool a) = .returned (.bool b) := by rw [h]

set_option maxHeartbeats 400000 in
theorem same_any (A B : Option Addr) (n m c d : Nat) (xs ys : List Int) (hn : xs.length = n) (hm : ys.length = m) (hn' : n ≤ 9223372036854775807) (hm' : m ≤ 9223372036854775807)
    (w : World) (hx : Cells w A (nums .u8 xs)) (hy : Cells w B (nums .u8 ys)) :
    Calls Try.prog 21 #[.slice A n c, .slice B m d] w fun e w' => e = .returned (.bool (decide (xs = ys))) ∧ Drawn w w' := by
  by_cases h : n = m
  · subst h
    have Hn := Lib.hid hn
    have Hm := Lib.hid hm
    clear hn hm
    go_enter Try.func21, Try.ntmps21
    go_wp2
    go_loopw [5] (fun i wr => ∃ k : Nat, i = .int .i64 k ∧ k ≤ n ∧ Hid (xs.take k = ys.take k) ∧ Hid (Drawn w wr)) (fun i _ => n - (intOf i).toNat)
    case atStart => exact ⟨0, rfl, by omega, rfl, Drawn.refl _⟩
    case round =>
      obtain ⟨k, rfl, hk, hT, hD⟩ := hrel
      by_cases hlt : k < n
      · obtain ⟨ad, rfl, hc⟩ := (hx.drawn hD.out).num (by rw [Hn.out]; exact hlt)
        obtain ⟨bd, rfl, hd⟩ := (hy.drawn hD.out).num (by rw [Hm.out]; exact hlt)
        generalize hX : xs.getD k 0 = X at *
        generalize hY : ys.getD k 0 = Y at *
        have HX := Lib.hid hX
        have HY := Lib.hid hY
        clear hX hY
        go_wp2
        go_quiet (fail)
        go_wp2
        · have hne : (X != Y) = true := by assumption
          go_ret
          refine ⟨ret_bool ?_, hD.out.drewN _⟩
          rw [decide_eq_false]
          rintro rfl
          rw [← HX.out, ← HY.out] at hne
          simp at hne
        · have hne : (X != Y) = false := by assumption
          have hXY : X = Y := by simpa using hne
          go_roundw
          case rel => exact ⟨k + 1, by go_num, by omega, take_eq_succ hT.out (by rw [Hn.out]; exact hlt) (by rw [Hm.out]; exact hlt) (by rw [HX.out, HY.out, hXY]), hD.out.drewN _⟩
          case measure => simp [intOf]; omega
      · go_wp2
        go_ret
        refine ⟨ret_bool ?_, hD.out⟩
        obtain rfl : k = n := by omega
        have hT := hT.out
        rw [List.take_of_length_le (by rw [Hn.out]; omega), List.take_of_length_le (by rw [Hm.out]; omega)] at hT
        simp [hT]
  · have hne : ((n : Int) != (m : Int)) = true := by simp only [bne_iff_ne, ne_eq]; omega
    go_enter Try.func21, Try.ntmps21
    go_wp2
    go_ret
    refine ⟨?_, 0, rfl⟩
    rw [decide_eq_false]
    · rfl
    rintro rfl
    omega
set_option maxHeartbeats 400000 in
/-- Lent: a copy, with 77 behind it. -/
theorem lent_any (A : Option Addr) (n c : Nat) (xs : List Int) (hn : xs.length = n) (hn' : n ≤ 140737488351232) (w : World) (hx : Cells w A (nums .u8 xs)) :
    Calls Try.prog 13 #[.slice A n c] w fun e w' => ∃ g cap, e = .returned (.slice (some ⟨g, 0, none⟩) n cap) ∧ n < cap ∧
      w'.ownsRow w.heap.size 5 1 (.slice (some ⟨g, 0, none⟩) (n + 1) cap) (n + 1) (nums .u8 (xs ++ [77])) ∧ Below w.heap.size w w' := by
  have Hn := Lib.hid hn
  clear hn
  go_enter Try.func13, Try.ntmps13
  go_wp2_with (first
    | (at_builtin
       refine wp_append_cells (w0 := w) w.heap.size rfl (.tmp 4) (.tmp 5) 22 5 (.int .u8 0) 1 1 rfl Try.underlying22 info_u8 rfl (by decide) (by decide) (.slice none 0 0) 0 [] A n c (nums .u8 xs) rfl rfl ?_ (nums_one _ _) (own_nil _ _ _ _) hx (Below.refl _ _) (Nat.le_refl _) ?_ ?_
       · rw [nums_length, Hn.out, Nat.mul_one]
       · omega
       intro v1 w1 ho1 hb1 hg1 hat1
       rw [List.nil_append, Nat.zero_add] at ho1
       have HO1 := Lib.hid ho1
       clear ho1 hg1 hat1 hx
       have hs1 := hb1.size)
    | (at_builtin
       refine wp_append_box (w0 := w) w.heap.size rfl (.tmp 7) (.tmp 8) 22 5 (.int .u8 0) 1 1 1 rfl Try.underlying22 info_u8 rfl (by decide) (by decide) v1 n (nums .u8 xs) [.int .u8 77] rfl rfl rfl ?_ HO1.out hb1 hb1.size ?_ ?_
       · intro u hu
         simp at hu
         subst hu
         rfl
       · omega
       intro v2 w2 ho2 hb2 hg2 hat2
       obtain ⟨g, cap, rfl, hbg, hgl, hcap⟩ := own_form ho2 (by omega)
       have HO2 := Lib.hid ho2
       clear ho2 hg2 hat2 HO1 hb1))
  go_ret
  exact ⟨g, cap, rfl, by omega, by rw [nums_append]; exact HO2.out, hb2⟩
set_option maxHeartbeats 400000 in
/-- Kept: it is, where the copy is as it was lent. -/
theorem kept_true (g cap n m d base : Nat) (B : Option Addr) (xs : List Int) (hn : xs.length = n) (hm : n = m) (hc : n < cap) (hn' : n ≤ 140737488351232) (w : World)
    (ho : w.ownsRow base 5 1 (.slice (some ⟨g, 0, none⟩) (n + 1) cap) (n + 1) (nums .u8 (xs ++ [77]))) (hx : Cells w B (nums .u8 xs)) :
    Calls Try.prog 17 #[.slice (some ⟨g, 0, none⟩) n cap, .slice B m d] w fun e w' => e = .returned (.bool true) ∧ Drawn w w' := by
  subst hm
  have hcs : Cells w (some ⟨g, 0, none⟩) (nums .u8 xs) := by
    have := own_cells ho
    rw [nums_append] at this
    exact this.left
  have hcell : w.cell? ⟨g, n, none⟩ = some (.int .u8 77) := by
    have := ho.cellAt n (by omega)
    rw [this, nums_get _ _ _ (by simp [hn]), List.getD_eq_getElem?_getD, List.getElem?_append_right (by omega), hn]
    simp
  have HO := Lib.hid ho
  have Hn := Lib.hid hn
  clear ho hn
  go_enter Try.func17, Try.ntmps17
  go_wp2_with fail
  refine (same_any _ _ _ _ _ _ xs xs Hn.out Hn.out (by omega) (by omega) w hcs hx).mono ?_
  rintro e w' ⟨rfl, q, rfl⟩
  simp only [decide_true]
  go_wp2
  go_ret
  exact ⟨rfl, q, rfl⟩
set_option maxHeartbeats 400000 in
/-- Spoil: it writes into the row alone. -/
theorem spoil_any (A : Option Addr) (n c base : Nat) (xs : List Int) (w : World) (hn' : n ≤ 140737488355300)
    (ho : w.ownsRow base 5 1 (.slice A n c) n (nums .u8 xs)) :
    Calls Try.prog 22 #[.slice A n c] w fun e w' => e = .returned (.tuple #[]) ∧ w.grownBy w' (Value.slice A n c).ownBlock := by
  have HO := Lib.hid (own_weaken ho (Nat.zero_le _))
  clear ho
  go_enter Try.func22, Try.ntmps22
  go_wp2
  go_loopw [2] (fun i wr => ∃ k : Nat, i = .int .i64 k ∧ k ≤ n ∧ Hid (∃ ys, wr.ownsRow 0 5 1 (.slice A n c) n (nums .u8 ys)) ∧ Hid (w.grownBy wr (Value.slice A n c).ownBlock)) (fun i _ => n - (intOf i).toNat)
  case atStart => exact ⟨0, rfl, by omega, ⟨_, HO.out⟩, grown_refl _ _⟩
  case round =>
    obtain ⟨k, rfl, hk, hO, hG⟩ := hrel
    obtain ⟨ys, hys⟩ := hO.out
    by_cases hlt : k < n
    · obtain ⟨g, c', hv, hbg, hgl, hcap⟩ := own_form hys (by omega)
      injection hv with hA _ hcc
      subst hA
      subst hcc
      have hyl : ys.length = n := by have := own_len1 hys; rwa [nums_length] at this
      have hc := hys.cellAt k (by omega)
      rw [nums_get _ _ _ (by omega)] at hc
      have hf := hys.frozenAt k
      generalize ys.getD k 0 = X at *
      have HY := Lib.hid hys
      clear hys hyl
      go_wp2
      go_roundw
      case rel =>
        have h := (HY.out.stored k (.int .u8 (bits BinOp.xor IntKind.u8 X 90))).1
        rw [← nums_set] at h
        exact ⟨k + 1, by go_num, by omega, ⟨_, h⟩, grown_setCell (p := ⟨g, k, none⟩) hG.out (.inr rfl) _⟩
      case measure => simp [intOf]; omega
    · obtain rfl : n = k := by omega
      have hl : ys.length = n := by have := own_len1 hys; rwa [nums_length] at this
      have HL := Lib.hid hl
      have HY := Lib.hid hys
      clear hl hys
      go_wp2_with
        (at_builtin
         refine wp_append_box (w0 := wr) 0 rfl (.tmp 17) (.tmp 18) 22 5 (.int .u8 0) 1 1 1 rfl Try.underlying22 info_u8 rfl (by decide) (by decide) (.slice A n c) n (nums .u8 ys) [.int .u8 99] rfl rfl rfl ?_ HY.out (Below.refl _ _) (Nat.zero_le _) ?_ ?_
         · intro u hu
           simp at hu
           subst hu
           rfl
         · omega
         intro v2 w2 ho2 hb2 hg2 hat2
         obtain ⟨g, cap, rfl, hbg, hgl, hcap⟩ := own_form ho2 (by omega)
         have hc : w2.cell? ⟨g, n, none⟩ = some (.int .u8 99) := by
           rw [ho2.cellAt n (by omega), List.getElem?_append_right (by rw [nums_length, HL.out]; omega)]
           simp [nums_length, HL.out]
         have hf := ho2.frozenAt n
         have HG2 := Lib.hid (grown_trans_row hG.out hg2 (.inl rfl))
         have HA2 : Hid (w.heap.size ≤ g ∨ some g = (Value.slice A n c).ownBlock) := by
           rcases hat2 with h | ⟨b, h, hb⟩
           · exact .inr h
           · injection h with h
             subst h
             exact .inl (Nat.le_trans hG.out.size hb)
         clear hb2 hat2 hg2 ho2)
      go_end0
      exact ⟨rfl, grown_setCell HG2.out HA2.out _⟩
end Go.Proofs.Ytobddmpiljknpaa

namespace Go.Proofs.Ytobddmpiljknpaa
open Go.RowKit

section
variable {w w1 : World} {g : Nat} {t : TypeId} {cs : Array Value}
theorem at_cell (h : w.heap[g]? = some (.cells cs t (0, 0))) (i : Nat) : w.cell? ⟨g, i, none⟩ = cs[i]? := cell_of_row w g i cs t (0, 0) h
theorem at_frozen (h : w.heap[g]? = some (.cells cs t (0, 0))) (i : Nat) : w.frozen? ⟨g, i, none⟩ = false := by simp [World.frozen?, h]
theorem at_set (h : w.heap[g]? = some (.cells cs t (0, 0))) (i : Nat) (u : Value) : (w.setCell ⟨g, i, none⟩ u).heap[g]? = some (.cells (cs.setIfInBounds i u) t (0, 0)) := by
  simp [World.setCell, Array.getElem?_modify, h]
theorem at_other {k : Nat} {p : Addr} (u : Value) {o : Obj} (h : w.heap[k]? = some o) (hne : k ≠ p.block) : (w.setCell p u).heap[k]? = some o := by
  rw [Below.heap_setCell _ _ _ _ hne]
  exact h
theorem at_lt {o : Obj} (h : w.heap[g]? = some o) : g < w.heap.size := (Array.getElem?_eq_some_iff.1 h).1
theorem at_below {o : Obj} (h : w.heap[g]? = some o) (hb : Below w.heap.size w w1) : w1.heap[g]? = some o := (hb.block g (at_lt h)).trans h
theorem at_drewN {o : Obj} (h : w.heap[g]? = some o) (n : Nat) : (w.drewN n).heap[g]? = some o := h
theorem at_new (w : World) (o : Obj) : (w.alloc o).heap[w.heap.size]? = some o := heap_alloc_new w o
theorem below_set3 {B : Nat} {b : Nat} (h : Below B w w1) (hb : B ≤ b) (i j k : Nat) (x y z : Value) : Below B w (((w1.setCell ⟨b, i, none⟩ x).setCell ⟨b, j, none⟩ y).setCell ⟨b, k, none⟩ z) :=
  ((h.setCell (p := ⟨b, i, none⟩) hb x).setCell (p := ⟨b, j, none⟩) hb y).setCell (p := ⟨b, k, none⟩) hb z
theorem below_set2 {B : Nat} {b : Nat} (h : Below B w w1) (hb : B ≤ b) (i j : Nat) (x y : Value) : Below B w ((w1.setCell ⟨b, i, none⟩ x).setCell ⟨b, j, none⟩ y) :=
  (h.setCell (p := ⟨b, i, none⟩) hb x).setCell (p := ⟨b, j, none⟩) hb y
theorem below_set1 {B : Nat} {b : Nat} (h : Below B w w1) (hb : B ≤ b) (i : Nat) (x : Value) : Below B w (w1.setCell ⟨b, i, none⟩ x) := h.setCell (p := ⟨b, i, none⟩) hb x
/-- A row of the call's own lies in blocks that are older than a further one. -/
theorem own_setCell {base n size : Nat} {e : TypeId} {v : Value} {ds : List Value} (h : w.ownsRow base e size v n ds) {p : Addr} (hp : v.ownBlock ≠ some p.block) (u : Value) : (w.setCell p u).ownsRow base e size v n ds :=
  h.kept (grown_setCell (row := some p.block) (grown_refl w _) (.inr rfl) u) (.inr hp)
end

/-- 'append(v, xs...)' as one step of a region that draws its order. -/
theorem step_append {P : Program} {ops : Array Oper} {o : Oper} {a : Act} {W : World} {K : Act → World → Prop} {Q : Exit → Act → World → Prop} {F : Prop} (base : Nat) (hgd : o.guard = none) (s x : Operand) (t e : TypeId) (z : Value) (size bytes : Nat)
    (ho : o.op = .call { callee := .builtin .append, args := #[s, x], argTypes := #[t, t] })
    (ht : P.underlying t = some (.slice e)) (hinfo : (P.info? e).map (fun i => (i.zero, i.size, i.bytes)) = some (some z, size, bytes)) (hz : z.cells.size = size) (hs0 : 0 < size) (hb0 : 0 < bytes)
    (v : Value) (n : Nat) (cs : List Value) (A : Option Addr) (m c : Nat) (ds : List Value) (hs : a.eval s = v) (hx : a.eval x = .slice A m c) (hl : ds.length = m * size) (h1 : ∀ u ∈ ds, u.oneCell' = true)
    (HO : W.ownsRow base e size v n cs) (HC : Cells W A ds) (hbase : base ≤ W.heap.size) (hk : (n + m) * bytes ≤ 140737488355328)
    (h : ∀ v1 w1, w1.ownsRow base e size v1 (n + m) (cs ++ ds) → W.grownBy w1 v.ownBlock → (v1.ownBlock = v.ownBlock ∨ v1.ownBlock = some W.heap.size) → K (a.put o.dst v1) w1) :
    if Region.wanted o (yielded ops a.tmps) = true then Oper.wp P o a W K Q else F := by
  have hw : Region.wanted o (yielded ops a.tmps) = true := by simp [Region.wanted, hgd]
  rw [if_pos hw]
  obtain ⟨v1, w1, hrun, h2, h3, h4⟩ := run_append_cells (P := P) W base t o.type e z size bytes ht hinfo hz hs0 hb0 v n cs A m c ds hl h1 HO HC hbase hk
  unfold Oper.wp execOp
  simp only [ho, resolve, invoke, builtin, Sem.run_bind, Sem.run_pure, Result.andThen_ok, List.map_toArray, List.map_cons, List.map_nil, hs, hx, hrun]
  exact h _ _ h2 h3 h4
/-- A call of a function that is met by its contract, as one step of a region that draws its order. -/
theorem step_call {P : Program} {ops : Array Oper} {o : Oper} {a : Act} {W : World} {K : Act → World → Prop} {Q : Exit → Act → World → Prop} {F : Prop} (hgd : o.guard = none) {f : FuncId} {fn : Func} (hf : P.funcs[f]? = some fn) (hfn : (fn.name == "runtime.NumGoroutine") = false) (hfb : fn.body.isNone = false) (xs : Array Operand) (ts : Array TypeId)
    (ho : o.op = .call { callee := .value (.func f), args := xs, argTypes := ts }) (vs : Array Value) (hvs : xs.map a.eval = vs) {R : Ending → World → Prop} (hc : Calls P f vs W R) (h : ∀ e w', R e w' → ∃ v, e = .returned v ∧ K (a.put o.dst v) w') :
    if Region.wanted o (yielded ops a.tmps) = true then Oper.wp P o a W K Q else F := by
  have hw : Region.wanted o (yielded ops a.tmps) = true := by simp [Region.wanted, hgd]
  rw [if_pos hw]
  have hrun : (execOp a.eval o).run P W = .ok (.enter f vs) W := by
    unfold execOp
    simp only [ho]
    have h1 : ¬ fn.name = "runtime.NumGoroutine" := by simpa using hfn
    have h2 : ¬ fn.body = none := by intro he; rw [he] at hfb; cases hfb
    simp [resolve, invoke, hvs, Deferred.ofValue, callFunc, Act.eval, hf, h1, h2]
  unfold Oper.wp
  rw [hrun, Oper.upon_enter]
  refine hc.mono ?_
  intro e w' hR
  obtain ⟨v, rfl, hk⟩ := h e w' hR
  exact hk
theorem grown_undrew {w w2 : World} {row : Option Nat} (h : w.drew.grownBy w2 row) : w.grownBy w2 row := ⟨h.os, h.tape, h.output, h.size, h.block⟩
theorem below_of_grown {B : Nat} {w w1 : World} {row : Option Nat} (h : w.grownBy w1 row) (hB : B ≤ w.heap.size) (hr : ∀ k, row = some k → B ≤ k) : Below B w w1 := (Below.refl B w).grown h hB hr
/-- 'append(v, x)' where the size of the world is spelled in another way. -/
theorem wp_append_box2 {P : Program} {ops : Array Oper} {rest : List Oper} {o : Oper} {a : Act} {Q : Exit → Act → World → Prop} {w0 W : World} (g : Nat) (hg : W.heap.size = g) (base : Nat) (hgd : o.guard = none) (s x : Operand) (t e : TypeId) (z : Value) (size bytes m : Nat)
    (ho : o.op = .call { callee := .builtin .append, args := #[s, x], argTypes := #[t, t] })
    (ht : P.underlying t = some (.slice e)) (hinfo : (P.info? e).map (fun i => (i.zero, i.size, i.bytes)) = some (some z, size, bytes)) (hz : z.cells.size = size) (hs0 : 0 < size) (hb0 : 0 < bytes)
    (v : Value) (n : Nat) (cs : List Value) (ds : List Value) (hs : a.eval s = v) (hx : a.eval x = .slice (some ⟨g, 0, none⟩) m m) (hl : ds.length = m * size) (h1 : ∀ u ∈ ds, u.oneCell' = true)
    (HO : W.ownsRow base e size v n cs) (HB : Below base w0 W) (hbase : base ≤ W.heap.size) (hk : (n + m) * bytes ≤ 140737488355328)
    (h : ∀ v1 w1, w1.ownsRow base e size v1 (n + m) (cs ++ ds) → Below base w0 w1 → W.grownBy w1 v.ownBlock → (v1.ownBlock = v.ownBlock ∨ ∃ b, v1.ownBlock = some b ∧ W.heap.size ≤ b) → wpList P ops Q rest (a.put o.dst v1) w1) :
    wpList P ops Q (o :: rest) a (W.alloc (.cells ds.toArray e)) := by
  subst hg
  exact wp_append_box base hgd s x t e z size bytes m ho ht hinfo hz hs0 hb0 v n cs ds hs hx hl h1 HO HB hbase hk h
end Go.Proofs.Ytobddmpiljknpaa

namespace Go.Proofs.Ytobddmpiljknpaa
open Go.RowKit

/-- All blocks of w stand in w' as they stood. -/
class Ext (w w' : World) : Prop where
  out : Below w.heap.size w w'
/-- w' has come out of w by a call (or by more than one). -/
class Step (w' : World) (w : outParam World) : Prop where
  out : Below w.heap.size w w'
instance Ext.refl_ (w : World) : Ext w w := ⟨Below.refl _ _⟩
instance Ext.alloc_ (w w' : World) (o : Obj) [h : Ext w w'] : Ext w (w'.alloc o) := ⟨h.out.alloc h.out.size o⟩
instance Ext.drew_ (w w' : World) [h : Ext w w'] : Ext w w'.drew := ⟨below_drewN h.out 1⟩
instance Ext.drewN_ (w w' : World) (n : Nat) [h : Ext w w'] : Ext w (w'.drewN n) := ⟨below_drewN h.out n⟩
instance Ext.step_ (w w1 w' : World) [k : Step w' w1] [h : Ext w w1] : Ext w w' := ⟨h.out.trans (k.out.mono h.out.size)⟩
theorem Ext.trans_ {w w1 w2 : World} (h : Ext w w1) (k : Ext w1 w2) : Ext w w2 := ⟨h.out.trans (k.out.mono h.out.size)⟩
theorem Step.drawn {w w' : World} (h : Drawn w w') : Step w' w := ⟨h.below⟩
/-- A store into what is younger. -/
instance Ext.set_ (w w1 w' : World) (i : Nat) (u : Value) [k : Ext w w1] [h : Ext w w'] : Ext w (w'.setCell ⟨w1.heap.size, i, none⟩ u) := ⟨h.out.setCell (p := ⟨w1.heap.size, i, none⟩) k.out.size u⟩
instance Ext.setp_ (w w1 w' : World) (j i : Nat) (u : Value) [k : Ext w w1] [h : Ext w w'] : Ext w (w'.setCell ⟨w1.heap.size + j, i, none⟩ u) := ⟨h.out.setCell (p := ⟨w1.heap.size + j, i, none⟩) (Nat.le_trans k.out.size (Nat.le_add_right _ _)) u⟩
theorem at_new1 {w : World} {o : Obj} {g : Nat} (h : w.heap.size = g) : (w.alloc o).heap[g]? = some o := by
  subst h
  exact at_new w o
theorem own_young {w : World} {base n size : Nat} {e : TypeId} {v : Value} {cs : List Value} {p : Addr} {u : Value} (h : w.ownsRow base e size v n cs) (hp : p.block < base) : (w.setCell p u).ownsRow base e size v n cs :=
  own_setCell h (fun he => by have := own_base h _ he; omega) u
theorem at_set2 {w : World} {g : Nat} {t : TypeId} {x y : Value} (a b : Value) (h : w.heap[g]? = some (.cells #[x, y] t (0, 0))) : ((w.setCell ⟨g, 0, none⟩ a).setCell ⟨g, 1, none⟩ b).heap[g]? = some (.cells #[a, b] t (0, 0)) := at_set (at_set h 0 a) 1 b
theorem at_set3 {w : World} {g : Nat} {t : TypeId} {x y z : Value} (a b c : Value) (h : w.heap[g]? = some (.cells #[x, y, z] t (0, 0))) : (((w.setCell ⟨g, 0, none⟩ a).setCell ⟨g, 1, none⟩ b).setCell ⟨g, 2, none⟩ c).heap[g]? = some (.cells #[a, b, c] t (0, 0)) := at_set (at_set (at_set h 0 a) 1 b) 2 c
section
variable {w w' : World} {A : Option Addr} {cs : List Value}
theorem Cells.ext [h : Ext w w'] (k : Cells w A cs) : Cells w' A cs := k.below h.out
theorem own_ext {base n size : Nat} {e : TypeId} {v : Value} [h : Ext w w'] (k : w.ownsRow base e size v n cs) : w'.ownsRow base e size v n cs := own_below k h.out
theorem cell_ext {p : Addr} {u : Value} [h : Ext w w'] (k : w.cell? p = some u) : w'.cell? p = some u := (h.out.cell (World.block_lt_of_cell? _ _ k)).trans k
theorem at_ext {g : Nat} {o : Obj} [h : Ext w w'] (k : w.heap[g]? = some o) : w'.heap[g]? = some o := at_below k h.out
theorem size_ext [h : Ext w w'] : w.heap.size ≤ w'.heap.size := h.out.size
/-- What was written lies in a row that is younger than w0. -/
theorem Step.wrote {w0 w w1 : World} {row : Option Nat} [h : Ext w0 w] (hg : w.grownBy w1 row) (hr : ∀ k, row = some k → w0.heap.size ≤ k) : Step w1 w0 := ⟨below_grown h.out h.out.size hg hr⟩
end
end Go.Proofs.Ytobddmpiljknpaa

namespace Go.Proofs.Ytobddmpiljknpaa
set_option linter.unusedVariables false
set_option linter.unusedSimpArgs false

/-- All are bytes. -/
def Byt (xs : List Int) : Prop := ∀ x ∈ xs, 0 ≤ x ∧ x < 256
theorem Byt.nil_ : Byt [] := fun _ h => by cases h
theorem Byt.take {xs : List Int} (h : Byt xs) (k : Nat) : Byt (xs.take k) := fun x hx => h x (List.mem_of_mem_take hx)
theorem Byt.drop {xs : List Int} (h : Byt xs) (k : Nat) : Byt (xs.drop k) := fun x hx => h x (List.mem_of_mem_drop hx)
theorem Byt.append {xs ys : List Int} (h : Byt xs) (k : Byt ys) : Byt (xs ++ ys) := fun x hx => by
  rcases List.mem_append.1 hx with hx | hx
  · exact h x hx
  · exact k x hx
theorem Byt.left {xs ys : List Int} (h : Byt (xs ++ ys)) : Byt xs := fun x hx => h x (List.mem_append_left _ hx)
theorem Byt.right {xs ys : List Int} (h : Byt (xs ++ ys)) : Byt ys := fun x hx => h x (List.mem_append_right _ hx)
theorem Byt.one {x : Int} (h : 0 ≤ x) (h' : x < 256) : Byt [x] := fun y hy => by
  simp at hy
  subst hy
  exact ⟨h, h'⟩
theorem Byt.cons {x : Int} {xs : List Int} (h : 0 ≤ x) (h' : x < 256) (k : Byt xs) : Byt (x :: xs) := fun y hy => by
  rcases List.mem_cons.1 hy with rfl | hy
  · exact ⟨h, h'⟩
  · exact k y hy
theorem Byt.head {x : Int} {xs : List Int} (h : Byt (x :: xs)) : 0 ≤ x ∧ x < 256 := h x (by simp)
theorem Byt.tail {x : Int} {xs : List Int} (h : Byt (x :: xs)) : Byt xs := fun y hy => h y (by simp [hy])
theorem getD_mem {xs : List Int} {k : Nat} (h : k < xs.length) : xs.getD k 0 ∈ xs := by
  rw [List.getD_eq_getElem?_getD, List.getElem?_eq_getElem h]
  exact List.getElem_mem h
theorem Byt.getD {xs : List Int} (h : Byt xs) (k : Nat) : 0 ≤ xs.getD k 0 ∧ xs.getD k 0 < 256 := by
  by_cases hk : k < xs.length
  · exact h _ (getD_mem hk)
  · rw [List.getD_eq_getElem?_getD, List.getElem?_eq_none (by omega)]
    simp
theorem take_succ_getD {xs : List Int} {k : Nat} (h : k < xs.length) : xs.take (k + 1) = xs.take k ++ [xs.getD k 0] := by
  rw [List.take_add_one, List.getD_eq_getElem?_getD, List.getElem?_eq_getElem h]
  simp

/-- The number that bytes are, the first one the greatest. -/
def getN (xs : List Int) : Int := xs.foldl (fun n c => n * 256 + c) 0
theorem getN_snoc (xs : List Int) (x : Int) : getN (xs ++ [x]) = getN xs * 256 + x := by simp [getN, List.foldl_append]
theorem getN_bound : ∀ (k : Nat) (xs : List Int), Byt xs → xs.length ≤ k → 0 ≤ getN xs ∧ getN xs < 256 ^ k
  | 0, xs, _, h => by
    have : xs = [] := List.eq_nil_of_length_eq_zero (by omega)
    subst this
    simp [getN]
  | k + 1, xs, hb, h => by
    rcases List.eq_nil_or_concat xs with rfl | ⟨ys, y, rfl⟩
    · simp only [getN, List.foldl_nil, Int.le_refl, true_and]
      exact Int.pow_pos (by decide)
    · rw [List.concat_eq_append] at *
      rw [getN_snoc]
      have ih := getN_bound k ys hb.left (by simp at h; omega)
      have hy := hb.right y (by simp)
      rw [Int.pow_succ]
      generalize (256 : Int) ^ k = M at *
      omega

theorem wraps_u64 (n : Int) (h₀ : 0 ≤ n) (h₁ : n < 2 ^ 64) : IntKind.u64.wrap n = n := by rw [IntKind.wrap_u64]; omega
theorem wraps_u32 (n : Int) (h₀ : 0 ≤ n) (h₁ : n < 2 ^ 32) : IntKind.u32.wrap n = n := by rw [IntKind.wrap_u32]; omega
theorem or_u64_byte {n x : Int} (h0 : 0 ≤ n) (h1 : n < 256 ^ 7) (h2 : 0 ≤ x) (h3 : x < 256) : bits .or .u64 (n * 256) x = n * 256 + x :=
  bits_join .u64 64 (by decide) wraps_u64 8 (n * 256) x (by omega) (by omega) (by omega) h2 (by omega) (by omega)
theorem or_u8_nib {h l : Int} (h0 : 0 ≤ h) (h1 : h < 16) (h2 : 0 ≤ l) (h3 : l < 16) : bits .or .u8 (h * 16) l = h * 16 + l :=
  bits_join .u8 8 (by decide) wraps_u8 4 (h * 16) l (by omega) (by omega) (by omega) h2 (by omega) (by omega)

/-- The last s bytes of a number, the greatest first. -/
def be (n : Int) : Nat → List Int
  | 0 => []
  | s + 1 => n / 256 ^ s % 256 :: be n s
theorem be_length (n : Int) : ∀ s, (be n s).length = s
  | 0 => rfl
  | s + 1 => by simp [be, be_length n s]
theorem be_byt (n : Int) : ∀ s, Byt (be n s)
  | 0 => Byt.nil_
  | s + 1 => Byt.cons (by omega) (by omega) (be_byt n s)
theorem be_snoc (n : Int) (h : 0 ≤ n) : ∀ s, be n (s + 1) = be (n / 256) s ++ [n % 256]
  | 0 => by simp [be]
  | s + 1 => by
    have h1 : n / 256 ^ (s + 1) = n / 256 / 256 ^ s := by
      rw [Int.pow_succ, Int.mul_comm, Int.ediv_ediv_of_nonneg (by decide)]
    have ih := be_snoc n h s
    show n / 256 ^ (s + 1) % 256 :: be n (s + 1) = (n / 256 / 256 ^ s % 256 :: be (n / 256) s) ++ [n % 256]
    rw [ih, h1]
    rfl
theorem getN_be : ∀ (s : Nat) (n : Int), 0 ≤ n → getN (be n s) = n % 256 ^ s
  | 0, n, h => by simp [be, getN, Int.emod_one]
  | s + 1, n, h => by
    rw [be_snoc n h, getN_snoc, getN_be s (n / 256) (by omega), Int.pow_succ]
    have hp : (0 : Int) < 256 ^ s := Int.pow_pos (by decide)
    generalize (256 : Int) ^ s = M at *
    have h1 := Int.emod_add_mul_ediv n 256
    have h2 := Int.emod_add_mul_ediv (n / 256) M
    have h3 : n / 256 / M = n / (M * 256) := by rw [Int.mul_comm M 256, Int.ediv_ediv_of_nonneg (by decide)]
    have h4 := Int.emod_add_mul_ediv n (M * 256)
    rw [h3] at h2
    generalize n / (M * 256) = q at *
    have h5 : M * 256 * q = M * q * 256 := by rw [Int.mul_assoc, Int.mul_comm 256 q, ← Int.mul_assoc]
    rw [h5] at h4
    generalize M * q = r at *
    omega
theorem be_getN_len : ∀ (k : Nat) (xs : List Int), xs.length = k → Byt xs → be (getN xs) k = xs
  | 0, xs, h, _ => by rw [List.eq_nil_of_length_eq_zero h]; rfl
  | k + 1, xs, h, hb => by
    rcases List.eq_nil_or_concat xs with rfl | ⟨ys, y, rfl⟩
    · simp at h
    · rw [List.concat_eq_append] at *
      have hx := hb.right y (by simp)
      have hl : ys.length = k := by simpa using h
      have hg := getN_bound k ys hb.left (by omega)
      rw [getN_snoc, be_snoc _ (by omega), show (getN ys * 256 + y) / 256 = getN ys from by omega, show (getN ys * 256 + y) % 256 = y from by omega, be_getN_len k ys hl hb.left]
theorem be_getN (xs : List Int) (h : Byt xs) : be (getN xs) xs.length = xs := be_getN_len xs.length xs rfl h
end Go.Proofs.Ytobddmpiljknpaa

namespace Go.Proofs.Ytobddmpiljknpaa
open Go.RowKit
set_option linter.unusedVariables false
set_option linter.unusedSimpArgs false

theorem add_off (ad : Addr) (i : Nat) (h : ad.spot = none) : ad.add i = ⟨ad.block, ad.off + i, none⟩ := by
  obtain ⟨b, o, s⟩ := ad
  simp only at h
  subst h
  unfold Addr.add
  split <;> simp_all
/-- Bytes, read as text. -/
theorem conv_cells {P : Program} {w : World} {A : Option Addr} {n c : Nat} {xs : List Int} (src e dst : TypeId) (hs : P.underlying src = some (.slice e)) (he : P.underlying e = some (.int .u8)) (hd : P.underlying dst = some .string)
    (hn : xs.length = n) (hx : Cells w A (nums .u8 xs)) : (convert src dst (.slice A n c)).run P w = .ok (.string (strOfNums xs)) w := by
  subst hn
  rw [run_convert_bytes_string w src dst e _ _ c hs he hd]
  rcases A with _ | ad
  · have : xs = [] := by
      rcases Nat.eq_zero_or_pos xs.length with h | h
      · exact List.eq_nil_of_length_eq_zero h
      · obtain ⟨_, h2, _⟩ := hx (by rw [nums_length]; omega)
        cases h2
    subst this
    simp [Conv.bytesToString]
    rfl
  · have hl : (loadCells ad xs.length).run P w = .ok (xs.map (Value.int .u8)).toArray w := by
      have := run_loadCells_list (P := P) w ad (xs.map (Value.int .u8)) (fun j v hj => by
        have hj' : j < xs.length := by have := (List.getElem?_eq_some_iff.1 hj).1; simpa using this
        obtain ⟨ad', h, hc⟩ := hx (by rw [nums_length]; omega)
        injection h with h
        subst h
        exact hc j v hj)
      simpa using this
    rw [run_bytesToString w _ _ c xs hl, foldl_push_bytes]
    simp [strOfNums, ByteArray.empty, ByteArray.emptyWithCapacity]
    rfl
theorem u8_inj {x y : Int} (h0 : 0 ≤ x) (h1 : x < 256) (k0 : 0 ≤ y) (k1 : y < 256) (h : UInt8.ofNat x.toNat = UInt8.ofNat y.toNat) : x = y := by
  have := congrArg UInt8.toNat h
  simp at this
  omega
theorem str_inj : ∀ (xs ys : List Int), Byt xs → Byt ys → (xs.map fun n => UInt8.ofNat n.toNat) = (ys.map fun n => UInt8.ofNat n.toNat) → xs = ys
  | [], [], _, _, _ => rfl
  | [], y :: ys, _, _, h => by simp at h
  | x :: xs, [], _, _, h => by simp at h
  | x :: xs, y :: ys, hx, hy, h => by
    simp only [List.map_cons, List.cons.injEq] at h
    rw [u8_inj hx.head.1 hx.head.2 hy.head.1 hy.head.2 h.1, str_inj xs ys hx.tail hy.tail h.2]
theorem str_eq {xs ys : List Int} (hx : Byt xs) (hy : Byt ys) : ((strOfNums xs).toList == (strOfNums ys).toList) = decide (xs = ys) := by
  rw [Lib.toList_data, Lib.toList_data, strOfNums_data, strOfNums_data]
  by_cases h : xs = ys
  · subst h
    simp only [beq_self_eq_true, decide_true]
  · rw [decide_eq_false h, beq_eq_false_iff_ne]
    exact fun e => h (str_inj xs ys hx hy e)

theorem mem_take_succ {ks : List Int} {k : Nat} {t : Int} (h : k < ks.length) (h1 : t ∉ ks.take k) (h2 : t ≠ ks.getD k 0) : t ∉ ks.take (k + 1) := by
  rw [take_succ_getD h, List.mem_append, List.mem_singleton]
  rintro (h3 | h3)
  · exact h1 h3
  · exact h2 h3
def hasK (ks : List Int) (t : Int) : Bool := decide (t ∈ ks)
end Go.Proofs.Ytobddmpiljknpaa

namespace Go.Proofs.Ytobddmpiljknpaa
open Go.ChangeShapes Go.WideShapes Go.ChangeAt Go.RowKit
set_option linter.unusedVariables false
set_option linter.unusedSimpArgs false

/-- What cells of type t tell: they can be read, and no slice in them is greater than memory. -/
def ArgC (U : Nat) (P : Program) (W : World) (t : TypeId) (cs : List Value) : Prop :=
  ∃ (H : Type) (enc : TypeId × Value → H) (fuel : Nat) (d : DataW H) (ps : List MemPlace), DataW.trod enc P W 0 (fun _ => true) true fuel t cs = some (d, ps) ∧ (∀ n ∈ d.weights P t, n ≤ reachBytes) ∧ Rows.uptoBulk d ≤ U
/-- What an argument tells. -/
def Arg (U : Nat) (P : Program) (W : World) (t : TypeId) (v : Value) : Prop := (∃ base, Value.okWide P W .any base t v) ∧ ArgC U P W t v.cells.toList
def Args (U : Nat) (P : Program) (W : World) : List TypeId → List Value → Prop
  | [], [] => True
  | t :: ts, v :: vs => Arg U P W t v ∧ Args U P W ts vs
  | _, _ => False

/-! ### Bulk -/
theorem bulk_part {H : Type} {d : DataW H} {l : List (DataW H)} (h : d ∈ l) : Rows.uptoBulk d ≤ Rows.uptoBulkAll l := by
  induction l with
  | nil => cases h
  | cons x r ih =>
    simp only [Rows.uptoBulkAll]
    rcases List.mem_cons.1 h with rfl | e
    · omega
    · have := ih e
      omega
theorem bulk_pos {H : Type} (d : DataW H) : 1 ≤ Rows.uptoBulk d := by
  cases d with
  | lit l => cases l <;> simp [Rows.uptoBulk]
  | nil => simp [Rows.uptoBulk]
  | ptr d => simp [Rows.uptoBulk]
  | slice elems spare => simp [Rows.uptoBulk]
  | agg parts => simp [Rows.uptoBulk]
  | iface t d => simp [Rows.uptoBulk]
  | map entries => simp [Rows.uptoBulk]
  | held h => simp [Rows.uptoBulk]
theorem bulk_length {H : Type} (l : List (DataW H)) : l.length ≤ Rows.uptoBulkAll l := by
  induction l with
  | nil => simp [Rows.uptoBulkAll]
  | cons x r ih =>
    have := bulk_pos x
    simp only [Rows.uptoBulkAll, List.length_cons]
    omega
theorem ArgC.big {U V : Nat} {P : Program} {W : World} {t : TypeId} {cs : List Value} (h : ArgC U P W t cs) (hU : U ≤ V) : ArgC V P W t cs := by
  obtain ⟨H, enc, fuel, d, ps, h, hw, hk⟩ := h
  exact ⟨H, enc, fuel, d, ps, h, hw, Nat.le_trans hk hU⟩
section
variable {U : Nat} {P : Program} {W : World} {t e : TypeId} {k : IntKind} {v : Value} {cs : List Value}
theorem wf_u8 {n : Int} (h : (Lit.int .u8 n).wf = true) : 0 ≤ n ∧ n < 256 := by
  simp only [Lit.wf, Bool.and_eq_true, decide_eq_true_eq, IntKind.min, IntKind.max, IntKind.signed, IntKind.bits] at h
  simp at h
  omega
theorem wf_u64 {n : Int} (h : (Lit.int .u64 n).wf = true) : 0 ≤ n ∧ n < 18446744073709551616 := by
  simp only [Lit.wf, Bool.and_eq_true, decide_eq_true_eq, IntKind.min, IntKind.max, IntKind.signed, IntKind.bits] at h
  simp at h
  omega
theorem wf_u32 {n : Int} (h : (Lit.int .u32 n).wf = true) : 0 ≤ n ∧ n < 4294967296 := by
  simp only [Lit.wf, Bool.and_eq_true, decide_eq_true_eq, IntKind.min, IntKind.max, IntKind.signed, IntKind.bits] at h
  simp at h
  omega
theorem wf_i64 {n : Int} (h : (Lit.int .i64 n).wf = true) : -9223372036854775808 ≤ n ∧ n ≤ 9223372036854775807 := by
  simp only [Lit.wf, Bool.and_eq_true, decide_eq_true_eq, IntKind.min, IntKind.max, IntKind.signed, IntKind.bits] at h
  simp at h
  omega
theorem ArgC.int (ht : P.underlying t = some (.int k)) (h : ArgC U P W t cs) : ∃ n, cs = [.int k n] ∧ (Lit.int k n).wf = true := by
  obtain ⟨H, enc, fuel, d, ps, h, _⟩ := h
  obtain ⟨n, h1, _, h3⟩ := DataW.trod_int ht h
  exact ⟨n, h1, h3⟩
theorem ArgC.bool (ht : P.underlying t = some .bool) (h : ArgC U P W t cs) : ∃ b, cs = [.bool b] := by
  obtain ⟨H, enc, fuel, d, ps, h, _⟩ := h
  obtain ⟨n, h1, _⟩ := DataW.trod_bool ht h
  exact ⟨n, h1⟩
theorem ArgC.str (ht : P.underlying t = some .string) (h : ArgC U P W t cs) : ∃ s : ByteArray, cs = [.string s] ∧ s.size ≤ 140737488351232 := by
  obtain ⟨H, enc, fuel, d, ps, h, hw, hU⟩ := h
  obtain ⟨s, h1, h2, _⟩ := DataW.trod_string ht h
  simp only [Prod.mk.injEq] at h2
  obtain ⟨rfl, _⟩ := h2
  have := hw s.data.toList.length (by simp [DataW.weights])
  refine ⟨s, h1, ?_⟩
  rw [Array.length_toList] at this
  exact this
theorem Arg.int (ht : P.underlying t = some (.int k)) (h : Arg U P W t v) : ∃ n, v = .int k n ∧ (Lit.int k n).wf = true := by
  obtain ⟨⟨base, hok⟩, h⟩ := h
  obtain ⟨n, rfl⟩ := okWide_int ht hok
  obtain ⟨m, h1, h2⟩ := h.int ht
  simp [Value.cells] at h1
  subst h1
  exact ⟨n, rfl, h2⟩
theorem Arg.bool (ht : P.underlying t = some .bool) (h : Arg U P W t v) : ∃ b, v = .bool b := by
  obtain ⟨⟨base, hok⟩, h⟩ := h
  exact okWide_bool ht hok
theorem Arg.str (ht : P.underlying t = some .string) (h : Arg U P W t v) : ∃ s : ByteArray, v = .string s ∧ s.size ≤ 140737488351232 := by
  obtain ⟨⟨base, hok⟩, h⟩ := h
  obtain ⟨s, rfl⟩ := okWide_string ht hok
  obtain ⟨s', h1, h2⟩ := h.str ht
  simp [Value.cells] at h1
  subst h1
  exact ⟨s, rfl, h2⟩
/-- A slice: its elements, one by one. -/
theorem ArgC.slice (ht : P.underlying t = some (.slice e)) (h : ArgC U P W t cs) : ∃ A n c, cs = [.slice A n c] ∧ n ≤ c ∧ c ≤ 9223372036854775807 ∧ n * P.bytesOf e ≤ 140737488351232 ∧ (A = none → n = 0 ∧ c = 0) ∧
    ∀ i, i < n → ∃ ad es, A = some ad ∧ es.length = P.cellsOf e ∧ (∀ j u, es[j]? = some u → W.cell? (ad.add (i * P.cellsOf e + j)) = some u) ∧ ArgC U P W e es := by
  obtain ⟨H, enc, fuel, d, ps, h, hw, hU⟩ := h
  rcases DataW.trod_slice ht h with ⟨rfl, hd⟩ | ⟨a, len, cap, elems, rest, n, _, rfl, hd, hb, hl, hm, hlen, hel, hsp, hns⟩
  · exact ⟨none, 0, 0, rfl, by omega, by omega, by omega, fun _ => ⟨rfl, rfl⟩, fun i hi => absurd hi (by omega)⟩
  · simp only [Prod.mk.injEq] at hd
    obtain ⟨rfl, rfl⟩ := hd
    have hwn := hw ((elems.length + rest.length) * P.bytesOf e) (by simp [DataW.weights, ht])
    refine ⟨some a, len, cap, rfl, hl, by simpa [maxLen] using hm, ?_, (fun h => by cases h), fun i hi => ?_⟩
    · refine Nat.le_trans (Nat.mul_le_mul_right _ ?_) hwn
      omega
    · have h1 := hel i hi
      have h2 : i < elems.length := by omega
      rw [List.getElem?_eq_getElem h2] at h1
      obtain ⟨es, h3, h4⟩ := Option.bind_eq_some_iff.1 h1
      obtain ⟨_, h5, h6⟩ := World.cells?_some h3
      refine ⟨a, es, rfl, h5, fun j u hu => ?_, H, enc, n, elems[i].1, elems[i].2, h4, fun m hm' => ?_, ?_⟩
      · have hj : j < es.length := (List.getElem?_eq_some_iff.1 hu).1
        have := h6 j (by omega)
        rw [add_of_add, hu] at this
        exact this
      · refine hw m ?_
        simp only [DataW.weights, ht, List.mem_cons, List.mem_append]
        right; left
        have key : ∀ (l : List (DataW H)) (x : DataW H), x ∈ l → ∀ m ∈ x.weights P e, m ∈ DataW.weightsAll P e l := by
          intro l
          induction l with
          | nil => intro x hx; cases hx
          | cons y l ih =>
            intro x hx m hm
            simp only [DataW.weightsAll, List.mem_append]
            rcases List.mem_cons.1 hx with rfl | hx
            · exact .inl hm
            · exact .inr (ih x hx m hm)
        exact key _ elems[i].1 (List.mem_map.2 ⟨elems[i], List.getElem_mem h2, rfl⟩) m hm'
      · have h7 := bulk_part (l := elems.map (·.1)) (List.mem_map.2 ⟨elems[i], List.getElem_mem h2, rfl⟩)
        simp only [Rows.uptoBulk] at hU
        omega
/-- How long a slice is, its spare places counted; how long a text. -/
theorem ArgC.room {A : Option Addr} {n c : Nat} (ht : P.underlying t = some (.slice e)) (h : ArgC U P W t [.slice A n c]) : c ≤ U := by
  obtain ⟨H, enc, fuel, d, ps, h, hw, hU⟩ := h
  rcases DataW.trod_slice ht h with ⟨h1, hd⟩ | ⟨a, len, cap, elems, rest, m, _, h1, hd, hb, hl, hm, hlen, hel, hsp, hns⟩
  · simp at h1
    omega
  · simp at h1
    obtain ⟨_, rfl, rfl⟩ := h1
    simp only [Prod.mk.injEq] at hd
    obtain ⟨rfl, rfl⟩ := hd
    have h2 := (hsp rfl).1
    have h3 := bulk_length (elems.map (·.1))
    have h4 := bulk_length (rest.map (·.1))
    simp only [Rows.uptoBulk, List.length_map] at hU h3 h4
    omega
theorem ArgC.letters {s : ByteArray} (ht : P.underlying t = some .string) (h : ArgC U P W t [.string s]) : s.size ≤ U := by
  obtain ⟨H, enc, fuel, d, ps, h, hw, hU⟩ := h
  obtain ⟨s', h1, h2, _⟩ := DataW.trod_string ht h
  simp at h1
  subst h1
  simp only [Prod.mk.injEq] at h2
  obtain ⟨rfl, _⟩ := h2
  simp only [Rows.uptoBulk, Array.length_toList] at hU
  have : s.size = s.data.size := rfl
  omega
theorem Arg.room {A : Option Addr} {n c : Nat} (ht : P.underlying t = some (.slice e)) (h : Arg U P W t (.slice A n c)) : c ≤ U := ArgC.room ht (by simpa [Value.cells] using h.2)
theorem Arg.letters {s : ByteArray} (ht : P.underlying t = some .string) (h : Arg U P W t (.string s)) : s.size ≤ U := ArgC.letters ht (by simpa [Value.cells] using h.2)
/-- A slice of bytes (of whole numbers of one kind). -/
theorem ArgC.nums (ht : P.underlying t = some (.slice e)) (he : P.underlying e = some (.int k)) (hc : P.cellsOf e = 1) (h : ArgC U P W t cs) :
    ∃ A n c xs, cs = [.slice A n c] ∧ xs.length = n ∧ n ≤ c ∧ c ≤ 9223372036854775807 ∧ n * P.bytesOf e ≤ 140737488351232 ∧ (A = none → n = 0 ∧ c = 0) ∧ Cells W A (nums k xs) ∧ ∀ x ∈ xs, (Lit.int k x).wf = true := by
  obtain ⟨A, n, c, rfl, hnc, hc', hb, hnil, hall⟩ := h.slice ht
  have hex : ∀ i, i < n → ∃ x : Int, (∃ ad, A = some ad ∧ W.cell? (ad.add i) = some (.int k x)) ∧ (Lit.int k x).wf = true := by
    intro i hi
    obtain ⟨ad, es, hA, hl, hcell, harg⟩ := hall i hi
    obtain ⟨x, rfl, hx⟩ := harg.int he
    have := hcell 0 _ rfl
    rw [hc, Nat.mul_one, Nat.add_zero] at this
    exact ⟨x, ⟨ad, hA, this⟩, hx⟩
  have hlist : ∃ xs : List Int, xs.length = n ∧ ∀ i, i < n → (∃ ad, A = some ad ∧ W.cell? (ad.add i) = some (.int k (xs.getD i 0))) ∧ (Lit.int k (xs.getD i 0)).wf = true := by
    clear hall hb hnc hnil h
    induction n with
    | zero => exact ⟨[], rfl, fun i hi => absurd hi (by omega)⟩
    | succ n ih =>
      obtain ⟨xs, hl, hxs⟩ := ih fun i hi => hex i (by omega)
      obtain ⟨x, hx⟩ := hex n (by omega)
      refine ⟨xs ++ [x], by simp [hl], fun i hi => ?_⟩
      rcases Nat.lt_or_ge i n with h | h
      · have : (xs ++ [x]).getD i 0 = xs.getD i 0 := by
          rw [List.getD_eq_getElem?_getD, List.getElem?_append_left (by omega), ← List.getD_eq_getElem?_getD]
        rw [this]
        exact hxs i h
      · obtain rfl : i = n := by omega
        have : (xs ++ [x]).getD i 0 = x := by
          rw [List.getD_eq_getElem?_getD, List.getElem?_append_right (by omega)]
          simp [hl]
        rw [this]
        exact hx
  obtain ⟨xs, hl, hxs⟩ := hlist
  refine ⟨A, n, c, xs, rfl, hl, hnc, hc', hb, hnil, fun hpos => ?_, fun x hx => ?_⟩
  · rw [nums_length] at hpos
    obtain ⟨⟨ad, hA, _⟩, _⟩ := hxs 0 (by omega)
    refine ⟨ad, hA, fun j u hu => ?_⟩
    have hj : j < xs.length := by have := (List.getElem?_eq_some_iff.1 hu).1; rwa [nums_length] at this
    obtain ⟨⟨ad', hA', hcell⟩, _⟩ := hxs j (by omega)
    rw [hA] at hA'
    injection hA' with hA'
    subst hA'
    rw [nums_get _ _ _ hj] at hu
    injection hu with hu
    rw [← hu]
    exact hcell
  · obtain ⟨i, hi, rfl⟩ := List.getElem_of_mem hx
    have := (hxs i (by omega)).2
    rwa [List.getD_eq_getElem?_getD, List.getElem?_eq_getElem hi] at this
theorem Arg.slice_shape (ht : P.underlying t = some (.slice e)) (h : Arg U P W t v) : ∃ A n c, v = .slice A n c := by
  obtain ⟨⟨base, hok⟩, h⟩ := h
  exact okWide_slice ht hok
theorem Arg.bytes (ht : P.underlying t = some (.slice e)) (he : P.underlying e = some (.int .u8)) (hc : P.cellsOf e = 1) (hb : P.bytesOf e = 1) (h : Arg U P W t v) :
    ∃ A n c xs, v = .slice A n c ∧ xs.length = n ∧ n ≤ c ∧ n ≤ 140737488351232 ∧ Cells W A (Proofs.Ytobddmpiljknpaa.nums .u8 xs) ∧ Byt xs := by
  obtain ⟨A', n', c', rfl⟩ := h.slice_shape ht
  obtain ⟨A, n, c, xs, h1, hl, hnc, _, hbb, _, hC, hw⟩ := h.2.nums ht he hc
  simp [Value.cells] at h1
  obtain ⟨rfl, rfl, rfl⟩ := h1
  rw [hb, Nat.mul_one] at hbb
  exact ⟨_, _, _, xs, rfl, hl, hnc, hbb, hC, fun x hx => wf_u8 (hw x hx)⟩
end

theorem args_of {U : Nat} {H : Type} {enc : TypeId × Value → H} {P : Program} {W : World} : ∀ {ts : List TypeId} {vs : List Value} {ds : List (DataW H)} {ps : List MemPlace}, DataW.TrodAll enc P W 0 (fun _ => true) true ts vs ds ps →
    (∀ n ∈ DataW.weightsEach P ts ds, n ≤ reachBytes) → (∀ d ∈ ds, Rows.uptoBulk d ≤ U) → (∀ (j : Nat) t v, ts[j]? = some t → vs[j]? = some v → ∃ base, Value.okWide P W .any base t v) → Args U P W ts vs
  | [], [], [], _, _, _, _, _ => trivial
  | t :: ts, v :: vs, d :: ds, ps, h, hw, hU, hok => by
    obtain ⟨p, q, h0, h1, _⟩ := h
    obtain ⟨fuel, hf⟩ := h0
    refine ⟨⟨hok 0 t v rfl rfl, H, enc, fuel, d, p, hf, fun n hn => hw n ?_, hU d (by simp)⟩, args_of h1 (fun n hn => hw n ?_) (fun x hx => hU x (by simp [hx])) fun j t' v' ht hv => hok (j + 1) t' v' ht hv⟩
    · simp only [DataW.weightsEach, List.mem_append]; exact .inl hn
    · simp only [DataW.weightsEach, List.mem_append]; exact .inr hn

theorem trodAll_below {H : Type} {enc : TypeId × Value → H} {P : Program} (hl : laidOutB P = true) {W W' : World} (hb : Below W.heap.size W W') : ∀ {ts : List TypeId} {vs : List Value} {ds : List (DataW H)} {ps : List MemPlace},
    (∀ t ∈ ts, P.readableRec t = true ∧ t < P.types.size) → DataW.TrodAll enc P W 0 (fun _ => true) true ts vs ds ps → DataW.TrodAll enc P W' 0 (fun b => decide (b < W.heap.size)) true ts vs ds ps
  | [], [], [], _, _, h => h
  | t :: ts, v :: vs, d :: ds, ps, hr, h => by
    obtain ⟨p, q, h0, h1, e⟩ := h
    have ht := hr t (by simp)
    have lt : ∀ x ∈ p, x.block < W.heap.size := by obtain ⟨m, hm⟩ := h0; exact DataW.trod_lt m _ _ _ hm
    exact ⟨p, q, Below.trod hl ht.1 ht.2 h0 hb lt, trodAll_below hl hb (fun t' ht' => hr t' (by simp [ht'])) h1, e⟩

theorem trodAll_len {H : Type} {enc : TypeId × Value → H} {P : Program} {W : World} : ∀ (ts : List TypeId) (vs : List Value) (ds : List (DataW H)) (ps : List MemPlace), DataW.TrodAll enc P W 0 (fun _ => true) true ts vs ds ps → ds.length = ts.length
  | [], [], [], _, _ => rfl
  | t :: ts, v :: vs, d :: ds, ps, ⟨p, q, _, h1, _⟩ => by simp [trodAll_len ts vs ds q h1]
/-- A LAW: whatever comes in, the call answers true and leaves all that was there alone. -/
theorem law_lifted {C : Checked} {os : Os} {f : FuncId} {fn : Func} {s : ChangeSpec} {tb : TypeId} (hl : laidOutB C.prog = true) (own : ownKnob C.prog.godebug = none) (started : os.Started) (noInit : C.prog.inits.idxOf? f = none) (hfn : C.prog.funcs[f]? = some fn)
    (H : Type) (enc : TypeId × Value → H) (hvars : s.vars = []) (hspec : ∀ ds : List (DataW H), ds.length = fn.params.size → (s.fn H ds).results = [.lit (.bool true)] ∧ (s.fn H ds).args = ds ∧ (s.fn H ds).vars = [])
    (hres : fn.resultTypes = #[tb]) (hbool : C.prog.underlying tb = some .bool) (hr : ∀ t ∈ fn.params.toList, C.prog.readableRec t = true ∧ t < C.prog.types.size)
    (witness : ∃ (w : World) (tape : Tape) (i : Input), w.os = os ∧ (w.forCall tape i).Shaped C.prog ∧ i.vars = [] ∧ Input.okWide C.prog (w.forCall tape i) .any w.heap.size f i ∧
      s.pre6 enc C.prog fn [] false (w.forCall tape i).memory i.args ∧ ({} : Assume).holds C.prog (lone (Frame.enter C.prog f i.args .normal) [] (w.forCall tape i)))
    (walk : ∀ (U : Nat) (W : World) (vs : List Value), Args U C.prog W fn.params.toList vs → Calls C.prog f vs.toArray W fun e W' => e = .returned (.bool true) ∧ Below W.heap.size W W') :
    ReturnsInHanded {} C os f .any (s.pre6 enc C.prog fn [] false) (s.post enc C.prog fn false true false false) := by
  refine returnsInHanded_of_change_sized own started noInit hfn witness ?_
  intro W base args ds gs before hval hW _ hsz _
  have hW' := hW
  obtain ⟨p, q, hA, hV, rfl, hfz, hnd⟩ := hW
  rw [hvars] at hV
  obtain ⟨rfl, rfl⟩ := trodVars_none hV
  have hdl : ds.length = fn.params.size := by rw [trodAll_len _ _ _ _ hA]; simp
  obtain ⟨hs1, hs2, hs3⟩ := hspec ds hdl
  have hargs := args_of (U := Rows.uptoBulkAll ds) hA (fun n hn => by
    have h1 := List.all_eq_true.1 hsz n (by
      have e : s.plain.varTypes C.prog = [] := by unfold ChangeSpec.plain; simp [DataSpec.varTypes, hvars]
      rw [e]; simpa using hn)
    simpa using h1) (fun d hd => bulk_part hd) (fun j t v ht hv => ⟨base, hval j t v (by simpa using ht) (by simpa using hv)⟩)
  refine (walk _ W args.toList hargs).mono fun e W' ⟨he, bel⟩ => ?_
  subst he
  refine ⟨_, rfl, ds, [], _, [], p, [], hW', ?_, ?_, ?_, bel.frame _, fun h => by cases h⟩
  · rw [List.append_nil, hs1, hres]
    exact trodAll_mk1 (shut_bool hbool _)
  · rw [List.append_nil, hs2]
    exact trodAll_below hl bel hr hA
  · rw [List.append_nil, hs3, hvars]
    rfl

/-- The same where what comes in is of bulk at most 1048576. -/
theorem law_lifted_upto {C : Checked} {os : Os} {f : FuncId} {fn : Func} {s : ChangeSpec} {tb : TypeId} (hl : laidOutB C.prog = true) (own : ownKnob C.prog.godebug = none) (started : os.Started) (noInit : C.prog.inits.idxOf? f = none) (hfn : C.prog.funcs[f]? = some fn)
    (H : Type) (enc : TypeId × Value → H) (F : Stop.Interp) (hvars : s.vars = []) (hspec : ∀ ds : List (DataW H), ds.length = fn.params.size → (s.fn H ds).results = [.lit (.bool true)] ∧ (s.fn H ds).args = ds ∧ (s.fn H ds).vars = [])
    (hres : fn.resultTypes = #[tb]) (hbool : C.prog.underlying tb = some .bool) (hr : ∀ t ∈ fn.params.toList, C.prog.readableRec t = true ∧ t < C.prog.types.size)
    (witness : ∃ (w : World) (tape : Tape) (i : Input), w.os = os ∧ (w.forCall tape i).Shaped C.prog ∧ i.vars = [] ∧ Input.okWide C.prog (w.forCall tape i) .any w.heap.size f i ∧
      (Rows.OpenSpec.upto s).pre6 enc C.prog fn [] false (w.forCall tape i).memory i.args ∧ ({} : Assume).holds C.prog (lone (Frame.enter C.prog f i.args .normal) [] (w.forCall tape i)))
    (walk : ∀ (W : World) (vs : List Value), Args 1048576 C.prog W fn.params.toList vs → Calls C.prog f vs.toArray W fun e W' => e = .returned (.bool true) ∧ Below W.heap.size W W') :
    ReturnsInHanded {} C os f .any ((Rows.OpenSpec.upto s).pre6 enc C.prog fn [] false) (((Rows.OpenSpec.upto s).at F).post enc C.prog fn false true false false) := by
  refine returnsInHanded_of_cond_sized (s := Rows.OpenSpec.upto s) (k := Rows.uptoSmall) rfl own started noInit hfn witness ?_
  intro W base args ds gs before hval hW _ hk hsz _
  have hW' := hW
  obtain ⟨p, q, hA, hV, rfl, hfz, hnd⟩ := hW
  have hvars' : (Rows.OpenSpec.upto s).vars = [] := hvars
  rw [hvars'] at hV
  obtain ⟨rfl, rfl⟩ := trodVars_none hV
  have hdl : ds.length = fn.params.size := by rw [trodAll_len _ _ _ _ hA]; simp
  obtain ⟨hs1, hs2, hs3⟩ := hspec ds hdl
  have hb : Rows.uptoBulkAll (ds ++ []) ≤ 1048576 := of_decide_eq_true hk
  rw [List.append_nil] at hb
  have hargs := args_of (U := 1048576) hA (fun n hn => by
    have h1 := List.all_eq_true.1 hsz n (by
      have e : (Rows.OpenSpec.upto s).bare.plain.varTypes C.prog = [] := by unfold ChangeSpec.plain; simp [DataSpec.varTypes, OpenSpec.bare, hvars']
      rw [e]; simpa using hn)
    simpa using h1) (fun d hd => Nat.le_trans (bulk_part hd) hb) (fun j t v ht hv => ⟨base, hval j t v (by simpa using ht) (by simpa using hv)⟩)
  refine (walk W args.toList hargs).mono fun e W' ⟨he, bel⟩ => ?_
  subst he
  refine ⟨_, rfl, ds, [], _, [], p, [], hW', ?_, ?_, ?_, bel.frame _, fun h => by cases h⟩
  · rw [List.append_nil, hres]
    show DataW.TrodAll _ _ _ _ _ _ _ _ (s.fn H ds).results _
    rw [hs1]
    exact trodAll_mk1 (shut_bool hbool _)
  · rw [List.append_nil]
    show DataW.TrodAll _ _ _ _ _ _ _ _ (s.fn H ds).args _
    rw [hs2]
    exact trodAll_below hl bel hr hA
  · rw [List.append_nil]
    show DataW.TrodVars _ _ _ _ s.vars (s.fn H ds).vars _
    rw [hs3, hvars]
    rfl
end Go.Proofs.Ytobddmpiljknpaa

namespace Go.Proofs.Ytobddmpiljknpaa
open Go.ChangeShapes Go.WideShapes Go.ChangeAt Go.RowKit
set_option linter.unusedVariables false
set_option linter.unusedSimpArgs false

/-- Where for each place there is something, there is a list of it. -/
theorem list_of {α : Type} {n : Nat} {p : Nat → α → Prop} (h : ∀ i, i < n → ∃ x, p i x) : ∃ l : List α, l.length = n ∧ ∀ (i : Nat) (x : α), l[i]? = some x → p i x := by
  induction n with
  | zero => exact ⟨[], rfl, fun i x hx => by cases hx⟩
  | succ n ih =>
    obtain ⟨l, hl, hp⟩ := ih fun i hi => h i (by omega)
    obtain ⟨x, hx⟩ := h n (by omega)
    refine ⟨l ++ [x], by simp [hl], fun i y hy => ?_⟩
    rcases Nat.lt_or_ge i n with hi | hi
    · rw [List.getElem?_append_left (by omega)] at hy
      exact hp i y hy
    · have hi' : i < (l ++ [x]).length := (List.getElem?_eq_some_iff.1 hy).1
      rw [List.length_append, List.length_singleton] at hi'
      obtain rfl : i = n := by omega
      rw [List.getElem?_append_right (by omega), hl, Nat.sub_self] at hy
      injection hy with hy
      rw [← hy]
      exact hx

section
variable {U : Nat} {P : Program} {W : World} {t e : TypeId} {k : IntKind} {v : Value} {cs : List Value}
theorem weights_part {H : Type} {P : Program} : ∀ (ts : List TypeId) (ds : List (DataW H)) (i : Nat) (t : TypeId) (d : DataW H), ts[i]? = some t → ds[i]? = some d → ∀ n ∈ d.weights P t, n ∈ DataW.weightsEach P ts ds :=
  fun _ _ _ _ _ ht hd n hn => DataW.weights_mem_each ht hd n hn
theorem ArgC.len {fs : Array Field} (ht : P.underlying t = some (.struct fs)) (h : ArgC U P W t cs) : cs.length = P.cellsOf t := by
  obtain ⟨H, enc, fuel, d, ps, h, hw, hU⟩ := h
  obtain ⟨xs, n, _, _, h3, _⟩ := DataW.trod_struct ht h
  exact h3
/-- A field of a struct. -/
theorem ArgC.field {fs : Array Field} (ht : P.underlying t = some (.struct fs)) (h : ArgC U P W t cs) {i : Nat} {f : Field} (hf : fs[i]? = some f) : ArgC U P W f.type ((cs.drop f.offset).take (P.cellsOf f.type)) := by
  obtain ⟨H, enc, fuel, d, ps, h, hw, hU⟩ := h
  obtain ⟨xs, n, _, h2, _, h4, h5⟩ := DataW.trod_struct ht h
  simp only [Prod.mk.injEq] at h2
  obtain ⟨rfl, _⟩ := h2
  have hi : i < xs.length := by
    rw [h4]
    exact (Array.getElem?_eq_some_iff.1 hf).1
  have h6 := h5 i f hf
  rw [List.getElem?_eq_getElem hi] at h6
  refine ⟨H, enc, n, xs[i].1, xs[i].2, h6, fun m hm => hw m ?_, ?_⟩
  · simp only [DataW.weights, ht]
    refine weights_part _ _ i f.type xs[i].1 ?_ ?_ m hm
    · rw [List.getElem?_map, Array.getElem?_toList, hf]
      rfl
    · rw [List.getElem?_map, List.getElem?_eq_getElem hi]
      rfl
  · have h7 := bulk_part (l := xs.map (·.1)) (List.mem_map.2 ⟨xs[i], List.getElem_mem hi, rfl⟩)
    simp only [Rows.uptoBulk] at hU
    omega
end
end Go.Proofs.Ytobddmpiljknpaa

namespace Go.Proofs.Ytobddmpiljknpaa
open Go.RowKit
theorem undrew {w w2 : World} {row : Option Nat} (h : w.drew.grownBy w2 row) : w.grownBy w2 row := ⟨h.os, h.tape, h.output, h.size, h.block⟩
/-- 'copy(d, s)' as one step of a region that draws its order. -/
theorem step_copy {P : Program} {ops : Array Oper} {o : Oper} {a : Act} {W : World} {K : Act → World → Prop} {Q : Exit → Act → World → Prop} {F : Prop} (hgd : o.guard = none) (d s : Operand) (dT sT : TypeId)
    (ho : o.op = .call { callee := .builtin .copy, args := #[d, s], argTypes := #[dT, sT] }) (elem : TypeId) (z : Value) (bytes : Nat) (hu : P.underlying dT = some (.slice elem)) (hinfo : (P.info? elem).map (fun i => (i.zero, i.size, i.bytes)) = some (some z, 1, bytes))
    (dp sp : Option Addr) (dLen dCap sLen sCap : Nat) (hd : a.eval d = .slice dp dLen dCap) (hs : a.eval s = .slice sp sLen sCap)
    (g off : Nat) (cur : List Value) (t : TypeId) (hg : W.heap[g]? = some (.cells cur.toArray t (0, 0))) (cs : List Value) (hn : cs.length = Nat.min sLen dLen)
    (hdp : 0 < cs.length → dp = some ⟨g, off, none⟩) (hC : Cells W sp cs) (hfit : off + cs.length ≤ cur.length) (h1 : ∀ v ∈ cs, v.oneCell' = true)
    (h : ∀ w', w'.heap[g]? = some (.cells (splice cur off cs).toArray t (0, 0)) → W.grownBy w' (some g) → K (a.put o.dst (goInt cs.length)) w') :
    if Region.wanted o (yielded ops a.tmps) = true then Oper.wp P o a W K Q else F := by
  have hw : Region.wanted o (yielded ops a.tmps) = true := by simp [Region.wanted, hgd]
  rw [if_pos hw]
  have hsz : (P.info? elem).map (·.size) = some 1 := by
    obtain ⟨i0, hi, hzz⟩ := Option.map_eq_some_iff.1 hinfo
    simp only [Prod.mk.injEq] at hzz
    rw [hi]
    simp [hzz.2.1]
  by_cases h0 : cs.length = 0
  · obtain rfl : cs = [] := List.eq_nil_of_length_eq_zero h0
    have hrun := run_copy_none (P := P) W dT sT o.type elem dp sp dLen dCap sLen sCap hu hsz (by simpa using hn.symm)
    unfold Oper.wp execOp
    simp only [ho, resolve, invoke, builtin, Sem.run_bind, Sem.run_pure, Result.andThen_ok, List.map_toArray, List.map_cons, List.map_nil, hd, hs, hrun]
    exact h W (by simpa [splice] using hg) (grown_refl _ _)
  · obtain ⟨ad, rfl, hsrc⟩ := hC (by omega)
    obtain rfl := hdp (by omega)
    have hrun := run_copy_row (P := P) W dT sT o.type elem g off dLen dCap ad sLen sCap cur.toArray t cs hu hsz hg hn hsrc (by simpa using hfit) h1
    unfold Oper.wp execOp
    simp only [ho, resolve, invoke, builtin, Sem.run_bind, Sem.run_pure, Result.andThen_ok, List.map_toArray, List.map_cons, List.map_nil, hd, hs, hrun]
    refine h _ ?_ ⟨rfl, rfl, rfl, by simp [World.setRow], fun k hk hne => setRow_other W g k _ (fun e => hne (by rw [e]))⟩
    have := setRow_heap W g cur.toArray (splice cur off cs).toArray t (0, 0) hg
    simpa [splice] using this
theorem Ext.setRow_ {w w' : World} {g : Nat} (h : Ext w w') (hg : w.heap.size ≤ g) (cs : Array Value) : Ext w (w'.setRow g cs) := ⟨below_setRow h.out hg cs⟩
theorem one_all (k : IntKind) (xs : List Int) : (nums k xs).toArray.all (·.oneCell') = true := by
  rw [Array.all_eq_true_iff_forall_mem]
  intro v hv
  exact nums_one k xs v (by simpa using hv)
end Go.Proofs.Ytobddmpiljknpaa

namespace Go.Proofs.Ytobddmpiljknpaa
open Go.RowKit

/-- A whole struct that is loaded, in every world that meets S. -/
theorem yields_row_S {P : Program} {ops : Array Oper} {S : World → Prop} {o : Oper} {a : Act} (hgd : Region.wanted o (yielded ops a.tmps) = true) (ty : TypeId) (x : Operand) (ho : o.op = .load ty x)
    (g : Nat) (hx : a.eval x = .pointer (some ⟨g, 0, none⟩)) (t : TypeId) (cs : Array Value) (fr : Nat × Nat) (d : TypeDesc)
    (hu : P.underlying ty = some d) (hd : (match d with | .struct _ | .array _ _ => true | _ => false) = true) (hi : (P.info? ty).map (·.size) = some cs.size)
    (hS : ∀ W, S W → W.heap[g]? = some (.cells cs t fr)) :
    YieldsIf P ops S o (.agg cs) a := by
  refine .inl ⟨hgd, fun w hw => ?_⟩
  have hg := hS w hw
  unfold execOp
  simp only [ho, hx, Instr.loadAt, Instr.sureAddr, Sem.run_bind, Sem.run_pure, Result.andThen_ok, run_loadVar_row w g t ty cs fr d hg hu hd hi]
/-- A call of a function that is met by its contract, as one step of a region that draws its order: at an operation that is guarded, whose guard bids it. -/
theorem step_call_w {P : Program} {ops : Array Oper} {o : Oper} {a : Act} {W : World} {K : Act → World → Prop} {Q : Exit → Act → World → Prop} {F : Prop} (hw : Region.wanted o (yielded ops a.tmps) = true) {f : FuncId} {fn : Func} (hf : P.funcs[f]? = some fn) (hfn : (fn.name == "runtime.NumGoroutine") = false) (hfb : fn.body.isNone = false) (xs : Array Operand) (ts : Array TypeId)
    (ho : o.op = .call { callee := .value (.func f), args := xs, argTypes := ts }) (vs : Array Value) (hvs : xs.map a.eval = vs) {R : Ending → World → Prop} (hc : Calls P f vs W R) (h : ∀ e w', R e w' → ∃ v, e = .returned v ∧ K (a.put o.dst v) w') :
    if Region.wanted o (yielded ops a.tmps) = true then Oper.wp P o a W K Q else F := by
  rw [if_pos hw]
  have hrun : (execOp a.eval o).run P W = .ok (.enter f vs) W := by
    unfold execOp
    simp only [ho]
    have h1 : ¬ fn.name = "runtime.NumGoroutine" := by simpa using hfn
    have h2 : ¬ fn.body = none := by intro he; rw [he] at hfb; cases hfb
    simp [resolve, invoke, hvs, Deferred.ofValue, callFunc, Act.eval, hf, h1, h2]
  unfold Oper.wp
  rw [hrun, Oper.upon_enter]
  refine hc.mono ?_
  intro e w' hR
  obtain ⟨v, rfl, hk⟩ := h e w' hR
  exact hk
/-- A whole array or struct that is stored: the world behind it is opaque. -/
theorem wpList_store_row_o {P : Program} {ops : Array Oper} {rest : List Oper} {o : Oper} {a : Act} {w : World} {Q : Exit → Act → World → Prop} (hgd : o.guard = none) (ty : TypeId) (x y : Operand) (ho : o.op = .store ty x y)
    (g : Nat) (cells : Array Value) (hx : a.eval x = .pointer (some ⟨g, 0, none⟩)) (hy : a.eval y = .agg cells)
    (t : TypeId) (old : Array Value) (hg : w.heap[g]? = some (.cells old t (0, 0))) (hi : (P.info? ty).map (·.size) = some cells.size)
    (hold : old.size = cells.size) (h1 : cells.all (·.oneCell') = true)
    (h : ∀ w', w'.heap[g]? = some (.cells cells t (0, 0)) → (∀ k, k ≠ g → w'.heap[k]? = w.heap[k]?) → w'.heap.size = w.heap.size → (∀ B w0, Below B w0 w → B ≤ g → Below B w0 w') → wpList P ops Q rest (a.put o.dst undef) w') : wpList P ops Q (o :: rest) a w :=
  wpList_store_row hgd ty x y ho g cells hx hy t old hg hi hold h1 (h _ (setRow_heap _ _ _ _ _ _ hg) (fun k hk => setRow_other _ _ _ _ hk) (by simp) fun B w0 hb hB => below_setRow hb hB _)
theorem at_new_then {w : World} (o1 o2 : Obj) : ((w.alloc o1).alloc o2).heap[w.heap.size]? = some o1 := by
  exact at_below (at_new w o1) ((Below.refl _ _).alloc (Nat.le_refl _) o2)
theorem Ext.setg {w w' : World} (h : Ext w w') (g i : Nat) (u : Value) (hg : w.heap.size ≤ g) : Ext w (w'.setCell ⟨g, i, none⟩ u) := ⟨h.out.setCell (p := ⟨g, i, none⟩) hg u⟩
end Go.Proofs.Ytobddmpiljknpaa

namespace Go.Proofs.Ytobddmpiljknpaa
open Go.RowKit
set_option linter.unusedVariables false
set_option linter.unusedSimpArgs false

/-- What has just been laid in a block of its own. -/
theorem cells_box (w : World) (b : Nat) (h : w.heap.size = b) (cs : List Value) (e : TypeId) : Cells (w.alloc (.cells cs.toArray e)) (some ⟨b, 0, none⟩) cs := by
  subst h
  intro _
  refine ⟨_, rfl, fun j u hu => ?_⟩
  exact World.news_of_block (cs := cs.toArray) (t := e) (fr := (0, 0)) (heap_alloc_new w _) j u (by simpa using hu)

set_option maxHeartbeats 400000 in
theorem clone_any (A : Option Addr) (n c : Nat) (xs : List Int) (hn : xs.length = n) (hn' : n ≤ 140737488355300) (w : World) (hx : Cells w A (nums .u8 xs)) :
    Calls Try.prog 112 #[.slice A n c] w fun e w' => ∃ v, e = .returned v ∧ w'.ownsRow w.heap.size 5 1 v n (nums .u8 xs) ∧ Below w.heap.size w w' := by
  have keq := fun W => Lib.run_eql_slice_nil (P := Try.prog) W 22 5 A n c 0 0 Try.underlying22
  have Hn := Lib.hid hn
  rcases A with _ | ad
  · have hz : n = 0 := by
      rcases Nat.eq_zero_or_pos n with h | h
      · exact h
      · obtain ⟨_, h2, _⟩ := hx (by rw [nums_length]; omega)
        cases h2
    subst hz
    have HZ : Hid (xs = []) := List.eq_nil_of_length_eq_zero hn
    clear hn
    go_enter Try.func112, Try.ntmps112
    go_wp2
    go_ret
    exact ⟨_, rfl, by rw [HZ.out]; exact own_nil _ _ _ _, Below.refl _ _⟩
  · clear hn
    go_enter Try.func112, Try.ntmps112
    have ho0 : (w.alloc (.cells #[] 5)).ownsRow w.heap.size 5 1 (.slice (some ⟨w.heap.size, 0, none⟩) 0 0) 0 [] :=
      own_of_block (cur := []) (heap_alloc_new w _) (Nat.le_refl _) (Nat.le_refl _) (by omega) rfl
    have HO0 := Lib.hid ho0
    clear ho0
    go_wp2_with
      (at_builtin
       refine wp_append_cells (w0 := w) w.heap.size rfl (.tmp 5) (.tmp 6) 22 5 (.int .u8 0) 1 1 rfl Try.underlying22 info_u8 rfl (by decide) (by decide) (.slice (some ⟨w.heap.size, 0, none⟩) 0 0) 0 [] (some ad) n c (nums .u8 xs) rfl rfl ?_ (nums_one _ _) HO0.out (hx.alloc _) ((Below.refl _ _).alloc (Nat.le_refl _) _) (by simp) ?_ ?_
       · rw [nums_length, Hn.out, Nat.mul_one]
       · omega
       intro v1 w1 ho1 hb1 _ _
       rw [List.nil_append, Nat.zero_add] at ho1
       have HO1 := Lib.hid ho1
       have HB1 := Lib.hid hb1
       clear ho1 hb1)
    go_ret
    exact ⟨_, rfl, HO1.out, HB1.out⟩
def octB (n : Int) : Prop := 0 ≤ n ∧ n ≤ 255
instance (n : Int) : Decidable (octB n) := by unfold octB; infer_instance
def packE (code id : Int) (data : List Int) : Int := if ¬ (octB code ∧ octB id) then 90 else if 16380 < data.length then 4 else 0
def packL (code id : Int) (data : List Int) : List Int := if ¬ (octB code ∧ octB id) then [] else if 16380 < data.length then [] else [code, id] ++ be ((data.length : Int) + 4) 2 ++ data
def PackTells (E : TypeId) (code id : Int) (data : List Int) (w : World) (e : Ending) (w' : World) : Prop :=
  ∃ v, e = .returned (.tuple #[v, .int .i64 (packE code id data)]) ∧ w'.ownsRow w.heap.size E 1 v (packL code id data).length (nums .u8 (packL code id data)) ∧ Below w.heap.size w w'
theorem packTells_code {E : TypeId} {code id : Int} {data : List Int} {w w' : World} (h : ¬ (octB code ∧ octB id)) (hb : Below w.heap.size w w') : PackTells E code id data w (.returned (.tuple #[.slice none 0 0, .int .i64 90])) w' :=
  ⟨_, by unfold packE; rw [if_pos h], by unfold packL; rw [if_pos h]; exact own_nil _ _ _ _, hb⟩
theorem packTells_size {E : TypeId} {code id : Int} {data : List Int} {w w' : World} (h : octB code ∧ octB id) (hl : 16380 < data.length) (hb : Below w.heap.size w w') : PackTells E code id data w (.returned (.tuple #[.slice none 0 0, .int .i64 4])) w' :=
  ⟨_, by unfold packE; rw [if_neg (by simpa using h), if_pos hl], by unfold packL; rw [if_neg (by simpa using h), if_pos hl]; exact own_nil _ _ _ _, hb⟩
theorem packTells_ok {E : TypeId} {code id : Int} {data : List Int} {v : Value} {w w' : World} (h : octB code ∧ octB id) (hl : ¬ 16380 < data.length) (hb : Below w.heap.size w w') (ho : w'.ownsRow w.heap.size E 1 v (4 + data.length) (nums .u8 ([code, id] ++ be ((data.length : Int) + 4) 2 ++ data))) :
    PackTells E code id data w (.returned (.tuple #[v, .int .i64 0])) w' := by
  refine ⟨_, by unfold packE; rw [if_neg (by simpa using h), if_neg hl], ?_, hb⟩
  unfold packL
  rw [if_neg (by simpa using h), if_neg hl, List.length_append, List.length_append, be_length]
  exact ho

/-- A row that has just been laid in a block of its own. -/
theorem own_box (w : World) (base b : Nat) (h : w.heap.size = b) (hb : base ≤ b) (cs : List Value) (n size : Nat) (hn : cs.length = n * size) (hm : n ≤ 9223372036854775807) (e : TypeId) : (w.alloc (.cells cs.toArray e)).ownsRow base e size (.slice (some ⟨b, 0, none⟩) n n) n cs := by
  subst h
  have h2 := own_of_block (n := n) (cap := n) (size := size) (heap_alloc_new w (.cells cs.toArray e)) hb (Nat.le_refl _) hm hn
  rwa [List.take_of_length_le (by omega)] at h2

end Go.Proofs.Ytobddmpiljknpaa

namespace Go.Proofs.Ytobddmpiljknpaa
open Go.RowKit
theorem run_part {P : Program} (w : World) {e : TypeId} {k : IntKind} {xs : List Int} {j : Nat} (he : P.underlying e = some (.int k)) (hj : j < xs.length) : (part e (nums k xs).toArray (j * 1)).run P w = .ok (.int k (xs.getD j 0)) w := by
  have h1 : (nums k xs).toArray[j]? = some (.int k (xs.getD j 0)) := by simpa using nums_get k xs j hj
  simp [part, isAgg, run_underlying he, h1]
theorem run_equalIn_self {P : Program} (w : World) (d : Nat) (t e : TypeId) (n : Nat) (k : IntKind) (xs : List Int) (i0 : TypeInfo) (ht : P.underlying t = some (.array n e)) (he : P.underlying e = some (.int k)) (hi : P.info? e = some i0) (hs : i0.size = 1) (hl : xs.length = n) :
    (Op.equalIn (d + 2) t (.agg (nums k xs).toArray) (.agg (nums k xs).toArray)).run P w = .ok true w := by
  rw [Op.equalIn]
  have key : ∀ (l : List Nat), (∀ j ∈ l, j < xs.length) → (forIn l ((none, ()) : Option Bool × Unit) fun i __s => do
              let __do_lift ← part e (nums k xs).toArray (i * 1)
              let __do_lift_1 ← part e (nums k xs).toArray (i * 1)
              let __do_lift ← Op.equalIn (d + 1) e __do_lift __do_lift_1
              if (!__do_lift) = true then pure (ForInStep.done (some false, ())) else pure (ForInStep.yield (none, ()))).run P w = Result.ok (none, ()) w := by
    intro l
    induction l with
    | nil => intro _; simp
    | cons j l ih =>
      intro hl
      have h1 := run_part (P := P) (k := k) (xs := xs) (j := j) w he (hl j (by simp))
      rw [List.forIn_cons]
      simp only [Sem.run_bind, h1, Result.andThen_ok, run_equalIn_int w d e k k _ _ he, beq_self_eq_true, Bool.not_true, Bool.false_eq_true, if_false, Sem.run_pure]
      exact ih fun x hx => hl x (by simp [hx])
  simp only [Sem.run_bind, run_underlying ht, Result.andThen_ok, sizeOf, typeInfo, run_program, hi, hs, Sem.run_pure, Std.Legacy.Range.forIn_eq_forIn_range', Std.Legacy.Range.size]
  rw [key _ (by intro j hj; simp at hj; omega)]
  rfl
end Go.Proofs.Ytobddmpiljknpaa

namespace Go.Proofs.Ytobddmpiljknpaa
theorem own_knob : ownKnob Try.prog.godebug = none := by kernel_rfl
theorem laid_out : laidOutB Try.prog = true := by kernel_rfl
theorem cells_u8 : Try.prog.cellsOf 5 = 1 := by kernel_rfl
theorem bytes_u8 : Try.prog.bytesOf 5 = 1 := by kernel_rfl

end Go.Proofs.Ytobddmpiljknpaa

namespace Go.Proofs.Ytobddmpiljknpaa
open Go.ChangeShapes Go.WideShapes Go.ChangeAt Go.RowKit
set_option linter.unusedVariables false
set_option linter.unusedSimpArgs false

theorem Arg.struct {P : Program} {U : Nat} {W : World} {t : TypeId} {v : Value} {fs : Array Field} (ht : P.underlying t = some (.struct fs)) (h : Arg U P W t v) : ∃ cs : List Value, v = .agg cs.toArray ∧ ArgC U P W t cs := by
  obtain ⟨⟨base, hok⟩, h⟩ := h
  obtain ⟨cs, rfl, _⟩ := okWide_struct ht hok
  exact ⟨cs.toList, by simp, by simpa [Value.cells] using h⟩
theorem sz_int : Try.prog.cellsOf 3 = 1 := by kernel_rfl
theorem sz_bytes : Try.prog.cellsOf 22 = 1 := by kernel_rfl
theorem sz_packet : Try.prog.cellsOf 24 = 3 := by kernel_rfl
/-- A slice of bytes in a cell. -/
theorem ArgC.byts {U : Nat} {W : World} {cs : List Value} (h : ArgC U Try.prog W 22 cs) : ∃ A n c xs, cs = [.slice A n c] ∧ xs.length = n ∧ n ≤ c ∧ n ≤ 140737488351232 ∧ Cells W A (Proofs.Ytobddmpiljknpaa.nums .u8 xs) ∧ Byt xs := by
  obtain ⟨A, n, c, xs, h1, hl, hnc, _, hbb, _, hC, hw⟩ := h.nums Try.underlying22 Try.underlying5 cells_u8
  rw [bytes_u8, Nat.mul_one] at hbb
  exact ⟨_, _, _, xs, h1, hl, hnc, hbb, hC, fun x hx => wf_u8 (hw x hx)⟩
theorem arg_packet {U : Nat} {W : World} {v : Value} (h : Arg U Try.prog W 24 v) : ∃ code id A n c xs, v = .agg #[.int .i64 code, .int .i64 id, .slice A n c] ∧ xs.length = n ∧ n ≤ 140737488351232 ∧ n ≤ c ∧ Cells W A (Proofs.Ytobddmpiljknpaa.nums .u8 xs) ∧ Byt xs ∧
    (-9223372036854775808 ≤ code ∧ code ≤ 9223372036854775807) ∧ -9223372036854775808 ≤ id ∧ id ≤ 9223372036854775807 := by
  obtain ⟨cs, rfl, h'⟩ := Arg.struct Try.underlying24 h
  clear h
  have h := h'
  have hl := h.len Try.underlying24
  rw [sz_packet] at hl
  match cs, hl with
  | [x, y, z], _ =>
    have h0 : ArgC U Try.prog W 3 (([x, y, z].drop 0).take (Try.prog.cellsOf 3)) := h.field Try.underlying24 (i := 0) rfl
    have h1 : ArgC U Try.prog W 3 (([x, y, z].drop 1).take (Try.prog.cellsOf 3)) := h.field Try.underlying24 (i := 1) rfl
    have h2 : ArgC U Try.prog W 22 (([x, y, z].drop 2).take (Try.prog.cellsOf 22)) := h.field Try.underlying24 (i := 2) rfl
    rw [sz_int] at h0 h1
    rw [sz_bytes] at h2
    obtain ⟨a, e0, w0⟩ := h0.int Try.underlying3
    obtain ⟨b, e1, w1⟩ := h1.int Try.underlying3
    obtain ⟨A, n, c, xs, e2, hl, hnc, hn, hC, hB⟩ := h2.byts
    simp at e0 e1 e2
    subst e0 e1 e2
    exact ⟨_, _, _, _, _, xs, rfl, hl, hn, hnc, hC, hB, wf_i64 w0, wf_i64 w1⟩
end Go.Proofs.Ytobddmpiljknpaa
