/-
  A SLICE OF BYTES OF THE CALL's OWN THAT MAY BEGIN IN THE MIDDLE OF ITS ROW ('left = left[64:]'); append onto it. No condition: nothing here speaks of one program.
-/
import Derived.Test.YtobddmpiljknpaaExt
import Derived.ArgAppend
import Derived.Test.YtobddmpiljknpaaBytes
namespace Go.Proofs.Ytobddmpiljknpaa
open Go.RowKit
set_option linter.unusedVariables false

def Tail (w : World) (base : Nat) (v : Value) (n : Nat) (xs : List Value) : Prop :=
  xs.length = n ∧ ((v = .slice none 0 0 ∧ n = 0) ∨ ∃ g off cap, v = .slice (some ⟨g, off, none⟩) n cap ∧ base ≤ g ∧ g < w.heap.size ∧ n ≤ cap ∧ cap ≤ maxLen ∧
    (∀ j u, xs[j]? = some u → w.cell? ⟨g, off + j, none⟩ = some u) ∧ ∀ j, j < cap → (w.cell? ⟨g, off + j, none⟩).isSome = true ∧ w.frozen? ⟨g, off + j, none⟩ = false)
section
variable {w w' : World} {base : Nat} {v : Value} {n : Nat} {xs : List Value}
theorem Tail.nil_ (w : World) (base : Nat) : Tail w base (.slice none 0 0) 0 [] := ⟨rfl, .inl ⟨rfl, rfl⟩⟩
theorem Tail.of_own {e : TypeId} (h : w.ownsRow base e 1 v n xs) : Tail w base v n xs := by
  refine ⟨own_len1 h, ?_⟩
  rcases h.2 with ⟨rfl, rfl⟩ | ⟨g, cap, cur, rfl, hb, hg, hc, hm, hs, ht⟩
  · exact .inl ⟨rfl, rfl⟩
  · refine .inr ⟨g, 0, cap, rfl, hb, at_lt hg, hc, hm, fun j u hu => ?_, fun j hj => ?_⟩
    · rw [Nat.zero_add, h.cellAt j (by have := (List.getElem?_eq_some_iff.1 hu).1; rw [own_len1 h] at this; omega)]
      exact hu
    · rw [Nat.zero_add, at_cell hg j]
      exact ⟨by rw [Array.getElem?_eq_getElem (by omega)]; rfl, at_frozen hg j⟩
theorem Tail.grown {row : Option Nat} (h : Tail w base v n xs) (hg : w.grownBy w' row) (hne : v.ownBlock = none ∨ v.ownBlock ≠ row) : Tail w' base v n xs := by
  refine ⟨h.1, h.2.imp id ?_⟩
  rintro ⟨g, off, cap, rfl, hb, hlt, hc, hm, h1, h2⟩
  have hk : w'.heap[g]? = w.heap[g]? := hg.block g hlt (fun he => by rcases hne with h | h; cases h; exact h he)
  refine ⟨g, off, cap, rfl, hb, Nat.lt_of_lt_of_le hlt hg.size, hc, hm, fun j u hu => ?_, fun j hj => ?_⟩
  · rw [World.cell?_of_block (a := ⟨g, off + j, none⟩) hk]
    exact h1 j u hu
  · rw [World.cell?_of_block (a := ⟨g, off + j, none⟩) hk, World.frozen?_of_block (a := ⟨g, off + j, none⟩) hk]
    exact h2 j hj
theorem Tail.ext [h : Ext w w'] (k : Tail w base v n xs) : Tail w' base v n xs := k.grown (row := none) (grown_of_below h.out none) (by cases v.ownBlock <;> simp)
theorem Tail.weaken {b' : Nat} (h : Tail w base v n xs) (hb : b' ≤ base) : Tail w b' v n xs := ⟨h.1, h.2.imp id fun ⟨g, off, cap, h1, h2, h3⟩ => ⟨g, off, cap, h1, Nat.le_trans hb h2, h3⟩⟩
theorem Tail.slice (h : Tail w base v n xs) : ∃ A c, v = .slice A n c ∧ n ≤ c := by
  rcases h.2 with ⟨rfl, rfl⟩ | ⟨g, off, cap, rfl, _, _, hc, _⟩
  · exact ⟨none, 0, rfl, Nat.le_refl _⟩
  · exact ⟨_, cap, rfl, hc⟩
theorem Tail.cells {A : Option Addr} {m c : Nat} (h : Tail w base (.slice A m c) n xs) : Cells w A xs := by
  intro hn
  rcases h.2 with ⟨hv, rfl⟩ | ⟨g, off, cap, hv, _, _, _, _, h1, _⟩
  · rw [h.1] at hn; omega
  · injection hv with hA _ _
    subst hA
    refine ⟨_, rfl, fun j u hu => ?_⟩
    rw [add_off _ _ rfl]
    exact h1 j u hu
theorem Tail.lt (h : Tail w base v n xs) (k : Nat) (hk : v.ownBlock = some k) : base ≤ k ∧ k < w.heap.size := by
  rcases h.2 with ⟨rfl, _⟩ | ⟨g, off, cap, rfl, hb, hlt, _⟩
  · cases hk
  · injection hk with hk
    subst hk
    exact ⟨hb, hlt⟩
theorem Tail.drop {A : Option Addr} {c : Nat} (h : Tail w base (.slice A n c) n xs) (i : Nat) (hi : i ≤ n) : Tail w base (.slice (if c = i then A else A.map (·.add i)) (n - i) (c - i)) (n - i) (xs.drop i) := by
  refine ⟨by rw [List.length_drop, h.1], ?_⟩
  rcases h.2 with ⟨hv, rfl⟩ | ⟨g, off, cap, hv, hb, hlt, hc, hm, h1, h2⟩
  · injection hv with hA _ hc
    subst hA hc
    obtain rfl : i = 0 := by omega
    exact .inl ⟨rfl, rfl⟩
  · injection hv with hA _ hc'
    subst hA hc'
    by_cases hci : c = i
    · rw [if_pos hci]
      subst hci
      refine .inr ⟨g, off, c - c, rfl, hb, hlt, by omega, by omega, fun j u hu => ?_, fun j hj => by omega⟩
      have := (List.getElem?_eq_some_iff.1 hu).1
      rw [List.length_drop, h.1] at this
      omega
    · rw [if_neg hci]
      refine .inr ⟨g, off + i, c - i, by rw [Option.map_some, add_off _ _ rfl], hb, hlt, by omega, by omega, fun j u hu => ?_, fun j hj => ?_⟩
      · rw [List.getElem?_drop] at hu
        rw [Nat.add_assoc]
        exact h1 _ u hu
      · rw [Nat.add_assoc]
        exact h2 (i + j) (by omega)
end
theorem grown_setCells (b : Nat) : ∀ (vs : List Value) (o : Nat) {w w1 : World} {row : Option Nat}, w.grownBy w1 row → (w.heap.size ≤ b ∨ some b = row) → w.grownBy (w1.setCells b o vs) row
  | [], _, _, _, _, h, _ => h
  | v :: vs, o, _, _, _, h, hp => grown_setCells b vs (o + 1) (grown_setCell (p := ⟨b, o, none⟩) h hp v) hp
section
variable {P : Program} {ops : Array Oper} {rest : List Oper} {o : Oper} {a : Act} {Q : Exit → Act → World → Prop}
theorem run_append_tail (W : World) (base : Nat) (t ty e : TypeId) (z : Value) (bytes : Nat)
    (ht : P.underlying t = some (.slice e)) (hinfo : (P.info? e).map (fun i => (i.zero, i.size, i.bytes)) = some (some z, 1, bytes)) (hz : z.cells.size = 1) (hb0 : 0 < bytes)
    (v : Value) (n : Nat) (cs : List Value) (A : Option Addr) (m c : Nat) (ds : List Value) (hl : ds.length = m) (h1 : ∀ u ∈ ds, u.oneCell' = true)
    (HO : Tail W base v n cs) (HC : Cells W A ds) (hbase : base ≤ W.heap.size) (hk : (n + m) * bytes ≤ 140737488355328) :
    ∃ v1 w1, (Builtin.append_ #[t, t] ty #[v, .slice A m c]).run P W = .ok v1 w1 ∧ Tail w1 base v1 (n + m) (cs ++ ds) ∧ W.grownBy w1 v.ownBlock ∧ (v1.ownBlock = v.ownBlock ∨ ∃ b, v1.ownBlock = some b ∧ W.heap.size ≤ b) := by
  obtain ⟨i0, hi, hzz⟩ := Option.map_eq_some_iff.1 hinfo
  simp only [Prod.mk.injEq] at hzz
  obtain ⟨hz0, hz1, hz2⟩ := hzz
  have hlen : n + m ≤ 140737488355328 := Nat.le_trans (Nat.le_mul_of_pos_right _ hb0) hk
  rcases HO.2 with ⟨rfl, rfl⟩ | ⟨g, off, cap, rfl, hb, hlt, hc, hm, h2, h3⟩
  · obtain rfl : cs = [] := List.eq_nil_of_length_eq_zero HO.1
    obtain ⟨v1, w1, hr, ho, hg, hat⟩ := run_append_cells (P := P) W base t ty e z 1 bytes ht hinfo hz (by decide) hb0 (.slice none 0 0) 0 [] A m c ds (by rw [hl, Nat.mul_one]) h1 (own_nil _ _ _ _) HC hbase hk
    exact ⟨v1, w1, hr, Tail.of_own ho, hg, hat.imp id fun h => ⟨_, h, Nat.le_refl _⟩⟩
  · rcases A with _ | ad
    · have hd : ds = [] := by
        rcases Nat.eq_zero_or_pos ds.length with h0 | h0
        · exact List.eq_nil_of_length_eq_zero h0
        · obtain ⟨ad, h, _⟩ := HC h0
          cases h
      subst hd
      obtain rfl : m = 0 := by simpa using hl.symm
      refine ⟨_, W, ?_, by simpa using HO, grown_refl _ _, .inl rfl⟩
      simp [Builtin.append_, run_underlying ht, sizeOf, typeInfo, hi, Builtin.lenOf, Builtin.firstCells, hc, storeCells]
    · have hcells : ∀ j u, ds[j]? = some u → W.cell? (ad.add j) = some u := by
        intro j u hu
        have hj : j < ds.length := (List.getElem?_eq_some_iff.1 hu).1
        obtain ⟨ad', h, hc⟩ := HC (by omega)
        injection h with h
        subst h
        exact hc j u hu
      by_cases hroom : n + m ≤ cap
      · have hr := run_append_room_cells (P := P) W t ty e i0 ht hi g off n cap ad m c ds (by rw [hl, hz1, Nat.mul_one]) hcells h1 hroom
          (fun j hj => by rw [hz1, Nat.mul_one, Nat.add_assoc]; exact (h3 (n + j) (by omega)).1) (fun j hj => by rw [hz1, Nat.mul_one, Nat.add_assoc]; exact (h3 (n + j) (by omega)).2)
        rw [hz1, Nat.mul_one] at hr
        have hgr : W.grownBy (W.setCells g (off + n) ds) (some g) := grown_setCells g ds _ (grown_refl _ _) (.inr rfl)
        refine ⟨_, _, hr, ⟨by rw [List.length_append, HO.1, hl], .inr ⟨g, off, cap, rfl, hb, Nat.lt_of_lt_of_le hlt hgr.size, hroom, hm, fun j u hu => ?_, fun j hj => ?_⟩⟩, hgr, .inl rfl⟩
        · by_cases hj : j < cs.length
          · rw [List.getElem?_append_left hj] at hu
            rw [World.cell?_setCells_out g _ _ _ _ (fun _ _ => Or.inl (by show off + j < off + n; have := HO.1; omega))]
            exact h2 j u hu
          · rw [List.getElem?_append_right (by omega)] at hu
            have hlt' : j - cs.length < ds.length := (List.getElem?_eq_some_iff.1 hu).1
            have hin := World.cell?_setCells_in g ds (off + n) W (fun j hj => by rw [Nat.add_assoc]; exact (h3 (n + j) (by omega)).1) (j - cs.length) hlt'
            rw [show off + n + (j - cs.length) = off + j by have := HO.1; omega] at hin
            rw [hin, ← hu, List.getElem?_eq_getElem hlt']
        · refine ⟨?_, by rw [World.frozen?_setCells]; exact (h3 j hj).2⟩
          by_cases hin : n ≤ j ∧ j < n + m
          · have h4 := World.cell?_setCells_in g ds (off + n) W (fun j hj => by rw [Nat.add_assoc]; exact (h3 (n + j) (by omega)).1) (j - n) (by omega)
            rw [show off + n + (j - n) = off + j by omega] at h4
            rw [h4]
            rfl
          · rw [World.cell?_setCells_out g _ _ _ _ (fun _ _ => by show off + j < off + n ∨ off + n + ds.length ≤ off + j; omega)]
            exact (h3 j hj).1
      · obtain ⟨v1, w1, hr, ho, hg⟩ := run_append_arg_grows (P := P) W t ty e i0 z 1 bytes ht hi hz0 hz1 hz2 hz (by decide) ⟨g, off, none⟩ n cap cs (by rw [HO.1, Nat.mul_one]) (fun j u hu => by rw [add_off _ _ rfl]; exact h2 j u hu) ad m c ds (by rw [hl, Nat.mul_one]) hcells (by omega) (by simp only [maxLen]; omega) hk
        refine ⟨v1, w1, hr, (Tail.of_own ho).weaken hbase, ⟨hg.os, hg.tape, hg.output, hg.size, fun k hk _ => hg.block k hk (by simp)⟩, .inr ?_⟩
        obtain ⟨g', c', rfl, hb', _⟩ := own_form ho (by omega)
        exact ⟨g', rfl, hb'⟩
/-- 'append(v, xs...)': v a slice of bytes of the call's own, wherever it begins. -/
theorem wp_append_tail {w0 W : World} (base : Nat) (hgd : o.guard = none) (s x : Operand) (t e : TypeId) (z : Value) (bytes : Nat)
    (ho : o.op = .call { callee := .builtin .append, args := #[s, x], argTypes := #[t, t] })
    (ht : P.underlying t = some (.slice e)) (hinfo : (P.info? e).map (fun i => (i.zero, i.size, i.bytes)) = some (some z, 1, bytes)) (hz : z.cells.size = 1) (hb0 : 0 < bytes)
    (v : Value) (n : Nat) (cs : List Value) (A : Option Addr) (m c : Nat) (ds : List Value) (hs : a.eval s = v) (hx : a.eval x = .slice A m c) (hl : ds.length = m) (h1 : ∀ u ∈ ds, u.oneCell' = true)
    (HO : Tail W base v n cs) (HC : Cells W A ds) (HB : Below base w0 W) (hbase : base ≤ W.heap.size) (hk : (n + m) * bytes ≤ 140737488355328)
    (h : ∀ v1 w1, Tail w1 base v1 (n + m) (cs ++ ds) → Below base w0 w1 → W.grownBy w1 v.ownBlock → (v1.ownBlock = v.ownBlock ∨ ∃ b, v1.ownBlock = some b ∧ W.heap.size ≤ b) → wpList P ops Q rest (a.put o.dst v1) w1) :
    wpList P ops Q (o :: rest) a W := by
  obtain ⟨v1, w1, hrun, h2, h3, h4⟩ := run_append_tail (P := P) W base t o.type e z bytes ht hinfo hz hb0 v n cs A m c ds hl h1 HO HC hbase hk
  refine wpList_plain hgd fun K hK => ?_
  unfold Oper.wp execOp
  simp only [ho, resolve, invoke, builtin, Sem.run_bind, Sem.run_pure, Result.andThen_ok, List.map_toArray, List.map_cons, List.map_nil, hs, hx, hrun]
  exact hK _ _ (h v1 w1 h2 (HB.grown h3 hbase (fun k hk => (HO.lt k hk).1)) h3 h4)
end
end Go.Proofs.Ytobddmpiljknpaa
