/-
  tetherlaw04.alike at lists that are the same; the reference's Blocks. Conditions: the lists are no longer than the model's memory.
-/
import Derived.Test.YtmopdimokoogmaaMdV
import Derived.Deep.MidRow
namespace Go.Proofs.Ytmopdimokoogmaa
open Go.RowKit
set_option linter.unusedVariables false
set_option linter.unusedSimpArgs false

theorem flat16_len (L : List A16) : (flat16 L).length = L.length * 16 := by
  induction L with
  | nil => rfl
  | cons x L ih =>
    rw [show flat16 (x :: L) = nums .u8 x.1 ++ flat16 L from rfl, List.length_append, ih, nums_length, x.2, List.length_cons]
    omega
theorem flat16_get : ∀ (L : List A16) (k : Nat) (x : A16), L[k]? = some x → ∀ j, j < 16 → (flat16 L)[k * 16 + j]? = (nums .u8 x.1)[j]?
  | [], k, x, h, _, _ => by simp at h
  | y :: L, 0, x, h, j, hj => by
    simp at h
    subst h
    rw [show flat16 (y :: L) = nums .u8 y.1 ++ flat16 L from rfl, Nat.zero_mul, Nat.zero_add, List.getElem?_append_left (by rw [nums_length, y.2]; exact hj)]
  | y :: L, k + 1, x, h, j, hj => by
    have ih := flat16_get L k x (by simpa using h) j hj
    rw [show flat16 (y :: L) = nums .u8 y.1 ++ flat16 L from rfl, List.getElem?_append_right (by rw [nums_length, y.2]; omega), nums_length, y.2, ← ih]
    congr 1
    omega
theorem range16 {W : World} {base n g c k : Nat} {L : List A16} {x : A16} (h : W.ownsRow base 44 16 (.slice (some ⟨g, 0, none⟩) n c) n (flat16 L)) (hx : L[k]? = some x) (hn : L.length = n) : W.rangeAt g (k * 16) (nums .u8 x.1) := by
  intro j u hu
  have hj : j < 16 := by have := (List.getElem?_eq_some_iff.1 hu).1; rwa [nums_length, x.2] at this
  have hk : k < n := by rw [← hn]; exact (List.getElem?_eq_some_iff.1 hx).1
  rw [h.cellAt (k * 16 + j) (by omega), flat16_get L k x hx j hj]
  exact hu
set_option maxRecDepth 100000 in
set_option maxHeartbeats 4000000 in
theorem alike_same (A B : Option Addr) (n c d b1 b2 : Nat) (L : List A16) (hn : L.length = n) (hn' : n ≤ 9223372036854775807) (w : World) (hx : w.ownsRow b1 44 16 (.slice A n c) n (flat16 L)) (hy : w.ownsRow b2 44 16 (.slice B n d) n (flat16 L)) :
    Calls Try.prog 47 #[.slice A n c, .slice B n d] w fun e w' => e = .returned (.bool true) ∧ Below w.heap.size w w' := by
  have HN := Lib.hid hn
  have HX := Lib.hid hx
  have HY := Lib.hid hy
  clear hn hx hy
  obtain ⟨i0, hi0, hzz⟩ := Option.map_eq_some_iff.1 info_u8
  have HI0 := Lib.hid hi0
  have HZZ : Hid (i0.size = 1) := by simp only [Prod.mk.injEq] at hzz; exact hzz.2.1
  clear hi0 hzz
  go_enter Try.func47, Try.ntmps47
  go_wp2
  go_loopw [13] (fun i wr => ∃ k : Nat, i = .int .i64 k ∧ k ≤ n ∧ Hid (Ext w wr)) (fun i _ => n - (intOf i).toNat)
  case atStart => exact ⟨0, rfl, by omega, (inferInstance : Ext w w)⟩
  case round =>
    obtain ⟨k, rfl, hk, HE⟩ := hrel
    have XE : Ext w wr := HE.out
    by_cases hlt : k < n
    · obtain ⟨g1, c1, he1, _⟩ := own_form HX.out (by omega)
      injection he1 with he1 _ he1'
      subst he1 he1'
      obtain ⟨g2, c2, he2, _⟩ := own_form HY.out (by omega)
      injection he2 with he2 _ he2'
      subst he2 he2'
      obtain ⟨x, hx⟩ : ∃ x, L[k]? = some x := ⟨_, List.getElem?_eq_getElem (by rw [HN.out]; exact hlt)⟩
      have HLX := Lib.hid hx
      have hEq : ∀ W : World, (Op.equalIn 10000 44 (.agg (nums .u8 x.1).toArray) (.agg (nums .u8 x.1).toArray)).run Try.prog W = .ok true W := fun W => run_equalIn_self W 9998 44 5 16 .u8 x.1 i0 Try.underlying44 Try.underlying5 HI0.out HZZ.out x.2
      have HIX : Hid ((Try.prog.info? 44).map (·.size) = some (nums .u8 x.1).length) := by
        unfold Hid
        rw [nums_length, x.2]
        kernel_rfl
      clear hx
      go_wp2
      refine wp_region_held_drew (S := fun W => Ext w W) (by kernel_rfl) (by exact inferInstance) (fun hHeld => ?_)
      refine wpAnyH_take (i := 0) (v := ?_) rfl (by kernel_rfl) (by kernel_rfl) (by kernel_rfl) (fun _ _ _ h => h) (Yields.yieldsIf (Or.inl ⟨by rfl, ?_⟩)) hHeld ?_
      rotate_left
      · intro W
        go_simp
        try with_reducible rfl
      simp only [List.getElem_toArray, List.getElem_cons_succ, List.getElem_cons_zero, Act.put, List.setIfInBounds_toArray, List.set_cons_zero, List.set_cons_succ]
      refine wpAnyH_take (i := 1) (v := ?_) rfl (by kernel_rfl) (by kernel_rfl) (by kernel_rfl) (fun _ _ _ h => h) (Yields.yieldsIf (Or.inl ⟨by rfl, ?_⟩)) hHeld ?_
      rotate_left
      · intro W
        go_simp
        try with_reducible rfl
      simp only [List.getElem_toArray, List.getElem_cons_succ, List.getElem_cons_zero, Act.put, List.setIfInBounds_toArray, List.set_cons_zero, List.set_cons_succ]
      refine wpAnyH_take (i := 2) (v := ?_) rfl (by kernel_rfl) (by kernel_rfl) (by kernel_rfl) (fun _ _ _ h => h) (Yields.yieldsIf (Or.inl ⟨by rfl, ?_⟩)) hHeld ?_
      rotate_left
      · intro W
        go_simp
        try with_reducible rfl
      simp only [List.getElem_toArray, List.getElem_cons_succ, List.getElem_cons_zero, Act.put, List.setIfInBounds_toArray, List.set_cons_zero, List.set_cons_succ]
      refine wpAnyH_take (i := 3) (v := .agg (nums .u8 x.1).toArray) rfl (by kernel_rfl) (by kernel_rfl) (by kernel_rfl) (fun _ _ _ h => h) (yieldsIf_load_mid (by rfl) 44 (.tmp 18) rfl g1 (k * 16) rfl (nums .u8 x.1) _ (fun W hW => range16 (own_ext (h := hW) HX.out) HLX.out HN.out) Try.underlying44 rfl HIX.out) hHeld ?_
      simp only [List.getElem_toArray, List.getElem_cons_succ, List.getElem_cons_zero, Act.put, List.setIfInBounds_toArray, List.set_cons_zero, List.set_cons_succ]
      refine wpAnyH_take (i := 4) (v := ?_) rfl (by kernel_rfl) (by kernel_rfl) (by kernel_rfl) (fun _ _ _ h => h) (Yields.yieldsIf (Or.inl ⟨by rfl, ?_⟩)) hHeld ?_
      rotate_left
      · intro W
        go_simp
        try with_reducible rfl
      simp only [List.getElem_toArray, List.getElem_cons_succ, List.getElem_cons_zero, Act.put, List.setIfInBounds_toArray, List.set_cons_zero, List.set_cons_succ]
      refine wpAnyH_take (i := 5) (v := ?_) rfl (by kernel_rfl) (by kernel_rfl) (by kernel_rfl) (fun _ _ _ h => h) (Yields.yieldsIf (Or.inl ⟨by rfl, ?_⟩)) hHeld ?_
      rotate_left
      · intro W
        go_simp
        try with_reducible rfl
      simp only [List.getElem_toArray, List.getElem_cons_succ, List.getElem_cons_zero, Act.put, List.setIfInBounds_toArray, List.set_cons_zero, List.set_cons_succ]
      refine wpAnyH_take (i := 6) (v := ?_) rfl (by kernel_rfl) (by kernel_rfl) (by kernel_rfl) (fun _ _ _ h => h) (Yields.yieldsIf (Or.inl ⟨by rfl, ?_⟩)) hHeld ?_
      rotate_left
      · intro W
        go_simp
        try with_reducible rfl
      simp only [List.getElem_toArray, List.getElem_cons_succ, List.getElem_cons_zero, Act.put, List.setIfInBounds_toArray, List.set_cons_zero, List.set_cons_succ]
      refine wpAnyH_take (i := 7) (v := .agg (nums .u8 x.1).toArray) rfl (by kernel_rfl) (by kernel_rfl) (by kernel_rfl) (fun _ _ _ h => h) (yieldsIf_load_mid (by rfl) 44 (.tmp 22) rfl g2 (k * 16) rfl (nums .u8 x.1) _ (fun W hW => range16 (own_ext (h := hW) HY.out) HLX.out HN.out) Try.underlying44 rfl HIX.out) hHeld ?_
      simp only [List.getElem_toArray, List.getElem_cons_succ, List.getElem_cons_zero, Act.put, List.setIfInBounds_toArray, List.set_cons_zero, List.set_cons_succ]
      refine wpAnyH_take (i := 8) (v := ?_) rfl (by kernel_rfl) (by kernel_rfl) (by kernel_rfl) (fun _ _ _ h => h) (Yields.yieldsIf (Or.inl ⟨by rfl, ?_⟩)) hHeld ?_
      rotate_left
      · intro W
        go_simp
        try with_reducible rfl
      simp only [List.getElem_toArray, List.getElem_cons_succ, List.getElem_cons_zero, Act.put, List.setIfInBounds_toArray, List.set_cons_zero, List.set_cons_succ]
      refine wpAnyH_done (by kernel_rfl) ?_ _
      clear hHeld
      go_wp2
      go_roundw
      case rel => exact ⟨k + 1, by go_num, by omega, (inferInstance : Ext w wr.drew)⟩
      case measure => simp [intOf]; omega
    · go_wp2
      go_ret
      exact ⟨rfl, Ext.out⟩
theorem own_setRow {W : World} {base n size g : Nat} {e : TypeId} {v : Value} {cs : List Value} (h : W.ownsRow base e size v n cs) (hne : v.ownBlock ≠ some g) (row : Array Value) : (W.setRow g row).ownsRow base e size v n cs :=
  h.kept (row := some g) ⟨rfl, rfl, rfl, by simp [World.setRow], fun k _ hk => setRow_other _ _ _ _ (fun e => hk (by rw [e]))⟩ (.inr hne)
theorem a16_val (s : W4) : (a16 s).1 = toldS s 16 := by simp only [a16]
/-- The blocks' digests so far. -/
def blkL (xs : List Int) (j : Nat) : List A16 := (mdPast beginW xs j).map a16
theorem blkL_succ (xs : List Int) (j : Nat) : blkL xs (j + 1) = blkL xs j ++ [a16 (mdN beginW xs (j + 1))] := by
  unfold blkL
  rw [mdPast_succ, List.map_append]
  rfl
theorem blkL_len (xs : List Int) (j : Nat) : (blkL xs j).length = j := by rw [blkL, List.length_map, mdPast_len]
set_option maxRecDepth 100000 in
set_option maxHeartbeats 8000000 in
theorem rblocks4_any (A : Option Addr) (m c : Nat) (xs : List Int) (hm : xs.length = m) (hmc : m ≤ c) (hm' : m ≤ 140737488355200) (hby : Byt xs) (w : World) (hy : Cells w A (nums .u8 xs)) :
    Calls Try.prog 49 #[.slice A m c] w fun e w' => ∃ v, e = .returned v ∧ w'.ownsRow w.heap.size 44 16 v (m / 64) (flat16 (blkL xs (m / 64))) ∧ Below w.heap.size w w' := by
  have HBX := Lib.hid hby
  have HXL := Lib.hid hm
  have HY := Lib.hid hy
  clear hm hby hy
  go_enter Try.func49, Try.ntmps49
  go_wp2_with fail
  refine (rbegin4_any _).mono ?_
  rintro e w8 ⟨rfl, hb8⟩
  have S8 : Step w8 _ := ⟨hb8⟩
  clear hb8
  rw [begin_nums]
  simp only [nums, List.map_cons, List.map_nil]
  have HC8 : Hid (Cells w8 A (nums .u8 xs)) := HY.out.ext
  have X8 : Ext w w8 := inferInstance
  have HX8 := Lib.hid X8
  go_wp2
  go_loopw [3, 5] (fun v i wr' => ∃ (j : Nat) (L : Option Addr) (cl : Nat), i = .int .i64 (64 * j : Nat) ∧ 64 * j ≤ m ∧ v = .slice L j cl ∧ Hid (wr'.ownsRow w8.heap.size 44 16 (.slice L j cl) j (flat16 (blkL xs j))) ∧ Hid ((Value.slice L j cl).ownBlock ≠ some w8.heap.size) ∧ Hid (wr'.heap[w8.heap.size]? = some (cV (mdN beginW xs j))) ∧ Hid (Ext w8 wr')) (fun _ i _ => m - (intOf i).toNat)
  case atStart => exact ⟨0, none, 0, rfl, by omega, rfl, own_nil _ _ _ _, (by unfold Hid; simp [Value.ownBlock]), at_new w8 _, (inferInstance : Ext w8 (World.alloc _ _))⟩
  case round =>
    obtain ⟨j, L, cl, rfl, hj, rfl, HO, HNE, HK6, HX6⟩ := hrel
    have X9 : Ext w8 wr := HX6.out
    have HC6 : Hid (Cells wr A (nums .u8 xs)) := HC8.out.ext
    obtain ⟨⟨a1, b1, c1, d1⟩, hq⟩ : ∃ q, mdN beginW xs j = q := ⟨_, rfl⟩
    rw [hq] at HK6
    by_cases hlt : 64 * j + 64 ≤ m
    · obtain ⟨bs, hbs⟩ : ∃ bs, xs.drop (64 * j) = bs := ⟨_, rfl⟩
      have HBB : Hid (Byt (bs.take 64)) := by rw [← hbs]; exact (HBX.out.drop _).take _
      have HBL : Hid ((bs.take 64).length = 64) := by unfold Hid; rw [List.length_take, ← hbs, List.length_drop, HXL.out]; omega
      obtain ⟨⟨a2, b2, c2, d2⟩, hq2⟩ : ∃ q, mdBlock (a1, b1, c1, d1) bs = q := ⟨_, rfl⟩
      have HQ2 : Hid (mdBlock (a1, b1, c1, d1) (bs.take 64) = (a2, b2, c2, d2)) := by
        unfold Hid
        rw [← hq2]
        refine mdBlock_ext _ fun k hk => ?_
        simp only [List.getD_eq_getElem?_getD]
        rw [List.getElem?_take_of_lt hk]
      have HNX : Hid (mdN beginW xs (j + 1) = (a2, b2, c2, d2)) := by
        unfold Hid
        rw [mdN, hq, hbs]
        exact hq2
      obtain ⟨ad, rfl, hat⟩ := HC6.out (by rw [nums_length, HXL.out]; omega)
      have HBC : Hid (Cells wr (some (ad.add (64 * j))) (nums .u8 (bs.take 64))) := by
        have h1 := HC6.out.drop (n := m) (c := c) (size := 1) (by rw [nums_length, Nat.mul_one, HXL.out]) hmc (64 * j) (by omega)
        rw [if_neg (by omega), Nat.mul_one, ← nums_drop, hbs] at h1
        have h2 := h1.take 64
        rw [← nums_take] at h2
        exact h2
      clear hq hq2 hbs hat
      have hltI : (64 : Int) * (j : Int) + 64 ≤ (m : Int) := by omega
      have wi : IntKind.i64.wrap (64 * (j : Int) + 64) = 64 * (j : Int) + 64 := by rw [IntKind.wrap_i64]; omega
      have g0 : (0 : Int) ≤ 64 * (j : Int) := by omega
      have g1 : 64 * (j : Int) ≤ 64 * (j : Int) + 64 := by omega
      have g2 : 64 * (j : Int) + 64 ≤ (c : Int) := by omega
      have g3 : (64 * (j : Int)).toNat = 64 * j := by omega
      have g4 : (64 * (j : Int) + 64).toNat = 64 * j + 64 := by omega
      have g5 : ¬ c = 64 * j := by omega
      have g6 : 64 * j + 64 - 64 * j = 64 := by omega
      have hcc : 64 ≤ c - 64 * j := by omega
      have z9 : w8.heap.size < wr.heap.size := at_lt HK6.out
      go_wp2
      refine wp_region_held_drew (S := fun W => Ext w8 W) (by kernel_rfl) (by exact inferInstance) (fun hHeld => ?_)
      refine wpAnyH_take (i := 1) (v := ?_) rfl (by kernel_rfl) (by kernel_rfl) (by kernel_rfl) (fun _ _ _ h => h) (Yields.yieldsIf (Or.inl ⟨by rfl, ?_⟩)) hHeld ?_
      rotate_left
      · intro W
        go_simp
        try with_reducible rfl
      simp only [List.getElem_toArray, List.getElem_cons_succ, List.getElem_cons_zero, Act.put, List.setIfInBounds_toArray, List.set_cons_zero, List.set_cons_succ]
      refine wpAnyH_take (i := 2) (v := ?_) rfl (by kernel_rfl) (by kernel_rfl) (by kernel_rfl) (fun _ _ _ h => h) (Yields.yieldsIf (Or.inl ⟨by rfl, ?_⟩)) hHeld ?_
      rotate_left
      · intro W
        go_simp
        try with_reducible rfl
      simp only [List.getElem_toArray, List.getElem_cons_succ, List.getElem_cons_zero, Act.put, List.setIfInBounds_toArray, List.set_cons_zero, List.set_cons_succ]
      refine wpAnyH_take (i := 3) (v := ?_) rfl (by kernel_rfl) (by kernel_rfl) (by kernel_rfl) (fun _ _ _ h => h) (Yields.yieldsIf (Or.inl ⟨by rfl, ?_⟩)) hHeld ?_
      rotate_left
      · intro W
        go_simp
        try with_reducible rfl
      simp only [List.getElem_toArray, List.getElem_cons_succ, List.getElem_cons_zero, Act.put, List.setIfInBounds_toArray, List.set_cons_zero, List.set_cons_succ]
      refine wpAnyH_take (i := 4) (v := ?_) rfl (by kernel_rfl) (by kernel_rfl) (by kernel_rfl) (fun _ _ _ h => h) (Yields.yieldsIf (Or.inl ⟨by rfl, ?_⟩)) hHeld ?_
      rotate_left
      · intro W
        go_simp
        try with_reducible rfl
      simp only [List.getElem_toArray, List.getElem_cons_succ, List.getElem_cons_zero, Act.put, List.setIfInBounds_toArray, List.set_cons_zero, List.set_cons_succ]
      refine wpAnyH_take (i := 5) (v := ?_) rfl (by kernel_rfl) (by kernel_rfl) (by kernel_rfl) (fun _ _ _ h => h) (Yields.yieldsIf (Or.inl ⟨by rfl, ?_⟩)) hHeld ?_
      rotate_left
      · intro W
        go_simp
        try with_reducible rfl
      simp only [List.getElem_toArray, List.getElem_cons_succ, List.getElem_cons_zero, Act.put, List.setIfInBounds_toArray, List.set_cons_zero, List.set_cons_succ]
      refine wpAnyH_ready (rs := [0]) (by kernel_rfl) (by simp) ?_
      refine AllReadyH.cons rfl (fun K hK => ?_) AllReadyH.nil
      refine step_load_row (by rfl) 89 (.tmp 4) rfl w8.heap.size rfl 89 #[.int .u32 a1, .int .u32 b1, .int .u32 c1, .int .u32 d1] (0, 0) _ (by exact HK6.out) Try.underlying89 rfl (by kernel_rfl) ?_
      clear hHeld
      refine hK.out _ _ (by exact inferInstance) (fun hHeld => ?_)
      clear hK K
      simp only [List.getElem_toArray, List.getElem_cons_succ, List.getElem_cons_zero, Act.put, List.setIfInBounds_toArray, List.set_cons_zero, List.set_cons_succ]
      refine wpAnyH_ready (rs := [6]) (by kernel_rfl) (by simp) ?_
      refine AllReadyH.cons rfl (fun K hK => ?_) AllReadyH.nil
      refine step_call_w (by rfl) Try.func68 (by kernel_rfl) (by kernel_rfl) #[.tmp 14, .tmp 19] #[89, 42] rfl #[.agg #[.int .u32 a1, .int .u32 b1, .int .u32 c1, .int .u32 d1], .slice (some (ad.add (64 * j))) 64 (c - 64 * j)] ?hv (rblock4_any a1 b1 c1 d1 (some (ad.add (64 * j))) 64 (c - 64 * j) (bs.take 64) HBL.out (Nat.le_refl _) hcc HBB.out _ (by exact HBC.out.ext)) ?_
      case hv => go_simp
      rintro e w5 ⟨rfl, hb5⟩
      refine ⟨_, rfl, ?_⟩
      rw [HQ2.out]
      simp only
      have S5 : Step w5 _ := ⟨hb5⟩
      have HK5 := Lib.hid (at_ext (w' := w5) HK6.out)
      have HO5 := Lib.hid (own_ext (w' := w5) HO.out)
      clear hb5 hHeld
      refine hK.out _ _ (by exact inferInstance) (fun hHeld => ?_)
      clear hK K
      simp only [List.getElem_toArray, List.getElem_cons_succ, List.getElem_cons_zero, Act.put, List.setIfInBounds_toArray, List.set_cons_zero, List.set_cons_succ]
      refine wpAnyH_ready (rs := [7]) (by kernel_rfl) (by simp) ?_
      refine AllReadyH.cons rfl (fun K hK => ?_) AllReadyH.nil
      refine step_store_row (by rfl) 89 (.tmp 4) (.tmp 20) rfl w8.heap.size #[.int .u32 a2, .int .u32 b2, .int .u32 c2, .int .u32 d2] rfl rfl 89 #[.int .u32 a1, .int .u32 b1, .int .u32 c1, .int .u32 d1] HK5.out (by kernel_rfl) rfl (one_all .u32 [a2, b2, c2, d2]) ?_
      clear hHeld
      have X5 : Ext w8 w5 := inferInstance
      have X6' := Ext.setRow_ X5 (Nat.le_refl _) #[.int .u32 a2, .int .u32 b2, .int .u32 c2, .int .u32 d2]
      refine hK.out _ _ X6' (fun hHeld => ?_)
      clear hK K
      simp only [List.getElem_toArray, List.getElem_cons_succ, List.getElem_cons_zero, Act.put, List.setIfInBounds_toArray, List.set_cons_zero, List.set_cons_succ]
      refine wpAnyH_done (by kernel_rfl) ?_ _
      clear hHeld
      have HK7 := Lib.hid (setRow_heap _ _ _ #[.int .u32 a2, .int .u32 b2, .int .u32 c2, .int .u32 d2] _ _ HK5.out)
      have HO7 := Lib.hid (own_setRow HO5.out HNE.out #[.int .u32 a2, .int .u32 b2, .int .u32 c2, .int .u32 d2])
      have HX7 : Hid (Ext w8 _) := X6'
      obtain ⟨w6, hw6⟩ : ∃ w6, w5.setRow w8.heap.size #[.int .u32 a2, .int .u32 b2, .int .u32 c2, .int .u32 d2] = w6 := ⟨_, rfl⟩
      rw [hw6] at HK7 HO7 HX7 ⊢
      have HW2 : Hid (WOk (a2, b2, c2, d2)) := by
        unfold Hid
        rw [← HNX.out]
        exact wok_run wok_begin xs _
      clear S5 HK5 HO5 HK6 HO X5 X6' hw6
      have X86 : Ext w8 w6 := HX7.out
      go_wp2_with
        (refine wpList_load_row rfl 89 (.tmp 4) rfl w8.heap.size rfl 89 #[.int .u32 a2, .int .u32 b2, .int .u32 c2, .int .u32 d2] (0, 0) _ HK7.out Try.underlying89 rfl (by kernel_rfl) ?_)
      refine (rtold4_any (a2, b2, c2, d2) HW2.out _).mono ?_
      rintro e w7 ⟨rfl, hb7⟩
      have S7 : Step w7 _ := ⟨hb7⟩
      have HK8 := Lib.hid (at_ext (w' := w7) HK7.out)
      have HO8 := Lib.hid (own_ext (w' := w7) HO7.out)
      have HBS := Lib.hid (blkL_succ xs j)
      rw [HNX.out] at HBS
      have hl := toldS_len (a2, b2, c2, d2) 16
      have HA16 := Lib.hid (a16_val (a2, b2, c2, d2))
      obtain ⟨ts, hts⟩ : ∃ ts, toldS (a2, b2, c2, d2) 16 = ts := ⟨_, rfl⟩
      rw [hts] at hl HA16 ⊢
      have hfo := fold16 (nums .u8 ts) (by rw [nums_length]; exact hl)
      have hnl : (nums .u8 ts).length = 16 := by rw [nums_length, hl]
      have HNL := Lib.hid hnl
      have X87 : Ext w8 w7 := Ext.step_ _ w6 _
      have HXX : Hid (Ext w w7) := Ext.trans_ HX8.out X87
      have hzz := HXX.out.out.size
      have hz8 : w8.heap.size < w7.heap.size := at_lt HK8.out
      have HZ8 := Lib.hid hz8
      clear hts hl hb7
      go_wp2_with
        (at_builtin
         refine wp_append_box (w0 := w8) w8.heap.size rfl (.tmp 21) (.tmp 24) 64 44 (.agg (nums .u8 (List.replicate 16 0)).toArray) 16 16 1 rfl Try.underlying64 info_a16 rfl (by decide) (by decide) (.slice L j cl) j (flat16 (blkL xs j)) (nums .u8 ts) rfl rfl HNL.out (nums_one _ _) HO8.out X87.out (Nat.le_of_lt HZ8.out) (by omega) ?_
         intro v4 w4 ho4 hb4 hg4 hat4
         obtain ⟨L4, l4, rfl, hl4⟩ := own_slice ho4
         have HO4 := Lib.hid ho4
         have HX4 : Hid (Ext w8 w4) := ⟨hb4⟩
         have HNE4 : Hid ((Value.slice L4 (j + 1) l4).ownBlock ≠ some w8.heap.size) := by
           rcases hat4 with h | ⟨b, h, hb⟩
           · rw [h]; exact HNE.out
           · rw [h]; have := HZ8.out; intro e; injection e with e; omega
         have HK4 : Hid (w4.heap[w8.heap.size]? = _) := (hg4.block _ HZ8.out (fun e => HNE.out e.symm)).trans HK8.out
         clear ho4 hb4 hg4 hat4)
      go_roundw
      case rel =>
        refine ⟨j + 1, L4, l4, by go_num, by omega, rfl, ?_, HNE4.out, ?_, HX4.out⟩
        · show World.ownsRow _ _ _ _ _ _ _
          rw [HBS.out, flat16_snoc, HA16.out]
          exact HO4.out
        · unfold Hid
          rw [HNX.out]
          exact HK4.out
      case measure => simp [intOf]; omega
    · have hnl : ¬ (64 : Int) * (j : Int) + 64 ≤ (m : Int) := by omega
      have hjq : j = m / 64 := by omega
      have HXX : Hid (Ext w wr) := Ext.trans_ HX8.out X9
      clear hq
      go_wp2
      go_ret
      refine ⟨_, rfl, ?_, HXX.out.out⟩
      rw [← hjq]
      exact own_weaken HO.out HX8.out.out.size
end Go.Proofs.Ytmopdimokoogmaa
