/-
  Secrets in memory; pap.right, slices.Clone of numbers, secret.own. Conditions: texts and addresses are no longer than the model's memory.
-/
import Derived.Test.YtobddmpiljknpaaPpF
namespace Go.Proofs.Ytobddmpiljknpaa
open Go.RowKit
set_option linter.unusedVariables false
set_option linter.unusedSimpArgs false

theorem info_i64' : (Try.prog.info? 2).map (fun i => (i.zero, i.size, i.bytes)) = some (some (.int .i64 0), 1, 8) := by kernel_rfl
theorem ext_alloc_of {w W : World} {o : Obj} (h : w.alloc o = W) : Ext w W := by subst h; exact inferInstance
theorem own_heap {w w' : World} {base n size : Nat} {e : TypeId} {v : Value} {cs : List Value} (h : w.ownsRow base e size v n cs) (hh : ∀ k, base ≤ k → w'.heap[k]? = w.heap[k]?) : w'.ownsRow base e size v n cs := by
  refine ⟨h.1, ?_⟩
  rcases h.2 with h' | ⟨g, cap, cur, h1, h2, h3, h4⟩
  · exact .inl h'
  · exact .inr ⟨g, cap, cur, h1, h2, (hh g h2).trans h3, h4⟩
/-- A secret as it lies in memory. -/
structure SV where
  c : ByteArray
  s : ByteArray
  d : ByteArray
  A : Option Addr
  n : Nat
  k : Nat
  xs : List Int
def SV.val (u : SV) : Value := .agg #[.string u.c, .string u.s, .string u.d, .slice u.A u.n u.k]
def SV.cells (u : SV) : List Value := [.string u.c, .string u.s, .string u.d, .slice u.A u.n u.k]
def SV.right (u : SV) : Int := rightF (strB u.c) (strB u.s) (strB u.d) u.xs
structure SV.Ok (w : World) (u : SV) : Prop where
  c : u.c.size ≤ 140737488355328
  s : u.s.size ≤ 140737488355328
  d : u.d.size ≤ 140737488355328
  n : u.xs.length = u.n
  m : u.n ≤ 17592186044416
  k : u.n ≤ u.k
  x : Cells w u.A (nums .i64 u.xs)
theorem SV.Ok.ext {w w' : World} {u : SV} [h : Ext w w'] (k : u.Ok w) : u.Ok w' := ⟨k.c, k.s, k.d, k.n, k.m, k.k, k.x.ext⟩
theorem clone64_any (A : Option Addr) (n c : Nat) (xs : List Int) (hn : xs.length = n) (hn' : n ≤ 17592186044416) (w : World) (hx : Cells w A (nums .i64 xs)) :
    Calls Try.prog 101 #[.slice A n c] w fun e w' => ∃ v, e = .returned v ∧ w'.ownsRow w.heap.size 2 1 v n (nums .i64 xs) ∧ Below w.heap.size w w' := by
  have keq := fun W => Lib.run_eql_slice_nil (P := Try.prog) W 42 2 A n c 0 0 Try.underlying42
  have Hn := Lib.hid hn
  rcases A with _ | ad
  · have hz : n = 0 := by
      rcases Nat.eq_zero_or_pos n with h | h
      · exact h
      · obtain ⟨_, h2, _⟩ := hx (by rw [nums_length]; omega)
        cases h2
    subst hz
    have HZ : Hid (xs = []) := List.eq_nil_of_length_eq_zero hn
    clear hn
    go_enter Try.func101, Try.ntmps101
    go_wp2
    go_ret
    exact ⟨_, rfl, by rw [HZ.out]; exact own_nil _ _ _ _, Below.refl _ _⟩
  · clear hn
    go_enter Try.func101, Try.ntmps101
    have ho0 : (w.alloc (.cells #[] 2)).ownsRow w.heap.size 2 1 (.slice (some ⟨w.heap.size, 0, none⟩) 0 0) 0 [] :=
      own_of_block (cur := []) (heap_alloc_new w _) (Nat.le_refl _) (Nat.le_refl _) (by omega) rfl
    have HO0 := Lib.hid ho0
    clear ho0
    go_wp2_with
      (at_builtin
       refine wp_append_cells (w0 := w) w.heap.size rfl (.tmp 5) (.tmp 6) 42 2 (.int .i64 0) 1 8 rfl Try.underlying42 info_i64' rfl (by decide) (by decide) (.slice (some ⟨w.heap.size, 0, none⟩) 0 0) 0 [] (some ad) n c (nums .i64 xs) rfl rfl ?_ (nums_one _ _) HO0.out (hx.alloc _) ((Below.refl _ _).alloc (Nat.le_refl _) _) (by simp) ?_ ?_
       · rw [nums_length, Hn.out, Nat.mul_one]
       · omega
       intro v1 w1 ho1 hb1 _ _
       have HO1 := Lib.hid ho1
       have HB1 := Lib.hid hb1
       clear ho1 hb1)
    go_ret
    refine ⟨_, rfl, ?_, HB1.out⟩
    have h := HO1.out
    rwa [Nat.zero_add, List.nil_append] at h
set_option maxRecDepth 100000 in
set_option maxHeartbeats 1000000 in
theorem own_any (u : SV) (w : World) (hu : u.Ok w) :
    Calls Try.prog 108 #[u.val] w fun e w' => ∃ A' k', e = .returned ({ u with A := A', k := k' }).val ∧ w'.ownsRow w.heap.size 2 1 (.slice A' u.n k') u.n (nums .i64 u.xs) ∧ Below w.heap.size w w' := by
  obtain ⟨c, s, d, A, n, k, xs⟩ := u
  have HU := Lib.hid hu
  clear hu
  unfold SV.val
  simp only
  go_enter Try.func108, Try.ntmps108
  go_wp2_with fail
  refine (clone64_any A n k xs HU.out.n HU.out.m _ (by exact HU.out.x.ext)).mono ?_
  rintro e w1 ⟨v1, rfl, ho1, hb1⟩
  obtain ⟨A1, c1, rfl, hc1⟩ := own_slice ho1
  have S1 : Step w1 _ := ⟨hb1⟩
  have HR1 : Hid (w1.heap[w.heap.size]? = some (.cells #[.string c, .string s, .string d, .slice A n k] 44 (0, 0))) := at_ext (w' := w1) (at_new1 (w := w) rfl)
  have HR2 : Hid (w1.heap[w.heap.size + 1]? = some (.cells #[.string ⟨#[]⟩, .string ⟨#[]⟩, .string ⟨#[]⟩, .slice none 0 0] 44 (0, 0))) := at_ext (w' := w1) (at_new1 (w := w.alloc (.cells #[.string c, .string s, .string d, .slice A n k] 44)) (g := w.heap.size + 1) (by simp))
  have p3 : w1.cell? ⟨w.heap.size, 3, none⟩ = some (.slice A n k) := at_cell HR1.out 3
  have f3 : w1.frozen? ⟨w.heap.size, 3, none⟩ = false := at_frozen HR1.out 3
  obtain ⟨w2, hw2⟩ : ∃ w2, w1.setCell ⟨w.heap.size, 3, none⟩ (.slice A1 n c1) = w2 := ⟨_, rfl⟩
  have HQ1 : Hid (w2.heap[w.heap.size]? = some (.cells #[.string c, .string s, .string d, .slice A1 n c1] 44 (0, 0))) := by unfold Hid; rw [← hw2]; exact at_set HR1.out 3 _
  have HQ2 : Hid (w2.heap[w.heap.size + 1]? = some (.cells #[.string ⟨#[]⟩, .string ⟨#[]⟩, .string ⟨#[]⟩, .slice none 0 0] 44 (0, 0))) := by unfold Hid; rw [← hw2]; exact (Below.heap_setCell _ _ _ _ (by show w.heap.size + 1 ≠ w.heap.size; omega)).trans HR2.out
  have HO2 : Hid (w2.ownsRow (w.heap.size + 1 + 1) 2 1 (.slice A1 n c1) n (nums .i64 xs)) := by unfold Hid; rw [← hw2]; exact own_weaken (own_young ho1 (by dsimp only; simp only [World.size_alloc]; omega)) (by simp only [World.size_alloc]; omega)
  have HB2 : Hid (Below w.heap.size w w2) := by unfold Hid; rw [← hw2]; exact (Ext.out (w := w) (w' := w1)).setCell (p := ⟨w.heap.size, 3, none⟩) (Nat.le_refl _) _
  clear ho1 hb1
  go_upto_region 2 with fail
  clear hw2 p3 f3
  go_wp2_with
    (first
      | (refine wpList_load_row rfl 44 (.tmp 1) rfl w.heap.size rfl 44 #[.string c, .string s, .string d, .slice A1 n c1] (0, 0) _ HQ1.out Try.underlying44 rfl (by kernel_rfl) ?_)
      | (refine wpList_store_row_o rfl 44 (.tmp 2) (.tmp 7) rfl (w.heap.size + 1) #[.string c, .string s, .string d, .slice A1 n c1] rfl rfl 44 #[.string ⟨#[]⟩, .string ⟨#[]⟩, .string ⟨#[]⟩, .slice none 0 0] HQ2.out (by kernel_rfl) rfl (by simp [Value.oneCell']) ?_
         intro w3 hr3 ho3 hz3 hb3))
  refine bodyPost_ret (results_cell_row Try.results108 _ _ (w.heap.size + 1) 44 #[.string c, .string s, .string d, .slice A1 n c1] (0, 0) _ rfl hr3 Try.underlying44 rfl (by kernel_rfl)) rfl ?_
  exact ⟨A1, c1, rfl, own_weaken (own_heap HO2.out fun k hk => ho3 k (by omega)) (by omega), hb3 _ _ HB2.out (by omega)⟩
end Go.Proofs.Ytobddmpiljknpaa
