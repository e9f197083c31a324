/-
  lcp: put, again, twice. Conditions: the lists are no longer than the model's memory.
-/
import Derived.Test.YtodibldfolognaaLcA
import Derived.Test.YtodibldfolognaaReg
namespace Go.Proofs.Ytodibldfolognaa
open Go.RowKit
set_option linter.unusedVariables false
set_option linter.unusedSimpArgs false

theorem be_get (n : Int) : ∀ (s k j : Nat), k + j + 1 = s → (be n s).getD k 0 = n / 256 ^ j % 256
  | 0, k, j, h => by omega
  | s + 1, 0, j, h => by
    obtain rfl : j = s := by omega
    rfl
  | s + 1, k + 1, j, h => by
    rw [be, List.getD_cons_succ]
    exact be_get n s k j (by omega)
theorem put_set (L : List Int) (k s : Nat) (hk : k < s) (hL : L.length = s) : (L.take k ++ List.replicate (s - k) 0).set k (L.getD k 0) = L.take (k + 1) ++ List.replicate (s - (k + 1)) 0 := by
  have hlen : (L.take k).length = k := by rw [List.length_take]; omega
  have hk' : k < L.length := by omega
  rw [List.set_append_right _ _ (by omega), hlen, Nat.sub_self, show s - k = (s - (k + 1)) + 1 by omega, List.replicate_succ, List.set_cons_zero, List.take_add_one, List.getElem?_eq_getElem hk', List.getD_eq_getElem?_getD, List.getElem?_eq_getElem hk', List.append_assoc]
  rfl
set_option maxHeartbeats 1000000 in
theorem lput_any (n : Int) (s : Nat) (hs : s ≤ 8) (h0 : 0 ≤ n) (h1 : n < 18446744073709551616) (w : World) :
    Calls Try.prog 83 #[.int .u64 n, .int .i64 s] w fun e w' => ∃ A c, e = .returned (.slice A s c) ∧ w'.ownsRow w.heap.size 5 1 (.slice A s c) s (nums .u8 (be n s)) ∧ Below w.heap.size w w' := by
  go_enter Try.func83, Try.ntmps83
  go_wp2_with
    (refine wp_make (w0 := w) w.heap.size rfl (.tmp 7) (.tmp 7) 41 5 (.int .u8 0) 1 rfl Try.underlying41 info_u8 rfl (by decide) .i64 .i64 s s rfl rfl (Nat.le_refl _) (by omega) (Below.refl _ _) (Nat.le_refl _) ?_
     intro w1 hk1 hb1 hg1 hz1
     have HK1 : Hid (w1.heap[w.heap.size]? = some (.cells (nums .u8 ((be n s).take 0 ++ List.replicate (s - 0) 0)).toArray 5 (0, 0))) := by
       unfold Hid
       rw [hk1, List.take_zero, List.nil_append, Nat.sub_zero, nums, List.map_replicate]
     have HX1 : Hid (Ext w w1) := ⟨hb1⟩
     clear hk1 hb1 hg1)
  go_loopw [11] (fun i wr => ∃ k : Nat, i = .int .i64 k ∧ k ≤ s ∧ Hid (wr.heap[w.heap.size]? = some (.cells (nums .u8 ((be n s).take k ++ List.replicate (s - k) 0)).toArray 5 (0, 0))) ∧ Hid (Ext w wr)) (fun i _ => s - (intOf i).toNat)
  case atStart => exact ⟨0, rfl, by omega, HK1.out, HX1.out⟩
  case round =>
    obtain ⟨k, rfl, hk, HK, HE⟩ := hrel
    have hbl := be_length n s
    by_cases hlt : k < s
    · obtain ⟨j, hj⟩ : ∃ j, k + j + 1 = s := ⟨s - 1 - k, by omega⟩
      have hsub : (s : Int) - 1 - (k : Int) = (j : Int) := by omega
      have hj8 : j ≤ 7 := by omega
      have HGE := Lib.hid (be_get n s k j hj)
      have HBL := Lib.hid hbl
      have HJ := Lib.hid hj
      have ck : (wr.cell? ⟨w.heap.size, k, none⟩) = some (.int .u8 0) := by
        rw [at_cell HK.out]
        have := nums_get .u8 ((be n s).take k ++ List.replicate (s - k) 0) k (by rw [List.length_append, List.length_take, List.length_replicate]; omega)
        rw [List.getElem?_toArray, this, List.getD_eq_getElem?_getD, List.getElem?_append_right (by rw [List.length_take]; omega), List.length_take, Nat.min_eq_left (by omega), Nat.sub_self, List.getElem?_replicate]
        rw [if_pos (by omega)]
        rfl
      have fk := at_frozen HK.out k
      clear hbl hj
      go_wp2
      refine ⟨⟨k + 1, by go_num, by omega, ?_, ⟨HE.out.out.setCell (p := ⟨w.heap.size, k, none⟩) (Nat.le_refl _) _⟩⟩, by simp [intOf]; omega⟩
      have h1 := at_set HK.out k (.int .u8 (n / 2 ^ (8 * j) % 256))
      refine (show (wr.setCell _ _).heap[w.heap.size]? = _ from ?_)
      rw [h1, show (2 : Int) ^ (8 * j) = 256 ^ j by rw [show (256 : Int) = 2 ^ 8 from rfl, ← Int.pow_mul], ← HGE.out, ← put_set (be n s) k s hlt HBL.out, nums_set]
      simp
    · obtain rfl : k = s := by omega
      go_wp2
      go_ret
      refine ⟨some ⟨w.heap.size, 0, none⟩, k, rfl, ?_, HE.out.out⟩
      have h1 := own_of_block (n := k) (cap := k) (size := 1) (base := w.heap.size) HK.out (Nat.le_refl _) (Nat.le_refl _) (by omega) (by simp [nums_length, hbl])
      rw [List.take_of_length_le (by simp [nums_length, hbl]), Nat.sub_self, List.replicate_zero, List.append_nil, List.take_of_length_le (by rw [hbl]; exact Nat.le_refl _)] at h1
      exact h1
set_option maxRecDepth 100000 in
set_option maxHeartbeats 1000000 in
theorem lagain_any (t : Int) (A : Option Addr) (n c : Nat) (xs : List Int) (hn : xs.length = n) (hn' : n ≤ 140737488355300) (w : World) (hx : Cells w A (nums .u8 xs)) :
    Calls Try.prog 81 #[.agg #[.int .i64 t, .slice A n c]] w fun e w' => ∃ A' c', e = .returned (.agg #[.int .i64 t, .slice A' n c']) ∧ w'.ownsRow w.heap.size 5 1 (.slice A' n c') n (nums .u8 xs) ∧ Below w.heap.size w w' := by
  have HX := Lib.hid hx
  have Hn := Lib.hid hn
  clear hx hn
  go_enter Try.func81, Try.ntmps81
  go_wp2
  go_region_law
    (refine step_call ?hg Try.func117 (by kernel_rfl) (by kernel_rfl) #[.tmp 6] #[41] ?ho #[.slice A n c] ?hv (clone_any A n c xs Hn.out hn' _ ?c1) ?_
     (case hg => rfl)
     (case ho => rfl)
     (case hv => go_simp)
     (case c1 => exact Cells.ext HX.out)
     rintro e w1 ⟨v1, rfl, ho1, hb1⟩
     obtain ⟨A1, c1, rfl, hc1⟩ := own_slice ho1
     have S1 : Step w1 _ := ⟨hb1⟩
     have P0 := at_ext (w' := w1) (at_new1 (w := w) (o := .cells #[.int .i64 t, .slice A n c] 119) rfl)
     have P1 := at_ext (w' := w1) (at_new1 (w := w.alloc (.cells #[.int .i64 t, .slice A n c] 119)) (o := .cells #[.int .i64 0, .slice none 0 0] 119) (g := w.heap.size + 1) (by simp))
     have p0 : w1.cell? ⟨w.heap.size, 0, none⟩ = some (.int .i64 t) := at_cell P0 0
     have p1 : w1.cell? ⟨w.heap.size, 1, none⟩ = some (.slice A n c) := at_cell P0 1
     have r0 : w1.cell? ⟨w.heap.size + 1, 0, none⟩ = some (.int .i64 0) := at_cell P1 0
     have r1 : w1.cell? ⟨w.heap.size + 1, 1, none⟩ = some (.slice none 0 0) := at_cell P1 1
     have f0 := at_frozen P1 0
     have f1 := at_frozen P1 1
     have hd0 := at_cell (at_set2 (.int .i64 t) (.slice A1 n c1) P1) 0
     have hd1 := at_cell (at_set2 (.int .i64 t) (.slice A1 n c1) P1) 1
     have HO1 := Lib.hid ho1
     have HD0 := Lib.hid hd0
     have HD1 := Lib.hid hd1
     clear P0 P1 ho1 hb1 hd0 hd1
     refine ⟨_, rfl, ?_⟩)
  all_goals go_wp2
  all_goals
    have hd0 := HD0.out
    have hd1 := HD1.out
    simp only [List.getElem?_toArray, List.getElem?_cons_zero, List.getElem?_cons_succ] at hd0 hd1
    exact bodyPost_ret (v := .agg #[.int .i64 t, .slice A1 n c1]) (by simp [results, Try.results81, go_sem, hd0, hd1]) rfl ⟨A1, c1, rfl, own_weaken (own_young (own_young HO1.out (by simp)) (by simp)) (by simp; omega), Ext.out⟩
/-- Is there an option of this type? -/
def hasTy (pre : List (Int × List Int)) (t : Int) : Bool := pre.any fun o => o.1 == t
theorem hasTy_snoc {pre : List (Int × List Int)} {o : Int × List Int} {t : Int} : hasTy (pre ++ [o]) t = (hasTy pre t || o.1 == t) := by simp [hasTy]
set_option maxHeartbeats 1000000 in
theorem ltwice1_any (t : Int) (VA : Option Addr) (vn vc : Nat) (B2 B3 : Nat) (ad : Addr) (n c i : Nat) (T : Int) (hi : i < n) (w : World) (h2 : w.cell? ⟨B2, 0, none⟩ = some (.slice (some ad) n c)) (h3 : w.cell? ⟨B3, 0, none⟩ = some (.int .i64 i)) (hc : w.cell? (ad.add (i * 2)) = some (.int .i64 T)) :
    Calls Try.prog 116 #[.agg #[.int .i64 t, .slice VA vn vc], .pointer (some ⟨B2, 0, none⟩), .pointer (some ⟨B3, 0, none⟩)] w fun e w' => e = .returned (.bool (t == T)) ∧ Below w.heap.size w w' := by
  have k2 : ∀ o, (w.alloc o).cell? ⟨B2, 0, none⟩ = some (.slice (some ad) n c) := fun o => cell_ext h2
  have k3 : ∀ o, (w.alloc o).cell? ⟨B3, 0, none⟩ = some (.int .i64 i) := fun o => cell_ext h3
  have kc : ∀ o, (w.alloc o).cell? (ad.add (i * 2)) = some (.int .i64 T) := fun o => cell_ext hc
  clear h2 h3 hc
  go_enter Try.func116, Try.ntmps116
  go_wp2
  go_quiet (fail)
  go_wp2
  go_ret
  exact ⟨rfl, Ext.out⟩
end Go.Proofs.Ytodibldfolognaa
