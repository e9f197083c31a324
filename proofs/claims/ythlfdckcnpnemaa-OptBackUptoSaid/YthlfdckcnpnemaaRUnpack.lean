/-
  What the reference's Unpack tells. Conditions: the list is no longer than the model's memory.
-/
import Derived.Test.YthlfdckcnpnemaaUnpack
namespace Go.Proofs.Ythlfdckcnpnemaa
open Go.RowKit
set_option linter.unusedVariables false
set_option linter.unusedSimpArgs false


set_option maxHeartbeats 4000000 in
theorem runpack_any (A : Option Addr) (n c : Nat) (xs : List Int) (hn : xs.length = n) (hn' : n ≤ 140737488355300) (hc : n ≤ c) (hb : Byt xs) (w : World) (hx : Cells w A (nums .u8 xs)) :
    Calls Try.prog 23 #[.slice A n c] w (UnpackTells 5 xs w) := by
  have Hn := Lib.hid hn
  by_cases h4 : n < 4
  · have HE : Hid (∀ w', Below w.heap.size w w' → UnpackTells 5 xs w (.returned (.tuple #[.agg #[.int .i64 0, .int .i64 0, .slice none 0 0], .int .i64 8])) w') := fun w' hb => by
      have e : unpackF xs = (0, 0, [], 8) := by unfold unpackF; rw [if_pos (by omega)]
      exact ⟨_, by rw [e], by rw [e]; exact own_nil _ _ _ _, hb⟩
    clear hn
    go_enter Try.func23, Try.ntmps23
    go_wp2
    exact bodyPost_ret (v := .tuple #[.agg #[.int .i64 0, .int .i64 0, .slice none 0 0], .int .i64 8]) (by simp [results, Try.results23, go_sem]) rfl (HE.out _ ((Below.refl _ _).alloc (Nat.le_refl _) _))
  · have hn4 : 4 ≤ n := by omega
    obtain ⟨ad, rfl, hcell⟩ := hx (by rw [nums_length]; omega)
    have hca : ∀ k : Nat, k < 4 → ∀ o, (w.alloc o).cell? (ad.add k) = some (.int .u8 (xs.getD k 0)) := fun k hk o => by
      have h1 := hcell k _ (nums_get _ _ _ (by omega))
      rw [World.cell?_alloc_lt w o _ (World.block_lt_of_cell? w _ h1)]
      exact h1
    have HLT := Lib.hid (World.block_lt_of_cell? w _ (hcell 0 _ (nums_get _ _ 0 (by omega))))
    have hg2 := hca 2 (by omega) (.cells #[.int .i64 0, .int .i64 0, .slice none 0 0] 35)
    have hg3 := hca 3 (by omega) (.cells #[.int .i64 0, .int .i64 0, .slice none 0 0] 35)
    have hg2' : (w.alloc (.cells #[.int .i64 0, .int .i64 0, .slice none 0 0] 35)).cell? ⟨ad.block, ad.off + 2, none⟩ = some (.int .u8 (xs.getD 2 0)) := hg2
    have hg3' : (w.alloc (.cells #[.int .i64 0, .int .i64 0, .slice none 0 0] 35)).cell? ⟨ad.block, ad.off + 3, none⟩ = some (.int .u8 (xs.getD 3 0)) := hg3
    have hi2 : (2 : Int) < (n : Int) := by omega
    have hi3 : (3 : Int) < (n : Int) := by omega
    have hj2 : 2 < n := by omega
    have hj3 : 3 < n := by omega
    have hb2 := hb.getD 2
    have hb3 := hb.getD 3
    obtain ⟨N, hN⟩ : ∃ N, N = getN ((xs.drop 2).take 2) := ⟨_, rfl⟩
    have hN1 : IntKind.i64.wrap (256 * xs.getD 2 0) = 256 * xs.getD 2 0 := wraps_i64 _ (by omega) (by omega)
    have hN2 : IntKind.i64.wrap (256 * xs.getD 2 0 + xs.getD 3 0) = N := by
      rw [hN, unpackF_two (by omega), wraps_i64 _ (by omega) (by omega)]
      omega
    have HNN := Lib.hid hN
    have hNb : 0 ≤ N ∧ N < 65536 := by rw [hN, unpackF_two (by omega)]; omega
    have HX := Lib.hid hx
    have HCA := Lib.hid hca
    generalize xs.getD 2 0 = X2 at *
    generalize xs.getD 3 0 = X3 at *
    clear hN hca hcell h4
    have HF : Hid (¬ xs.length < 4) := by unfold Hid; omega
    have HU : Hid (∀ (w' : World) (k : Int), Below w.heap.size w w' → unpackF xs = (0, 0, [], k) → UnpackTells 5 xs w (.returned (.tuple #[.agg #[.int .i64 0, .int .i64 0, .slice none 0 0], .int .i64 k])) w') := fun w' k hb e =>
      ⟨_, by rw [e], by rw [e]; exact own_nil _ _ _ _, hb⟩
    by_cases hN4 : N < 4
    · have HE : Hid (unpackF xs = (0, 0, [], 4)) := by unfold Hid unpackF; rw [if_neg HF.out, ← HNN.out, if_pos (by omega)]
      clear hn
      go_enter Try.func23, Try.ntmps23
      go_wp2
      go_quiet (fail)
      go_wp2
      exact bodyPost_ret (v := .tuple #[.agg #[.int .i64 0, .int .i64 0, .slice none 0 0], .int .i64 4]) (by simp [results, Try.results23, go_sem]) rfl (HU.out _ _ ((((below_drewN ((Below.refl _ _).alloc (Nat.le_refl _) _) _).setCell (p := ⟨w.heap.size,0,none⟩) (Nat.le_refl _) _).setCell (p := ⟨w.heap.size,1,none⟩) (Nat.le_refl _) _).setCell (p := ⟨w.heap.size,2,none⟩) (Nat.le_refl _) _) HE.out)
    by_cases hN16 : 16384 < N
    · have HE : Hid (unpackF xs = (0, 0, [], 4)) := by unfold Hid unpackF; rw [if_neg HF.out, ← HNN.out, if_pos (by omega)]
      clear hn
      go_enter Try.func23, Try.ntmps23
      go_wp2
      go_quiet (fail)
      go_wp2
      exact bodyPost_ret (v := .tuple #[.agg #[.int .i64 0, .int .i64 0, .slice none 0 0], .int .i64 4]) (by simp [results, Try.results23, go_sem]) rfl (HU.out _ _ ((((below_drewN ((Below.refl _ _).alloc (Nat.le_refl _) _) _).setCell (p := ⟨w.heap.size,0,none⟩) (Nat.le_refl _) _).setCell (p := ⟨w.heap.size,1,none⟩) (Nat.le_refl _) _).setCell (p := ⟨w.heap.size,2,none⟩) (Nat.le_refl _) _) HE.out)
    by_cases hnN : (n : Int) < N
    · have HE : Hid (unpackF xs = (0, 0, [], 8)) := by unfold Hid unpackF; rw [if_neg HF.out, ← HNN.out, if_neg (by omega), if_pos (by omega)]
      clear hn
      go_enter Try.func23, Try.ntmps23
      go_wp2
      go_quiet (fail)
      go_wp2
      exact bodyPost_ret (v := .tuple #[.agg #[.int .i64 0, .int .i64 0, .slice none 0 0], .int .i64 8]) (by simp [results, Try.results23, go_sem]) rfl (HU.out _ _ ((((below_drewN ((Below.refl _ _).alloc (Nat.le_refl _) _) _).setCell (p := ⟨w.heap.size,0,none⟩) (Nat.le_refl _) _).setCell (p := ⟨w.heap.size,1,none⟩) (Nat.le_refl _) _).setCell (p := ⟨w.heap.size,2,none⟩) (Nat.le_refl _) _) HE.out)
    obtain ⟨m, rfl⟩ := Int.eq_ofNat_of_zero_le hNb.1
    have HE : Hid (unpackF xs = (xs.getD 0 0, xs.getD 1 0, (xs.drop 4).take (m - 4), 0)) := by unfold Hid unpackF; rw [if_neg HF.out, ← HNN.out, if_neg (by omega), if_neg (by omega)]; simp
    have HL : Hid (((xs.drop 4).take (m - 4)).length = m - 4) := by unfold Hid; rw [List.length_take, List.length_drop]; omega
    have hg0 : (w.alloc (.cells #[.int .i64 0, .int .i64 0, .slice none 0 0] 35)).cell? ad = some (.int .u8 (xs.getD 0 0)) := HCA.out 0 (by omega) _
    have hg1 : (w.alloc (.cells #[.int .i64 0, .int .i64 0, .slice none 0 0] 35)).cell? ⟨ad.block, ad.off + 1, none⟩ = some (.int .u8 (xs.getD 1 0)) := HCA.out 1 (by omega) _
    have hb0 := hb.getD 0
    have hb1 := hb.getD 1
    generalize xs.getD 0 0 = X0 at *
    generalize xs.getD 1 0 = X1 at *
    have hj0 : 0 < n := by omega
    have hj1 : 1 < n := by omega
    have hi0 : (0 : Int) < (n : Int) := by omega
    have hi1 : (1 : Int) < (n : Int) := by omega
    have hwX0 : IntKind.i64.wrap X0 = X0 := wraps_i64 X0 hb0.1 (by omega)
    have hwX1 : IntKind.i64.wrap X1 = X1 := wraps_i64 X1 hb1.1 (by omega)
    have hlt : ad.block < w.heap.size := HLT.out
    have hm4 : (4 : Int) ≤ (m : Int) := by omega
    have hm5 : (m : Int) ≤ (c : Int) := by omega
    have hm6 : 4 ≤ m := by omega
    have hm7 : m ≤ c := by omega
    clear hn
    have HCD : Hid (∀ W : World, Below w.heap.size w W → Cells W (if c = 4 then some ad else some (ad.add 4)) (nums .u8 ((xs.drop 4).take (m - 4)))) := by
      intro W hW
      have h1 := (HX.out.drop (n := n) (size := 1) (by rw [nums_length, Hn.out, Nat.mul_one]) (by omega) 4 (by omega)).take (m - 4)
      rw [← nums_drop, ← nums_take] at h1
      exact h1.below hW
    have HM4 : Hid (m - 4 ≤ 140737488355300) := by unfold Hid; omega
    have HCW : Hid (∀ k, Below w.heap.size w (((w.alloc (.cells #[.int .i64 0, .int .i64 0, .slice none 0 0] 35)).drewN k).alloc (.cells #[.int .i64 X0, .int .i64 X1, .slice none 0 0] 35))) := fun k => (below_drewN ((Below.refl _ _).alloc (Nat.le_refl _) _) k).alloc (by show w.heap.size ≤ ((w.alloc _).drewN k).heap.size; rw [show ((w.alloc (.cells #[.int .i64 0, .int .i64 0, .slice none 0 0] 35)).drewN k).heap.size = w.heap.size + 1 from World.size_alloc w _]; omega) _
    have HS : Hid (∀ (W W' : World) v, Below w.heap.size w W → W.ownsRow w.heap.size 5 1 v (m - 4) (nums .u8 ((xs.drop 4).take (m - 4))) → UnpackTells 5 xs w (.returned (.tuple #[.agg #[.int .i64 X0, .int .i64 X1, v], .int .i64 0])) W) := by
      intro W W' v hW hv
      refine ⟨v, by rw [HE.out], ?_, hW⟩
      rw [HE.out]
      simp only
      rw [HL.out]
      exact hv
    have HS3 : Hid (∀ (W : World) v, Below w.heap.size w W → W.ownsRow w.heap.size 5 1 v (m - 4) (nums .u8 ((xs.drop 4).take (m - 4))) → v.ownBlock ≠ some w.heap.size → UnpackTells 5 xs w (.returned (.tuple #[.agg #[.int .i64 X0, .int .i64 X1, v], .int .i64 0])) (((W.setCell ⟨w.heap.size, 0, none⟩ (.int .i64 X0)).setCell ⟨w.heap.size, 1, none⟩ (.int .i64 X1)).setCell ⟨w.heap.size, 2, none⟩ v)) := by
      intro W v hW hv hne
      exact HS.out _ W v (below_set3 hW (Nat.le_refl _) 0 1 2 _ _ _) (own_setCell (own_setCell (own_setCell hv hne _) hne _) hne _)
    have HC3 : Hid (∀ (W : World) v, W.heap[w.heap.size]? = some (.cells #[.int .i64 0, .int .i64 0, .slice none 0 0] 35 (0, 0)) →
        (((W.setCell ⟨w.heap.size, 0, none⟩ (.int .i64 X0)).setCell ⟨w.heap.size, 1, none⟩ (.int .i64 X1)).setCell ⟨w.heap.size, 2, none⟩ v).cell? ⟨w.heap.size, 0, none⟩ = some (.int .i64 X0) ∧
        (((W.setCell ⟨w.heap.size, 0, none⟩ (.int .i64 X0)).setCell ⟨w.heap.size, 1, none⟩ (.int .i64 X1)).setCell ⟨w.heap.size, 2, none⟩ v).cell? ⟨w.heap.size, 1, none⟩ = some (.int .i64 X1) ∧
        (((W.setCell ⟨w.heap.size, 0, none⟩ (.int .i64 X0)).setCell ⟨w.heap.size, 1, none⟩ (.int .i64 X1)).setCell ⟨w.heap.size, 2, none⟩ v).cell? ⟨w.heap.size, 2, none⟩ = some v) := by
      intro W v h
      have h3 := at_set (at_set (at_set h 0 (.int .i64 X0)) 1 (.int .i64 X1)) 2 v
      exact ⟨at_cell h3 0, at_cell h3 1, at_cell h3 2⟩
    have HARM : Hid (∀ k v1 w1 j, w1.ownsRow (w.heap.size + 2) 5 1 v1 (0 + j) ([] ++ nums .u8 ((xs.drop 4).take j)) → (((w.alloc (.cells #[.int .i64 0, .int .i64 0, .slice none 0 0] 35)).drewN k).alloc (.cells #[.int .i64 X0, .int .i64 X1, .slice none 0 0] 35)).grownBy w1 none →
        ∃ A1 c1, v1 = .slice A1 j c1 ∧ Hid (w1.ownsRow w.heap.size 5 1 v1 j (nums .u8 ((xs.drop 4).take j))) ∧ Hid (Below w.heap.size w w1) ∧ Hid (v1.ownBlock ≠ some w.heap.size) ∧ Hid (v1.ownBlock ≠ some (w.heap.size + 1)) ∧
        w1.cell? ⟨w.heap.size, 0, none⟩ = some (.int .i64 0) ∧ w1.cell? ⟨w.heap.size, 1, none⟩ = some (.int .i64 0) ∧ w1.cell? ⟨w.heap.size, 2, none⟩ = some (.slice none 0 0) ∧
        w1.frozen? ⟨w.heap.size, 0, none⟩ = false ∧ w1.frozen? ⟨w.heap.size, 1, none⟩ = false ∧ w1.frozen? ⟨w.heap.size, 2, none⟩ = false ∧
        w1.cell? ⟨w.heap.size + 1, 0, none⟩ = some (.int .i64 X0) ∧ w1.cell? ⟨w.heap.size + 1, 1, none⟩ = some (.int .i64 X1) ∧ w1.cell? ⟨w.heap.size + 1, 2, none⟩ = some (.slice none 0 0) ∧ w1.frozen? ⟨w.heap.size + 1, 2, none⟩ = false ∧
        Hid (w1.heap[w.heap.size]? = some (.cells #[.int .i64 0, .int .i64 0, .slice none 0 0] 35 (0, 0)))) := by
      intro k v1 w1 j ho hg
      have hsz : ((w.alloc (.cells #[.int .i64 0, .int .i64 0, .slice none 0 0] 35)).drewN k).heap.size = w.heap.size + 1 := World.size_alloc w _
      have hz : (((w.alloc (.cells #[.int .i64 0, .int .i64 0, .slice none 0 0] 35)).drewN k).alloc (.cells #[.int .i64 X0, .int .i64 X1, .slice none 0 0] 35)).heap.size = w.heap.size + 2 := by rw [World.size_alloc, hsz]
      have hb : Below (w.heap.size + 2) (((w.alloc (.cells #[.int .i64 0, .int .i64 0, .slice none 0 0] 35)).drewN k).alloc (.cells #[.int .i64 X0, .int .i64 X1, .slice none 0 0] 35)) w1 := below_of_grown hg (by rw [hz]; omega) (fun _ h => by cases h)
      have hh : w1.heap[w.heap.size]? = some (.cells #[.int .i64 0, .int .i64 0, .slice none 0 0] 35 (0, 0)) :=
        (hb.block _ (by omega)).trans (at_below (at_drewN (at_new w _) k) ((Below.refl _ _).alloc (Nat.le_refl _) _))
      have hh1 : w1.heap[w.heap.size + 1]? = some (.cells #[.int .i64 X0, .int .i64 X1, .slice none 0 0] 35 (0, 0)) := by
        have h1 := at_new ((w.alloc (.cells #[.int .i64 0, .int .i64 0, .slice none 0 0] 35)).drewN k) (.cells #[.int .i64 X0, .int .i64 X1, .slice none 0 0] 35)
        rw [hsz] at h1
        exact (hb.block _ (by omega)).trans h1
      rw [Nat.zero_add, List.nil_append] at ho
      obtain ⟨A1, c1, rfl, _⟩ := own_slice ho
      have hne : ∀ b, b < w.heap.size + 2 → (Value.slice A1 j c1).ownBlock ≠ some b := fun b hb h => by have := own_base ho _ h; omega
      exact ⟨A1, c1, rfl, own_weaken ho (by omega), (HCW.out k).trans (hb.mono (by omega)), hne _ (by omega), hne _ (by omega), at_cell hh 0, at_cell hh 1, at_cell hh 2, at_frozen hh 0, at_frozen hh 1, at_frozen hh 2, at_cell hh1 0, at_cell hh1 1, at_cell hh1 2, at_frozen hh1 2, hh⟩
    have HS4 : Hid (∀ (W : World) v, Below w.heap.size w W → W.ownsRow w.heap.size 5 1 v (m - 4) (nums .u8 ((xs.drop 4).take (m - 4))) → v.ownBlock ≠ some w.heap.size → v.ownBlock ≠ some (w.heap.size + 1) → UnpackTells 5 xs w (.returned (.tuple #[.agg #[.int .i64 X0, .int .i64 X1, v], .int .i64 0])) ((((W.setCell ⟨w.heap.size + 1, 2, none⟩ v).setCell ⟨w.heap.size, 0, none⟩ (.int .i64 X0)).setCell ⟨w.heap.size, 1, none⟩ (.int .i64 X1)).setCell ⟨w.heap.size, 2, none⟩ v)) :=
      fun W v hW hv hne hne1 => HS3.out _ v (below_set1 hW (by omega) 2 _) (own_setCell hv hne1 _) hne
    by_cases hc4 : c = 4
    · subst hc4
      have HCE := HCD.out
      rw [if_pos rfl] at HCE
      have HCF := Lib.hid HCE
      clear HCE
      have e0 : m - 4 = 0 := by omega
      have hm8 : (m : Int) ≤ 4 := by omega
      rw [e0] at HL HM4 HCF HE HS4
      clear e0
      go_enter Try.func23, Try.ntmps23
      go_wp2
      go_quiet (fail)
      go_wp2
      go_region
      go_wp2
      go_region_law
        (refine step_append (w.heap.size + 2) rfl (.tmp 42) (.tmp 45) 22 5 (.int .u8 0) 1 1 rfl Try.underlying22 info_u8 rfl (by decide) (by decide) (.slice none 0 0) 0 [] _ (0) _ (nums .u8 ((xs.drop 4).take (0))) rfl rfl ?c1 (nums_one _ _) (own_nil _ _ _ _) ?c2 ?c3 ?c4 ?_
         (case c1 => rw [nums_length, HL.out, Nat.mul_one])
         (case c2 => exact HCF.out _ (below_drewN (HCW.out _) 1))
         (case c3 => simp)
         (case c4 => have := HM4.out; omega)
         intro v1 w1 ho1 hg1 _
         obtain ⟨A1, c1, rfl, HO1, HB1, HN0, HN1, hca0, hca1, hca2, hfr0, hfr1, hfr2, hcb0, hcb1, hcb2, hfr3, HH⟩ := HARM.out _ _ _ _ ho1 (grown_undrew hg1)
         clear ho1 hg1)
      go_wp2
      obtain ⟨hd0, hd1, hd2⟩ := HC3.out (w1.setCell ⟨w.heap.size + 1, 2, none⟩ (.slice A1 (0) c1)) (.slice A1 (0) c1) (at_other (p := ⟨w.heap.size + 1, 2, none⟩) _ HH.out (by show w.heap.size ≠ w.heap.size + 1; omega))
      exact bodyPost_ret (v := .tuple #[.agg #[.int .i64 X0, .int .i64 X1, .slice A1 (0) c1], .int .i64 0]) (by simp [results, Try.results23, go_sem, hd0, hd1, hd2]) rfl (HS4.out _ _ HB1.out HO1.out HN0.out HN1.out)
    · have HCE := HCD.out
      rw [if_neg hc4] at HCE
      have HCF := Lib.hid HCE
      clear HCE
      go_enter Try.func23, Try.ntmps23
      go_wp2
      go_quiet (fail)
      go_wp2
      go_region
      go_wp2
      go_region_law
        (refine step_append (w.heap.size + 2) rfl (.tmp 42) (.tmp 45) 22 5 (.int .u8 0) 1 1 rfl Try.underlying22 info_u8 rfl (by decide) (by decide) (.slice none 0 0) 0 [] _ (m - 4) _ (nums .u8 ((xs.drop 4).take (m - 4))) rfl rfl ?c1 (nums_one _ _) (own_nil _ _ _ _) ?c2 ?c3 ?c4 ?_
         (case c1 => rw [nums_length, HL.out, Nat.mul_one])
         (case c2 => exact HCF.out _ (below_drewN (HCW.out _) 1))
         (case c3 => simp)
         (case c4 => have := HM4.out; omega)
         intro v1 w1 ho1 hg1 _
         obtain ⟨A1, c1, rfl, HO1, HB1, HN0, HN1, hca0, hca1, hca2, hfr0, hfr1, hfr2, hcb0, hcb1, hcb2, hfr3, HH⟩ := HARM.out _ _ _ _ ho1 (grown_undrew hg1)
         clear ho1 hg1)
      go_wp2
      obtain ⟨hd0, hd1, hd2⟩ := HC3.out (w1.setCell ⟨w.heap.size + 1, 2, none⟩ (.slice A1 (m - 4) c1)) (.slice A1 (m - 4) c1) (at_other (p := ⟨w.heap.size + 1, 2, none⟩) _ HH.out (by show w.heap.size ≠ w.heap.size + 1; omega))
      exact bodyPost_ret (v := .tuple #[.agg #[.int .i64 X0, .int .i64 X1, .slice A1 (m - 4) c1], .int .i64 0]) (by simp [results, Try.results23, go_sem, hd0, hd1, hd2]) rfl (HS4.out _ _ HB1.out HO1.out HN0.out HN1.out)
end Go.Proofs.Ythlfdckcnpnemaa
