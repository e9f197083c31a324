/-
  What opt.Unpack and the reference's tell. Conditions: the lists are no longer than the model's memory.
-/
import Derived.Test.YthlfdckcnpnemaaOpt
import Derived.Test.YthlfdckcnpnemaaBase2
namespace Go.Proofs.Ythlfdckcnpnemaa
open Go.RowKit
set_option linter.unusedVariables false
set_option linter.unusedSimpArgs false

theorem wraps_i64 (n : Int) (h₀ : 0 ≤ n) (h₁ : n < 2 ^ 63) : IntKind.i64.wrap n = n := by rw [IntKind.wrap_i64]; omega
theorem or_i64_byte {x y : Int} (h0 : 0 ≤ x) (h1 : x < 256) (h2 : 0 ≤ y) (h3 : y < 256) : bits .or .i64 (x * 256) y = x * 256 + y :=
  bits_join .i64 63 (by decide) wraps_i64 8 (x * 256) y (by omega) (by omega) (by omega) h2 (by omega) (by omega)
def unpackF (bs : List Int) : Int × Int × List Int × Int :=
  if bs.length < 4 then (0, 0, [], 8) else if getN ((bs.drop 2).take 2) < 4 ∨ 16384 < getN ((bs.drop 2).take 2) then (0, 0, [], 4) else if (bs.length : Int) < getN ((bs.drop 2).take 2) then (0, 0, [], 8)
  else (bs.getD 0 0, bs.getD 1 0, (bs.drop 4).take ((getN ((bs.drop 2).take 2)).toNat - 4), 0)
theorem unpackF_two {bs : List Int} (h : 4 ≤ bs.length) : getN ((bs.drop 2).take 2) = bs.getD 2 0 * 256 + bs.getD 3 0 := by
  match bs, h with
  | _ :: _ :: a :: b :: _, _ => simp [getN]
def UnpackTells (E : TypeId) (bs : List Int) (w : World) (e : Ending) (w' : World) : Prop :=
  ∃ v, e = .returned (.tuple #[.agg #[.int .i64 (unpackF bs).1, .int .i64 (unpackF bs).2.1, v], .int .i64 (unpackF bs).2.2.2]) ∧ w'.ownsRow w.heap.size E 1 v (unpackF bs).2.2.1.length (nums .u8 (unpackF bs).2.2.1) ∧ Below w.heap.size w w'

set_option maxHeartbeats 4000000 in
theorem unpack_any (A : Option Addr) (n c : Nat) (xs : List Int) (hn : xs.length = n) (hn' : n ≤ 140737488355300) (hc : n ≤ c) (hb : Byt xs) (w : World) (hx : Cells w A (nums .u8 xs)) :
    Calls Try.prog 22 #[.slice A n c] w (UnpackTells 5 xs w) := by
  have Hn := Lib.hid hn
  by_cases h4 : n < 4
  · have HE : Hid (∀ w', Below w.heap.size w w' → UnpackTells 5 xs w (.returned (.tuple #[.agg #[.int .i64 0, .int .i64 0, .slice none 0 0], .int .i64 8])) w') := fun w' hb => by
      have e : unpackF xs = (0, 0, [], 8) := by unfold unpackF; rw [if_pos (by omega)]
      exact ⟨_, by rw [e], by rw [e]; exact own_nil _ _ _ _, hb⟩
    clear hn
    go_enter Try.func22, Try.ntmps22
    go_wp2
    exact bodyPost_ret (v := .tuple #[.agg #[.int .i64 0, .int .i64 0, .slice none 0 0], .int .i64 8]) (by simp [results, Try.results22, go_sem]) rfl (HE.out _ ((Below.refl _ _).alloc (Nat.le_refl _) _))
  · have hn4 : 4 ≤ n := by omega
    obtain ⟨ad, rfl, hcell⟩ := hx (by rw [nums_length]; omega)
    have hca : ∀ k : Nat, k < 4 → ∀ o, (w.alloc o).cell? (ad.add k) = some (.int .u8 (xs.getD k 0)) := fun k hk o => by
      have h1 := hcell k _ (nums_get _ _ _ (by omega))
      rw [World.cell?_alloc_lt w o _ (World.block_lt_of_cell? w _ h1)]
      exact h1
    have hg2 := hca 2 (by omega) (.cells #[.int .i64 0, .int .i64 0, .slice none 0 0] 35)
    have hg3 := hca 3 (by omega) (.cells #[.int .i64 0, .int .i64 0, .slice none 0 0] 35)
    have hg2' : (w.alloc (.cells #[.int .i64 0, .int .i64 0, .slice none 0 0] 35)).cell? ⟨ad.block, ad.off + 2, none⟩ = some (.int .u8 (xs.getD 2 0)) := hg2
    have hg3' : (w.alloc (.cells #[.int .i64 0, .int .i64 0, .slice none 0 0] 35)).cell? ⟨ad.block, ad.off + 3, none⟩ = some (.int .u8 (xs.getD 3 0)) := hg3
    have hi2 : (2 : Int) < (n : Int) := by omega
    have hi3 : (3 : Int) < (n : Int) := by omega
    have hj2 : 2 < n := by omega
    have hj3 : 3 < n := by omega
    have hb2 := hb.getD 2
    have hb3 := hb.getD 3
    obtain ⟨N, hN⟩ : ∃ N, N = getN ((xs.drop 2).take 2) := ⟨_, rfl⟩
    have hN2 : bits .or .i64 (xs.getD 2 0 * 256) (xs.getD 3 0) = N := by
      rw [hN, unpackF_two (by omega)]
      exact or_i64_byte hb2.1 hb2.2 hb3.1 hb3.2
    have HNN := Lib.hid hN
    have hNb : 0 ≤ N ∧ N < 65536 := by rw [hN, unpackF_two (by omega)]; omega
    have HX := Lib.hid hx
    have HCA := Lib.hid hca
    generalize xs.getD 2 0 = X2 at *
    generalize xs.getD 3 0 = X3 at *
    clear hN hca hcell h4
    have HF : Hid (¬ xs.length < 4) := by unfold Hid; omega
    have HU : Hid (∀ (w' : World) (k : Int), Below w.heap.size w w' → unpackF xs = (0, 0, [], k) → UnpackTells 5 xs w (.returned (.tuple #[.agg #[.int .i64 0, .int .i64 0, .slice none 0 0], .int .i64 k])) w') := fun w' k hb e =>
      ⟨_, by rw [e], by rw [e]; exact own_nil _ _ _ _, hb⟩
    by_cases hN4 : N < 4
    · have HE : Hid (unpackF xs = (0, 0, [], 4)) := by unfold Hid unpackF; rw [if_neg HF.out, ← HNN.out, if_pos (by omega)]
      clear hn
      go_enter Try.func22, Try.ntmps22
      go_wp2
      go_quiet (fail)
      go_wp2
      exact bodyPost_ret (v := .tuple #[.agg #[.int .i64 0, .int .i64 0, .slice none 0 0], .int .i64 4]) (by simp [results, Try.results22, go_sem]) rfl (HU.out _ _ ((((below_drewN ((Below.refl _ _).alloc (Nat.le_refl _) _) _).setCell (p := ⟨w.heap.size,0,none⟩) (Nat.le_refl _) _).setCell (p := ⟨w.heap.size,1,none⟩) (Nat.le_refl _) _).setCell (p := ⟨w.heap.size,2,none⟩) (Nat.le_refl _) _) HE.out)
    by_cases hN16 : 16384 < N
    · have HE : Hid (unpackF xs = (0, 0, [], 4)) := by unfold Hid unpackF; rw [if_neg HF.out, ← HNN.out, if_pos (by omega)]
      clear hn
      go_enter Try.func22, Try.ntmps22
      go_wp2
      go_quiet (fail)
      go_wp2
      exact bodyPost_ret (v := .tuple #[.agg #[.int .i64 0, .int .i64 0, .slice none 0 0], .int .i64 4]) (by simp [results, Try.results22, go_sem]) rfl (HU.out _ _ ((((below_drewN ((Below.refl _ _).alloc (Nat.le_refl _) _) _).setCell (p := ⟨w.heap.size,0,none⟩) (Nat.le_refl _) _).setCell (p := ⟨w.heap.size,1,none⟩) (Nat.le_refl _) _).setCell (p := ⟨w.heap.size,2,none⟩) (Nat.le_refl _) _) HE.out)
    by_cases hnN : (n : Int) < N
    · have HE : Hid (unpackF xs = (0, 0, [], 8)) := by unfold Hid unpackF; rw [if_neg HF.out, ← HNN.out, if_neg (by omega), if_pos (by omega)]
      clear hn
      go_enter Try.func22, Try.ntmps22
      go_wp2
      go_quiet (fail)
      go_wp2
      exact bodyPost_ret (v := .tuple #[.agg #[.int .i64 0, .int .i64 0, .slice none 0 0], .int .i64 8]) (by simp [results, Try.results22, go_sem]) rfl (HU.out _ _ ((((below_drewN ((Below.refl _ _).alloc (Nat.le_refl _) _) _).setCell (p := ⟨w.heap.size,0,none⟩) (Nat.le_refl _) _).setCell (p := ⟨w.heap.size,1,none⟩) (Nat.le_refl _) _).setCell (p := ⟨w.heap.size,2,none⟩) (Nat.le_refl _) _) HE.out)
    obtain ⟨m, rfl⟩ := Int.eq_ofNat_of_zero_le hNb.1
    have HE : Hid (unpackF xs = (xs.getD 0 0, xs.getD 1 0, (xs.drop 4).take (m - 4), 0)) := by unfold Hid unpackF; rw [if_neg HF.out, ← HNN.out, if_neg (by omega), if_neg (by omega)]; simp
    have HL : Hid (((xs.drop 4).take (m - 4)).length = m - 4) := by unfold Hid; rw [List.length_take, List.length_drop]; omega
    have hg0 : (w.alloc (.cells #[.int .i64 0, .int .i64 0, .slice none 0 0] 35)).cell? ad = some (.int .u8 (xs.getD 0 0)) := HCA.out 0 (by omega) _
    have hg1 : (w.alloc (.cells #[.int .i64 0, .int .i64 0, .slice none 0 0] 35)).cell? ⟨ad.block, ad.off + 1, none⟩ = some (.int .u8 (xs.getD 1 0)) := HCA.out 1 (by omega) _
    have hb0 := hb.getD 0
    have hb1 := hb.getD 1
    generalize xs.getD 0 0 = X0 at *
    generalize xs.getD 1 0 = X1 at *
    have hj0 : 0 < n := by omega
    have hj1 : 1 < n := by omega
    have hi0 : (0 : Int) < (n : Int) := by omega
    have hi1 : (1 : Int) < (n : Int) := by omega
    have hwX0 : IntKind.i64.wrap X0 = X0 := wraps_i64 X0 hb0.1 (by omega)
    have hwX1 : IntKind.i64.wrap X1 = X1 := wraps_i64 X1 hb1.1 (by omega)
    have hm4 : (4 : Int) ≤ (m : Int) := by omega
    have hm5 : (m : Int) ≤ (c : Int) := by omega
    have hm6 : 4 ≤ m := by omega
    have hm7 : m ≤ c := by omega
    clear hn
    have HCD : Hid (∀ W : World, Below w.heap.size w W → Cells W (if c = 4 then some ad else some (ad.add 4)) (nums .u8 ((xs.drop 4).take (m - 4)))) := by
      intro W hW
      have h1 := (HX.out.drop (n := n) (size := 1) (by rw [nums_length, Hn.out, Nat.mul_one]) (by omega) 4 (by omega)).take (m - 4)
      rw [← nums_drop, ← nums_take] at h1
      exact h1.below hW
    have HS : Hid (∀ (W W' : World) v, Below w.heap.size w W → W.ownsRow w.heap.size 5 1 v (m - 4) (nums .u8 ((xs.drop 4).take (m - 4))) → UnpackTells 5 xs w (.returned (.tuple #[.agg #[.int .i64 X0, .int .i64 X1, v], .int .i64 0])) W) := by
      intro W W' v hW hv
      refine ⟨v, by rw [HE.out], ?_, hW⟩
      rw [HE.out]
      simp only
      rw [HL.out]
      exact hv
    have HS3 : Hid (∀ (W : World) v, Below w.heap.size w W → W.ownsRow w.heap.size 5 1 v (m - 4) (nums .u8 ((xs.drop 4).take (m - 4))) → v.ownBlock ≠ some w.heap.size → UnpackTells 5 xs w (.returned (.tuple #[.agg #[.int .i64 X0, .int .i64 X1, v], .int .i64 0])) (((W.setCell ⟨w.heap.size, 0, none⟩ (.int .i64 X0)).setCell ⟨w.heap.size, 1, none⟩ (.int .i64 X1)).setCell ⟨w.heap.size, 2, none⟩ v)) := by
      intro W v hW hv hne
      exact HS.out _ W v (below_set3 hW (Nat.le_refl _) 0 1 2 _ _ _) (own_setCell (own_setCell (own_setCell hv hne _) hne _) hne _)
    have HC3 : Hid (∀ (W : World) v, W.heap[w.heap.size]? = some (.cells #[.int .i64 0, .int .i64 0, .slice none 0 0] 35 (0, 0)) →
        (((W.setCell ⟨w.heap.size, 0, none⟩ (.int .i64 X0)).setCell ⟨w.heap.size, 1, none⟩ (.int .i64 X1)).setCell ⟨w.heap.size, 2, none⟩ v).cell? ⟨w.heap.size, 0, none⟩ = some (.int .i64 X0) ∧
        (((W.setCell ⟨w.heap.size, 0, none⟩ (.int .i64 X0)).setCell ⟨w.heap.size, 1, none⟩ (.int .i64 X1)).setCell ⟨w.heap.size, 2, none⟩ v).cell? ⟨w.heap.size, 1, none⟩ = some (.int .i64 X1) ∧
        (((W.setCell ⟨w.heap.size, 0, none⟩ (.int .i64 X0)).setCell ⟨w.heap.size, 1, none⟩ (.int .i64 X1)).setCell ⟨w.heap.size, 2, none⟩ v).cell? ⟨w.heap.size, 2, none⟩ = some v) := by
      intro W v h
      have h3 := at_set (at_set (at_set h 0 (.int .i64 X0)) 1 (.int .i64 X1)) 2 v
      exact ⟨at_cell h3 0, at_cell h3 1, at_cell h3 2⟩
    have HM4 : Hid (m - 4 ≤ 140737488355300) := by unfold Hid; omega
    have HCB : Hid (∀ k, ((w.alloc (.cells #[.int .i64 0, .int .i64 0, .slice none 0 0] 35)).drewN k).heap[w.heap.size]? = some (.cells #[.int .i64 0, .int .i64 0, .slice none 0 0] 35 (0, 0))) := fun k => at_drewN (at_new _ _) k
    have HCW : Hid (∀ k, Below w.heap.size w ((w.alloc (.cells #[.int .i64 0, .int .i64 0, .slice none 0 0] 35)).drewN k)) := fun k => below_drewN ((Below.refl _ _).alloc (Nat.le_refl _) _) k
    have HARM : Hid (∀ k v1 w1, w1.ownsRow ((w.alloc (.cells #[.int .i64 0, .int .i64 0, .slice none 0 0] 35)).drewN k).heap.size 5 1 v1 (m - 4) (nums .u8 ((xs.drop 4).take (m - 4))) → Below ((w.alloc (.cells #[.int .i64 0, .int .i64 0, .slice none 0 0] 35)).drewN k).heap.size ((w.alloc (.cells #[.int .i64 0, .int .i64 0, .slice none 0 0] 35)).drewN k) w1 →
        w1.ownsRow w.heap.size 5 1 v1 (m - 4) (nums .u8 ((xs.drop 4).take (m - 4))) ∧ Below w.heap.size w w1 ∧ v1.ownBlock ≠ some w.heap.size ∧ w1.cell? ad = some (.int .u8 X0) ∧ w1.cell? ⟨ad.block, ad.off + 1, none⟩ = some (.int .u8 X1) ∧
        w1.cell? ⟨w.heap.size, 0, none⟩ = some (.int .i64 0) ∧ w1.cell? ⟨w.heap.size, 1, none⟩ = some (.int .i64 0) ∧ w1.cell? ⟨w.heap.size, 2, none⟩ = some (.slice none 0 0) ∧
        w1.frozen? ⟨w.heap.size, 0, none⟩ = false ∧ w1.frozen? ⟨w.heap.size, 1, none⟩ = false ∧ w1.frozen? ⟨w.heap.size, 2, none⟩ = false ∧ Hid (w1.heap[w.heap.size]? = some (.cells #[.int .i64 0, .int .i64 0, .slice none 0 0] 35 (0, 0)))) := by
      intro k v1 w1 ho hb
      have hh := at_below (HCB.out k) hb
      have hsz : ((w.alloc (.cells #[.int .i64 0, .int .i64 0, .slice none 0 0] 35)).drewN k).heap.size = w.heap.size + 1 := World.size_alloc w _
      refine ⟨own_weaken ho (by rw [hsz]; omega), (HCW.out k).trans (hb.mono (by rw [hsz]; omega)), fun h => ?_, (hb.cell (World.block_lt_of_cell? _ _ hg0)).trans hg0, (hb.cell (World.block_lt_of_cell? _ _ hg1)).trans hg1, at_cell hh 0, at_cell hh 1, at_cell hh 2, at_frozen hh 0, at_frozen hh 1, at_frozen hh 2, hh⟩
      have := own_base ho _ h
      rw [hsz] at this
      omega
    by_cases hc4 : c = 4
    · subst hc4
      have HCE := HCD.out
      rw [if_pos rfl] at HCE
      have HCF := Lib.hid HCE
      clear HCE
      have e0 : m - 4 = 0 := by omega
      rw [e0] at HL HM4 HCF HS3 HARM
      clear e0
      go_enter Try.func22, Try.ntmps22
      go_wp2
      go_quiet (fail)
      go_wp2
      go_region_with (first
        | (go_at_call 52
           refine (clone_any _ (0) _ _ HL.out HM4.out _ ?c1).mono ?_
           case c1 => exact HCF.out _ (HCW.out _)
           rintro e w1 ⟨v1, rfl, ho1, hb1⟩
           obtain ⟨ho2, hb2, hne, hca0, hca1, hcb0, hcb1, hcb2, hfr0, hfr1, hfr2, HH⟩ := HARM.out _ _ _ ho1 hb1
           obtain ⟨A1, c1, rfl, hc1⟩ := own_slice ho2
           have HO2 := Lib.hid ho2
           have HB2 := Lib.hid hb2
           have HNE := Lib.hid hne
           clear ho1 hb1 ho2 hb2 hne))
      all_goals go_wp2
      all_goals
        obtain ⟨hd0, hd1, hd2⟩ := HC3.out _ (.slice A1 (0) c1) HH.out
        exact bodyPost_ret (v := .tuple #[.agg #[.int .i64 X0, .int .i64 X1, .slice A1 (0) c1], .int .i64 0]) (by simp [results, Try.results22, go_sem, hd0, hd1, hd2]) rfl (HS3.out _ _ HB2.out HO2.out HNE.out)
    · have HCE := HCD.out
      rw [if_neg hc4] at HCE
      have HCF := Lib.hid HCE
      clear HCE
      go_enter Try.func22, Try.ntmps22
      go_wp2
      go_quiet (fail)
      go_wp2
      go_region_with (first
        | (go_at_call 52
           refine (clone_any _ (m - 4) _ _ HL.out HM4.out _ ?c1).mono ?_
           case c1 => exact HCF.out _ (HCW.out _)
           rintro e w1 ⟨v1, rfl, ho1, hb1⟩
           obtain ⟨ho2, hb2, hne, hca0, hca1, hcb0, hcb1, hcb2, hfr0, hfr1, hfr2, HH⟩ := HARM.out _ _ _ ho1 hb1
           obtain ⟨A1, c1, rfl, hc1⟩ := own_slice ho2
           have HO2 := Lib.hid ho2
           have HB2 := Lib.hid hb2
           have HNE := Lib.hid hne
           clear ho1 hb1 ho2 hb2 hne))
      all_goals go_wp2
      all_goals
        obtain ⟨hd0, hd1, hd2⟩ := HC3.out _ (.slice A1 (m - 4) c1) HH.out
        exact bodyPost_ret (v := .tuple #[.agg #[.int .i64 X0, .int .i64 X1, .slice A1 (m - 4) c1], .int .i64 0]) (by simp [results, Try.results22, go_sem, hd0, hd1, hd2]) rfl (HS3.out _ _ HB2.out HO2.out HNE.out)
end Go.Proofs.Ythlfdckcnpnemaa
