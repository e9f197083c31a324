/-
  pap.part: a part of data and what is behind it, or a panic with 'short'. Conditions: the data are no longer than the model's memory.
-/
import Derived.Test.YtodibldfolognaaPpB
import Derived.Recover
namespace Go.Proofs.Ytodibldfolognaa
open Go.RowKit
set_option linter.unusedVariables false
set_option linter.unusedSimpArgs false

abbrev sP : List PanicEntry := [{ v := .iface 168 (.agg #[.int .i64 8]), recovered := false }]
def partF : List Int → Option (List Int × List Int)
  | [] => none
  | x :: xs => if (xs.length : Int) < x then none else some (xs.take x.toNat, xs.drop x.toNat)
def PartTells (A0 : Option Addr) (xs : List Int) (w : World) (e : Ending) (w' : World) : Prop :=
  Below w.heap.size w w' ∧ match partF xs with
    | none => e = .panicked sP
    | some (p, r) => ∃ A c, e = .returned (.tuple #[.string (strOfNums p), .slice A r.length c]) ∧ r.length ≤ c ∧ ∀ w0, Cells w0 A0 (nums .u8 xs) → Cells w0 A (nums .u8 r)
theorem part_no {A0 : Option Addr} {xs : List Int} {w w' : World} (h : partF xs = none) (hb : Below w.heap.size w w') : PartTells A0 xs w (.panicked sP) w' := ⟨hb, by rw [h]⟩
set_option maxRecDepth 100000 in
set_option maxHeartbeats 4000000 in
theorem part_any (A : Option Addr) (n c : Nat) (xs : List Int) (hn : xs.length = n) (hn' : n ≤ 140737488355328) (hnc : n ≤ c) (hb : Byt xs) (w : World) (hx : Cells w A (nums .u8 xs)) :
    Calls Try.prog 111 #[.slice A n c] w (PartTells A xs w) := by
  have Hn := Lib.hid hn
  have HX := Lib.hid hx
  have HB := Lib.hid hb
  clear hn hx hb
  rcases xs with _ | ⟨X, ys⟩
  · obtain rfl : n = 0 := Hn.out.symm
    go_enter Try.func111, Try.ntmps111
    go_wp2
    go_step3
    go_wp2
    go_step3
    go_wp2
    go_loop [5] (fun i => i = .int .i64 0) (fun i => 1 - (intOf i).toNat)
    case atStart => rfl
    case round =>
      subst hrel
      go_wp2
      exact ⟨rfl, part_no rfl (Below.refl _ _)⟩
  · have hl : ys.length + 1 = n := Hn.out
    have hX := HB.out X (by simp)
    obtain ⟨ad, rfl, hc⟩ := HX.out.num (xs := X :: ys) (i := 0) (by simp)
    have hc0 : w.cell? ad = some (.int .u8 X) := by
      have h := hc
      unfold Addr.add at h
      rw [if_pos rfl] at h
      exact h
    have hX0 := hX.1
    have hX1 := hX.2
    have hn1 : ¬ (n : Int) < 1 := by omega
    have hn1b : (0 : Int) < (n : Int) := by omega
    clear hc hX
    by_cases hlt : (ys.length : Int) < X
    · have HP : Hid (partF (X :: ys) = none) := if_pos hlt
      have hle : (n : Int) ≤ X := by omega
      go_enter Try.func111, Try.ntmps111
      go_wp2
      go_step3
      go_wp2
      go_step3
      go_wp2
      go_loop [5] (fun i => i = .int .i64 0) (fun i => 1 - (intOf i).toNat)
      case atStart => rfl
      case round =>
        subst hrel
        go_wp2
        exact ⟨rfl, part_no HP.out (Below.refl _ _)⟩
    · have HP : Hid (partF (X :: ys) = some (ys.take X.toNat, ys.drop X.toNat)) := if_neg hlt
      have hle : ¬ (n : Int) ≤ X := by omega
      go_enter Try.func111, Try.ntmps111
      go_wp2
      go_step3
      go_wp2
      go_step3
      go_wp2
      go_loop [5] (fun i => i = .int .i64 0) (fun i => 1 - (intOf i).toNat)
      case atStart => rfl
      case round =>
        subst hrel
        obtain ⟨x, rfl⟩ : ∃ x : Nat, X = x := ⟨X.toNat, by omega⟩
        have hw : IntKind.i64.wrap (1 + (x : Int)) = 1 + (x : Int) := by rw [IntKind.wrap_i64]; omega
        have b1 : ¬ (c : Int) < 1 + (x : Int) := by omega
        have b2 : 1 + (x : Int) ≤ (n : Int) := by omega
        have b3 : 1 + (x : Int) ≤ (c : Int) := by omega
        have b4 : 0 ≤ 1 + (x : Int) := by omega
        have b5 : 1 ≤ 1 + (x : Int) := by omega
        have ht : (1 + (x : Int)).toNat = 1 + x := by omega
        have hxy : x ≤ ys.length := by omega
        have hd1 := Cells.drop (size := 1) (n := n) (c := c) HX.out (by rw [nums_length, Hn.out, Nat.mul_one]) hnc 1 (by omega)
        have hd2 : ∀ w0 : World, Cells w0 (some ad) (nums .u8 ((x : Int) :: ys)) → Cells w0 (if c = 1 + x then some ad else some (ad.add (1 + x))) (nums .u8 (ys.drop x)) := fun w0 h0 => by
          have hd2 := Cells.drop (size := 1) (n := n) (c := c) h0 (by rw [nums_length, Hn.out, Nat.mul_one]) hnc (1 + x) (by omega)
          rw [Nat.mul_one, ← nums_drop, Nat.add_comm 1 x, List.drop_succ_cons, Option.map_some, Nat.add_comm x 1] at hd2
          exact hd2
        rw [Nat.mul_one, ← nums_drop, List.drop_succ_cons, List.drop_zero, Option.map_some] at hd1
        have e1 : ad.add 1 = ⟨ad.block, ad.off + 1, none⟩ := by unfold Addr.add; rw [if_neg (by decide)]
        rw [e1] at hd1
        obtain ⟨A1, hA1⟩ : ∃ A1, (if c = 1 then some ad else some (⟨ad.block, ad.off + 1, none⟩ : Addr)) = A1 := ⟨_, rfl⟩
        obtain ⟨A2, hA2⟩ : ∃ A2, (if c = 1 + x then some ad else some (ad.add (1 + x))) = A2 := ⟨_, rfl⟩
        rw [hA1] at hd1
        rw [hA2] at hd2
        have HC1 : Hid (Cells w A1 (nums .u8 (ys.take x))) := by unfold Hid; rw [nums_take]; exact hd1.take x
        have HC2 := Lib.hid hd2
        have k1 : (convert 41 9 (.slice A1 x (c - 1))).run Try.prog w.drew = .ok (.string (strOfNums (ys.take x))) w.drew :=
          conv_cells (P := Try.prog) (c := c - 1) 41 5 9 Try.underlying41 Try.underlying5 Try.underlying9 (by rw [List.length_take]; omega) HC1.out.drew
        have HLR : Hid ((ys.drop x).length = n - (1 + x)) := by unfold Hid; rw [List.length_drop]; omega
        clear hd1 hd2 e1 hl hle hlt
        go_wp2_with fail
        refine wp_region_held_drew (S := fun W => Ext w W) (by kernel_rfl) (by exact inferInstance) (fun hHeld => ?_)
        refine wpAnyH_take (i := 0) (v := ?_) rfl (by kernel_rfl) (by kernel_rfl) (by kernel_rfl) (fun _ _ _ h => h) (Yields.yieldsIf (Or.inl ⟨by rfl, ?_⟩)) hHeld ?_
        rotate_left
        · intro W
          go_simp
          try with_reducible rfl
        simp only [List.getElem_toArray, List.getElem_cons_succ, List.getElem_cons_zero, Act.put, List.setIfInBounds_toArray, List.set_cons_zero, List.set_cons_succ]
        refine wpAnyH_take (i := 1) (v := ?_) rfl (by kernel_rfl) (by kernel_rfl) (by kernel_rfl) (fun _ _ _ h => h) (Yields.yieldsIf (Or.inl ⟨by rfl, ?_⟩)) hHeld ?_
        rotate_left
        · intro W
          go_simp
          try with_reducible rfl
        simp only [List.getElem_toArray, List.getElem_cons_succ, List.getElem_cons_zero, Act.put, List.setIfInBounds_toArray, List.set_cons_zero, List.set_cons_succ]
        refine wpAnyH_take (i := 2) (v := ?_) rfl (by kernel_rfl) (by kernel_rfl) (by kernel_rfl) (fun _ _ _ h => h) (Yields.yieldsIf (Or.inl ⟨by rfl, ?_⟩)) hHeld ?_
        rotate_left
        · intro W
          go_simp
          try with_reducible rfl
        simp only [List.getElem_toArray, List.getElem_cons_succ, List.getElem_cons_zero, Act.put, List.setIfInBounds_toArray, List.set_cons_zero, List.set_cons_succ]
        refine wpAnyH_take (i := 3) (v := ?_) rfl (by kernel_rfl) (by kernel_rfl) (by kernel_rfl) (fun _ _ _ h => h) (Yields.yieldsIf (Or.inl ⟨by rfl, ?_⟩)) hHeld ?_
        rotate_left
        · intro W
          go_simp
          try with_reducible rfl
        simp only [List.getElem_toArray, List.getElem_cons_succ, List.getElem_cons_zero, Act.put, List.setIfInBounds_toArray, List.set_cons_zero, List.set_cons_succ]
        refine wpAnyH_take (i := 5) (v := ?_) rfl (by kernel_rfl) (by kernel_rfl) (by kernel_rfl) (fun _ _ _ h => h) (Yields.yieldsIf (Or.inl ⟨by rfl, ?_⟩)) hHeld ?_
        rotate_left
        · intro W
          go_simp
          try with_reducible rfl
        simp only [List.getElem_toArray, List.getElem_cons_succ, List.getElem_cons_zero, Act.put, List.setIfInBounds_toArray, List.set_cons_zero, List.set_cons_succ]
        refine wpAnyH_take (i := 6) (v := ?_) rfl (by kernel_rfl) (by kernel_rfl) (by kernel_rfl) (fun _ _ _ h => h) (Yields.yieldsIf (Or.inl ⟨by rfl, ?_⟩)) hHeld ?_
        rotate_left
        · intro W
          go_simp
          try with_reducible rfl
        simp only [List.getElem_toArray, List.getElem_cons_succ, List.getElem_cons_zero, Act.put, List.setIfInBounds_toArray, List.set_cons_zero, List.set_cons_succ]
        refine wpAnyH_take (i := 7) (v := ?_) rfl (by kernel_rfl) (by kernel_rfl) (by kernel_rfl) (fun _ _ _ h => h) (Yields.yieldsIf (Or.inl ⟨by rfl, ?_⟩)) hHeld ?_
        rotate_left
        · intro W
          go_simp
          try with_reducible rfl
        simp only [List.getElem_toArray, List.getElem_cons_succ, List.getElem_cons_zero, Act.put, List.setIfInBounds_toArray, List.set_cons_zero, List.set_cons_succ]
        refine wpAnyH_take (i := 8) (v := ?_) rfl (by kernel_rfl) (by kernel_rfl) (by kernel_rfl) (fun _ _ _ h => h) (Yields.yieldsIf (Or.inl ⟨by rfl, ?_⟩)) hHeld ?_
        rotate_left
        · intro W
          go_simp
          try with_reducible rfl
        simp only [List.getElem_toArray, List.getElem_cons_succ, List.getElem_cons_zero, Act.put, List.setIfInBounds_toArray, List.set_cons_zero, List.set_cons_succ]
        refine wpAnyH_ready (rs := [4]) (by kernel_rfl) (by simp) ?_
        refine AllReadyH.cons rfl (fun K hK => ?_) AllReadyH.nil
        rw [if_pos (by rfl)]
        unfold Oper.wp
        go_simp
        clear hHeld
        refine hK.out _ _ (by exact inferInstance) (fun hHeld => ?_)
        clear hK K
        try simp only [List.getElem_toArray, List.getElem_cons_succ, List.getElem_cons_zero, Act.put, List.setIfInBounds_toArray, List.set_cons_zero, List.set_cons_succ]
        refine wpAnyH_take (i := 9) (v := ?_) rfl (by kernel_rfl) (by kernel_rfl) (by kernel_rfl) (fun _ _ _ h => h) (Yields.yieldsIf (Or.inl ⟨by rfl, ?_⟩)) hHeld ?_
        rotate_left
        · intro W
          go_simp
          try with_reducible rfl
        simp only [List.getElem_toArray, List.getElem_cons_succ, List.getElem_cons_zero, Act.put, List.setIfInBounds_toArray, List.set_cons_zero, List.set_cons_succ]
        refine wpAnyH_take (i := 10) (v := ?_) rfl (by kernel_rfl) (by kernel_rfl) (by kernel_rfl) (fun _ _ _ h => h) (Yields.yieldsIf (Or.inl ⟨by rfl, ?_⟩)) hHeld ?_
        rotate_left
        · intro W
          go_simp
          try with_reducible rfl
        simp only [List.getElem_toArray, List.getElem_cons_succ, List.getElem_cons_zero, Act.put, List.setIfInBounds_toArray, List.set_cons_zero, List.set_cons_succ]
        refine wpAnyH_done (by kernel_rfl) ?_ _
        clear hHeld
        clear k1 hA1 hA2
        go_wp2
        rw [Exit.noGoto_ret]
        go_ret2
        refine ⟨(inferInstance : Ext w w.drew).out, ?_⟩
        rw [HP.out]
        exact ⟨A2, c - (1 + x), by rw [Int.toNat_natCast, HLR.out]; rfl, by rw [Int.toNat_natCast, HLR.out]; omega, by rw [Int.toNat_natCast]; exact HC2.out⟩
end Go.Proofs.Ytodibldfolognaa
