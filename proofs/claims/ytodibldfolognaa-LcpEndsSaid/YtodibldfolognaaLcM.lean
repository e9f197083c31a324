/-
  The reference's Method. Conditions: the bytes are no longer than the model's memory.
-/
import Derived.Test.YtodibldfolognaaLcL
namespace Go.Proofs.Ytodibldfolognaa
open Go.RowKit
set_option linter.unusedVariables false
set_option linter.unusedSimpArgs false

set_option maxRecDepth 100000 in
set_option maxHeartbeats 1000000 in
theorem rmethod_any (A : Option Addr) (n c : Nat) (xs : List Int) (hn : xs.length = n) (hb : Byt xs) (w : World) (hx : Cells w A (nums .u8 xs)) :
    Calls Try.prog 39 #[.slice A n c] w fun e w' => e = .returned (.int .i64 (methF xs)) ∧ Below w.heap.size w w' := by
  have Hn := Lib.hid hn
  have HX := Lib.hid hx
  have HB := Lib.hid hb
  clear hn hx hb
  go_enter Try.func39, Try.ntmps39
  go_wp2
  go_loopw [3] (fun i wr => ∃ k : Nat, i = .int .i64 k ∧ 1 ≤ k ∧ k ≤ 4 ∧ Hid (∀ m : Int, 1 ≤ m → m < k → xs ≠ authL m) ∧ Hid (Ext w wr)) (fun i _ => 4 - (intOf i).toNat)
  case atStart => exact ⟨1, rfl, by omega, by omega, (by intro m h1 h2; omega), (inferInstance : Ext w w)⟩
  case round =>
    obtain ⟨k, rfl, hk1, hk, HM, HE⟩ := hrel
    have XE : Ext w wr := HE.out
    by_cases hlt : k ≤ 3
    · have hkI : (k : Int) ≤ 3 := by omega
      have HLA := authL_len (k : Int)
      obtain ⟨ll, hll⟩ : ∃ ll, authL (k : Int) = ll := ⟨_, rfl⟩
      have HLL := Lib.hid hll
      have HLB : Hid (Byt ll) := by unfold Hid; rw [← hll]; exact authL_byt _
      clear hll
      by_cases heq : ll = xs
      · have HS : Hid (((strOfNums ll).toList == (strOfNums xs).toList) = true) := by unfold Hid; rw [str_eq HLB.out HB.out, decide_eq_true heq]
        have HR : Hid (methF xs = k) := by
          unfold Hid
          rw [← heq, ← HLL.out]
          have h4 : k = 1 ∨ k = 2 ∨ k = 3 := by omega
          rcases h4 with rfl | rfl | rfl <;> rfl
        clear heq
        go_wp2
        refine wp_region_held_drew (S := fun W => Ext wr W) (by kernel_rfl) (by exact inferInstance) (fun hHeld => ?_)
        refine wpAnyH_take (i := 0) (v := ?_) rfl (by kernel_rfl) (by kernel_rfl) (by kernel_rfl) (fun _ _ _ h => h) (Yields.yieldsIf (Or.inl ⟨by rfl, ?_⟩)) hHeld ?_
        rotate_left
        · intro W
          go_simp
          try with_reducible rfl
        simp only [List.getElem_toArray, List.getElem_cons_succ, List.getElem_cons_zero, Act.put, List.setIfInBounds_toArray, List.set_cons_zero, List.set_cons_succ]
        refine wpAnyH_take (i := 3) (v := ?_) rfl (by kernel_rfl) (by kernel_rfl) (by kernel_rfl) (fun _ _ _ h => h) (Yields.yieldsIf (Or.inl ⟨by rfl, ?_⟩)) hHeld ?_
        rotate_left
        · intro W
          go_simp
          try with_reducible rfl
        simp only [List.getElem_toArray, List.getElem_cons_succ, List.getElem_cons_zero, Act.put, List.setIfInBounds_toArray, List.set_cons_zero, List.set_cons_succ]
        refine wpAnyH_take (i := 4) (v := ?_) rfl (by kernel_rfl) (by kernel_rfl) (by kernel_rfl) (fun _ _ _ h => h) (Or.inl ⟨by rfl, ?_⟩) hHeld ?_
        rotate_left
        · intro W hW
          have hcl := conv_cells (P := Try.prog) (c := c) 41 5 9 Try.underlying41 Try.underlying5 Try.underlying9 Hn.out (HX.out.ext (w' := W) (h := Ext.trans_ XE hW))
          go_simp
          try with_reducible rfl
        simp only [List.getElem_toArray, List.getElem_cons_succ, List.getElem_cons_zero, Act.put, List.setIfInBounds_toArray, List.set_cons_zero, List.set_cons_succ]
        refine wpAnyH_ready (rs := [1]) (by kernel_rfl) (by simp) ?_
        refine AllReadyH.cons rfl (fun K hK => ?_) AllReadyH.nil
        refine step_call_w (by rfl) Try.func37 (by kernel_rfl) (by kernel_rfl) #[.tmp 8] #[3] rfl #[.int .i64 k] ?hv (rauth_any (k : Int) _) ?_
        case hv => go_simp
        rintro e w1 ⟨v1, rfl, ho1, hb1⟩
        refine ⟨_, rfl, ?_⟩
        have S1 : Step w1 _ := ⟨hb1⟩
        obtain ⟨A1, c1, rfl, _⟩ := own_slice ho1
        have HC1 := own_cells ho1
        rw [HLL.out] at HC1 ⊢
        have hcv := conv_cells (P := Try.prog) (c := c1) 41 5 9 Try.underlying41 Try.underlying5 Try.underlying9 rfl HC1
        clear ho1 hb1 hHeld HC1
        refine hK.out _ _ (by exact inferInstance) (fun hHeld => ?_)
        clear hK K
        simp only [List.getElem_toArray, List.getElem_cons_succ, List.getElem_cons_zero, Act.put, List.setIfInBounds_toArray, List.set_cons_zero, List.set_cons_succ]
        refine wpAnyH_ready (rs := [2]) (by kernel_rfl) (by simp) ?_
        refine AllReadyH.cons rfl (fun K hK => ?_) AllReadyH.nil
        rw [if_pos (by rfl)]
        unfold Oper.wp
        go_simp
        clear hHeld hcv
        refine hK.out _ _ (by exact inferInstance) (fun hHeld => ?_)
        clear hK K
        try simp only [List.getElem_toArray, List.getElem_cons_succ, List.getElem_cons_zero, Act.put, List.setIfInBounds_toArray, List.set_cons_zero, List.set_cons_succ]
        refine wpAnyH_take (i := 5) (v := ?_) rfl (by kernel_rfl) (by kernel_rfl) (by kernel_rfl) (fun _ _ _ h => h) (Yields.yieldsIf (Or.inl ⟨by rfl, ?_⟩)) hHeld ?_
        rotate_left
        · intro W
          go_simp
          try with_reducible rfl
        simp only [List.getElem_toArray, List.getElem_cons_succ, List.getElem_cons_zero, Act.put, List.setIfInBounds_toArray, List.set_cons_zero, List.set_cons_succ]
        refine wpAnyH_done (by kernel_rfl) ?_ _
        clear hHeld
        rw [HS.out]
        go_wp2
        go_ret
        exact ⟨ret_int HR.out.symm, Ext.out⟩
      · have HS : Hid (((strOfNums ll).toList == (strOfNums xs).toList) = false) := by unfold Hid; rw [str_eq HLB.out HB.out, decide_eq_false heq]
        have HNE : Hid (xs ≠ authL (k : Int)) := by unfold Hid; rw [HLL.out]; exact fun h => heq h.symm
        clear heq
        go_wp2
        refine wp_region_held_drew (S := fun W => Ext wr W) (by kernel_rfl) (by exact inferInstance) (fun hHeld => ?_)
        refine wpAnyH_take (i := 0) (v := ?_) rfl (by kernel_rfl) (by kernel_rfl) (by kernel_rfl) (fun _ _ _ h => h) (Yields.yieldsIf (Or.inl ⟨by rfl, ?_⟩)) hHeld ?_
        rotate_left
        · intro W
          go_simp
          try with_reducible rfl
        simp only [List.getElem_toArray, List.getElem_cons_succ, List.getElem_cons_zero, Act.put, List.setIfInBounds_toArray, List.set_cons_zero, List.set_cons_succ]
        refine wpAnyH_take (i := 3) (v := ?_) rfl (by kernel_rfl) (by kernel_rfl) (by kernel_rfl) (fun _ _ _ h => h) (Yields.yieldsIf (Or.inl ⟨by rfl, ?_⟩)) hHeld ?_
        rotate_left
        · intro W
          go_simp
          try with_reducible rfl
        simp only [List.getElem_toArray, List.getElem_cons_succ, List.getElem_cons_zero, Act.put, List.setIfInBounds_toArray, List.set_cons_zero, List.set_cons_succ]
        refine wpAnyH_take (i := 4) (v := ?_) rfl (by kernel_rfl) (by kernel_rfl) (by kernel_rfl) (fun _ _ _ h => h) (Or.inl ⟨by rfl, ?_⟩) hHeld ?_
        rotate_left
        · intro W hW
          have hcl := conv_cells (P := Try.prog) (c := c) 41 5 9 Try.underlying41 Try.underlying5 Try.underlying9 Hn.out (HX.out.ext (w' := W) (h := Ext.trans_ XE hW))
          go_simp
          try with_reducible rfl
        simp only [List.getElem_toArray, List.getElem_cons_succ, List.getElem_cons_zero, Act.put, List.setIfInBounds_toArray, List.set_cons_zero, List.set_cons_succ]
        refine wpAnyH_ready (rs := [1]) (by kernel_rfl) (by simp) ?_
        refine AllReadyH.cons rfl (fun K hK => ?_) AllReadyH.nil
        refine step_call_w (by rfl) Try.func37 (by kernel_rfl) (by kernel_rfl) #[.tmp 8] #[3] rfl #[.int .i64 k] ?hv (rauth_any (k : Int) _) ?_
        case hv => go_simp
        rintro e w1 ⟨v1, rfl, ho1, hb1⟩
        refine ⟨_, rfl, ?_⟩
        have S1 : Step w1 _ := ⟨hb1⟩
        obtain ⟨A1, c1, rfl, _⟩ := own_slice ho1
        have HC1 := own_cells ho1
        rw [HLL.out] at HC1 ⊢
        have hcv := conv_cells (P := Try.prog) (c := c1) 41 5 9 Try.underlying41 Try.underlying5 Try.underlying9 rfl HC1
        clear ho1 hb1 hHeld HC1
        refine hK.out _ _ (by exact inferInstance) (fun hHeld => ?_)
        clear hK K
        simp only [List.getElem_toArray, List.getElem_cons_succ, List.getElem_cons_zero, Act.put, List.setIfInBounds_toArray, List.set_cons_zero, List.set_cons_succ]
        refine wpAnyH_ready (rs := [2]) (by kernel_rfl) (by simp) ?_
        refine AllReadyH.cons rfl (fun K hK => ?_) AllReadyH.nil
        rw [if_pos (by rfl)]
        unfold Oper.wp
        go_simp
        clear hHeld hcv
        refine hK.out _ _ (by exact inferInstance) (fun hHeld => ?_)
        clear hK K
        try simp only [List.getElem_toArray, List.getElem_cons_succ, List.getElem_cons_zero, Act.put, List.setIfInBounds_toArray, List.set_cons_zero, List.set_cons_succ]
        refine wpAnyH_take (i := 5) (v := ?_) rfl (by kernel_rfl) (by kernel_rfl) (by kernel_rfl) (fun _ _ _ h => h) (Yields.yieldsIf (Or.inl ⟨by rfl, ?_⟩)) hHeld ?_
        rotate_left
        · intro W
          go_simp
          try with_reducible rfl
        simp only [List.getElem_toArray, List.getElem_cons_succ, List.getElem_cons_zero, Act.put, List.setIfInBounds_toArray, List.set_cons_zero, List.set_cons_succ]
        refine wpAnyH_done (by kernel_rfl) ?_ _
        clear hHeld
        rw [HS.out]
        go_wp2
        go_roundw
        case rel =>
          refine ⟨k + 1, by go_num, by omega, by omega, ?_, (inferInstance : Ext w _)⟩
          intro m h1 h2
          by_cases h3 : m < k
          · exact HM.out m h1 h3
          · rw [show m = (k : Int) by omega]
            exact HNE.out
        case measure => simp [intOf]; omega
    · have hkI : ¬ (k : Int) ≤ 3 := by omega
      have HR : Hid (methF xs = 0) := by
        unfold Hid methF
        rw [if_neg (show xs ≠ [192, 35] from HM.out 1 (by omega) (by omega)), if_neg (show xs ≠ [194, 35, 5] from HM.out 2 (by omega) (by omega)), if_neg (show xs ≠ [194, 39] from HM.out 3 (by omega) (by omega))]
      go_wp2
      go_ret
      exact ⟨ret_int HR.out.symm, Ext.out⟩
end Go.Proofs.Ytodibldfolognaa
