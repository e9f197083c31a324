/-
  eap: Server.word, Start, prove, end. Conditions: sizes.
-/
import Derived.Test.YtobddmpiljknpaaEbB
namespace Go.Proofs.Ytobddmpiljknpaa
open Go.RowKit
set_option linter.unusedVariables false
set_option linter.unusedSimpArgs false

set_option maxRecDepth 100000 in
set_option maxHeartbeats 4000000 in
theorem word4_any (B T : Nat) (nm : ByteArray) (tries : Int) (s : SS) (us : List SV) (LA : Option Addr) (lk : Nat) (w : World) (hE : ESrv w B T nm tries s us LA lk) :
    Calls Try.prog 80 #[.pointer (some ⟨B, 0, none⟩)] w fun e w' => e = .returned (.string (secW (strB s.says) (strB nm) us)) ∧ Below w.heap.size w w' := by
  have HE := Lib.hid hE
  have HT := Lib.hid hE.t.t
  have hl := hE.l
  clear hE
  have HW1 : Hid (∀ W, Ext w W → W.cell? ⟨B, 1, none⟩ = some (.pointer (some ⟨T, 0, none⟩))) := fun W hW => cell_ext (h := hW) (at_cell HE.out.b 1)
  have HW6 : Hid (∀ W, Ext w W → W.cell? ⟨B, 6, none⟩ = some (.string s.says)) := fun W hW => cell_ext (h := hW) (at_cell HE.out.b 6)
  have HW0 : Hid (∀ W, Ext w W → W.cell? ⟨B, 0, none⟩ = some (.string nm)) := fun W hW => cell_ext (h := hW) (at_cell HE.out.b 0)
  rcases hq : findF (strB s.says) (strB nm) us with _ | u
  · have HQ := Lib.hid hq
    have HF : Hid (secW (strB s.says) (strB nm) us = ⟨#[]⟩) := by unfold Hid secW; rw [hq]
    clear hq
    go_enter Try.func80, Try.ntmps80
    go_upto_region 1 with fail
    refine wp_region_held_drew (S := Ext w) (by kernel_rfl) (by exact inferInstance) (fun hHeld => ?_)
    refine wpAnyH_take (i := 0) (v := ?_) rfl (by kernel_rfl) (by kernel_rfl) (by kernel_rfl) (fun _ _ _ h => h) (Yields.yieldsIf (Or.inl ⟨by rfl, ?_⟩)) hHeld ?_
    rotate_left
    · intro W
      go_simp
      try with_reducible rfl
    simp only [List.getElem_toArray, List.getElem_cons_succ, List.getElem_cons_zero, Act.put, List.setIfInBounds_toArray, List.set_cons_zero, List.set_cons_succ]
    refine wpAnyH_take (i := 1) (v := ?_) rfl (by kernel_rfl) (by kernel_rfl) (by kernel_rfl) (fun _ _ _ h => h) (Yields.yieldsIf (Or.inl ⟨by rfl, ?_⟩)) hHeld ?_
    rotate_left
    · intro W
      go_simp
      try with_reducible rfl
    simp only [List.getElem_toArray, List.getElem_cons_succ, List.getElem_cons_zero, Act.put, List.setIfInBounds_toArray, List.set_cons_zero, List.set_cons_succ]
    refine wpAnyH_take (i := 2) (v := ?_) rfl (by kernel_rfl) (by kernel_rfl) (by kernel_rfl) (fun _ _ _ h => h) (Yields.yieldsIf (Or.inl ⟨by rfl, ?_⟩)) hHeld ?_
    rotate_left
    · intro W
      go_simp
      try with_reducible rfl
    simp only [List.getElem_toArray, List.getElem_cons_succ, List.getElem_cons_zero, Act.put, List.setIfInBounds_toArray, List.set_cons_zero, List.set_cons_succ]
    refine wpAnyH_take (i := 3) (v := ?_) rfl (by kernel_rfl) (by kernel_rfl) (by kernel_rfl) (fun _ _ _ h => h) (Or.inl ⟨by rfl, ?_⟩) hHeld ?_
    rotate_left
    · intro W hW
      have hcl := (HW1.out W hW)
      go_simp
      try with_reducible rfl
    simp only [List.getElem_toArray, List.getElem_cons_succ, List.getElem_cons_zero, Act.put, List.setIfInBounds_toArray, List.set_cons_zero, List.set_cons_succ]
    refine wpAnyH_take (i := 4) (v := ?_) rfl (by kernel_rfl) (by kernel_rfl) (by kernel_rfl) (fun _ _ _ h => h) (Yields.yieldsIf (Or.inl ⟨by rfl, ?_⟩)) hHeld ?_
    rotate_left
    · intro W
      go_simp
      try with_reducible rfl
    simp only [List.getElem_toArray, List.getElem_cons_succ, List.getElem_cons_zero, Act.put, List.setIfInBounds_toArray, List.set_cons_zero, List.set_cons_succ]
    refine wpAnyH_take (i := 5) (v := ?_) rfl (by kernel_rfl) (by kernel_rfl) (by kernel_rfl) (fun _ _ _ h => h) (Yields.yieldsIf (Or.inl ⟨by rfl, ?_⟩)) hHeld ?_
    rotate_left
    · intro W
      go_simp
      try with_reducible rfl
    simp only [List.getElem_toArray, List.getElem_cons_succ, List.getElem_cons_zero, Act.put, List.setIfInBounds_toArray, List.set_cons_zero, List.set_cons_succ]
    refine wpAnyH_take (i := 6) (v := ?_) rfl (by kernel_rfl) (by kernel_rfl) (by kernel_rfl) (fun _ _ _ h => h) (Yields.yieldsIf (Or.inl ⟨by rfl, ?_⟩)) hHeld ?_
    rotate_left
    · intro W
      go_simp
      try with_reducible rfl
    simp only [List.getElem_toArray, List.getElem_cons_succ, List.getElem_cons_zero, Act.put, List.setIfInBounds_toArray, List.set_cons_zero, List.set_cons_succ]
    refine wpAnyH_take (i := 7) (v := ?_) rfl (by kernel_rfl) (by kernel_rfl) (by kernel_rfl) (fun _ _ _ h => h) (Or.inl ⟨by rfl, ?_⟩) hHeld ?_
    rotate_left
    · intro W hW
      have hcl := (HW6.out W hW)
      go_simp
      try with_reducible rfl
    simp only [List.getElem_toArray, List.getElem_cons_succ, List.getElem_cons_zero, Act.put, List.setIfInBounds_toArray, List.set_cons_zero, List.set_cons_succ]
    refine wpAnyH_take (i := 8) (v := ?_) rfl (by kernel_rfl) (by kernel_rfl) (by kernel_rfl) (fun _ _ _ h => h) (Yields.yieldsIf (Or.inl ⟨by rfl, ?_⟩)) hHeld ?_
    rotate_left
    · intro W
      go_simp
      try with_reducible rfl
    simp only [List.getElem_toArray, List.getElem_cons_succ, List.getElem_cons_zero, Act.put, List.setIfInBounds_toArray, List.set_cons_zero, List.set_cons_succ]
    refine wpAnyH_take (i := 9) (v := ?_) rfl (by kernel_rfl) (by kernel_rfl) (by kernel_rfl) (fun _ _ _ h => h) (Yields.yieldsIf (Or.inl ⟨by rfl, ?_⟩)) hHeld ?_
    rotate_left
    · intro W
      go_simp
      try with_reducible rfl
    simp only [List.getElem_toArray, List.getElem_cons_succ, List.getElem_cons_zero, Act.put, List.setIfInBounds_toArray, List.set_cons_zero, List.set_cons_succ]
    refine wpAnyH_take (i := 10) (v := ?_) rfl (by kernel_rfl) (by kernel_rfl) (by kernel_rfl) (fun _ _ _ h => h) (Yields.yieldsIf (Or.inl ⟨by rfl, ?_⟩)) hHeld ?_
    rotate_left
    · intro W
      go_simp
      try with_reducible rfl
    simp only [List.getElem_toArray, List.getElem_cons_succ, List.getElem_cons_zero, Act.put, List.setIfInBounds_toArray, List.set_cons_zero, List.set_cons_succ]
    refine wpAnyH_take (i := 11) (v := ?_) rfl (by kernel_rfl) (by kernel_rfl) (by kernel_rfl) (fun _ _ _ h => h) (Or.inl ⟨by rfl, ?_⟩) hHeld ?_
    rotate_left
    · intro W hW
      have hcl := (HW0.out W hW)
      go_simp
      try with_reducible rfl
    simp only [List.getElem_toArray, List.getElem_cons_succ, List.getElem_cons_zero, Act.put, List.setIfInBounds_toArray, List.set_cons_zero, List.set_cons_succ]
    refine wpAnyH_ready (rs := [12, 16]) (by kernel_rfl) (by simp) ?_
    refine AllReadyH.cons rfl (fun K hK => ?_) (AllReadyH.cons rfl (fun K hK => ?_) AllReadyH.nil)
    · skip
      refine step_call_w (by rfl) Try.func92 (by kernel_rfl) (by kernel_rfl) #[.tmp 9, .tmp 13, .tmp 17] #[123, 9, 9] rfl #[.pointer (some ⟨T, 0, none⟩), .string s.says, .string nm] ?hv (tfind_any T us s.says nm w.drew hl (by exact TabAt.ext (h := (inferInstance : Ext w w.drew)) HT.out)) ?_
      case hv => go_simp
      rintro e w2 ⟨hb2, he⟩
      rw [HQ.out] at he
      simp only at he
      subst he
      refine ⟨_, rfl, ?_⟩
      have X2 : Hid (Ext w w2) := Ext.trans_ (inferInstance : Ext w w.drew) ⟨hb2⟩
      clear hHeld hb2
      refine hK.out _ _ X2.out (fun hHeld => ?_)
      clear hK K
      try simp only [List.getElem_toArray, List.getElem_cons_succ, List.getElem_cons_zero, Act.put, List.setIfInBounds_toArray, List.set_cons_zero, List.set_cons_succ]
      refine wpAnyH_take (i := 13) (v := ?_) rfl (by kernel_rfl) (by kernel_rfl) (by kernel_rfl) (fun _ _ _ h => h) (Yields.yieldsIf (Or.inl ⟨by rfl, ?_⟩)) hHeld ?_
      rotate_left
      · intro W
        go_simp
        try with_reducible rfl
      simp only [List.getElem_toArray, List.getElem_cons_succ, List.getElem_cons_zero, Act.put, List.setIfInBounds_toArray, List.set_cons_zero, List.set_cons_succ]
      refine wpAnyH_take (i := 14) (v := ?_) rfl (by kernel_rfl) (by kernel_rfl) (by kernel_rfl) (fun _ _ _ h => h) (Yields.yieldsIf (Or.inl ⟨by rfl, ?_⟩)) hHeld ?_
      rotate_left
      · intro W
        go_simp
        try with_reducible rfl
      simp only [List.getElem_toArray, List.getElem_cons_succ, List.getElem_cons_zero, Act.put, List.setIfInBounds_toArray, List.set_cons_zero, List.set_cons_succ]
      refine wpAnyH_take (i := 15) (v := ?_) rfl (by kernel_rfl) (by kernel_rfl) (by kernel_rfl) (fun _ _ _ h => h) (Yields.yieldsIf (Or.inl ⟨by rfl, ?_⟩)) hHeld ?_
      rotate_left
      · intro W
        go_simp
        try with_reducible rfl
      simp only [List.getElem_toArray, List.getElem_cons_succ, List.getElem_cons_zero, Act.put, List.setIfInBounds_toArray, List.set_cons_zero, List.set_cons_succ]
      refine wpAnyH_ready (rs := [16]) (by kernel_rfl) (by simp) ?_
      refine AllReadyH.cons rfl (fun K hK => ?_) AllReadyH.nil
      rw [if_pos (by rfl)]
      unfold Oper.wp
      go_simp
      obtain ⟨w3, hw3⟩ : ∃ w3, w2.alloc (.cells zSec 44) = w3 := ⟨_, rfl⟩
      have HS3 : Hid (w3.heap[w2.heap.size]? = some (.cells zSec 44 (0, 0))) := by unfold Hid; rw [← hw3]; exact at_new w2 _
      have X3 : Hid (Ext w w3) := Ext.trans_ X2.out (by rw [← hw3]; exact inferInstance)
      simp only [hw3]
      clear hHeld hw3
      refine hK.out _ _ X3.out (fun hHeld => ?_)
      clear hK K
      try simp only [List.getElem_toArray, List.getElem_cons_succ, List.getElem_cons_zero, Act.put, List.setIfInBounds_toArray, List.set_cons_zero, List.set_cons_succ]
      refine wpAnyH_ready (rs := [17]) (by kernel_rfl) (by simp) ?_
      refine AllReadyH.cons rfl (fun K hK => ?_) AllReadyH.nil
      refine step_store_row (by rfl) 44 (.tmp 3) (.tmp 19) rfl w2.heap.size zSec rfl rfl 44 zSec HS3.out (by kernel_rfl) rfl (by simp [Value.oneCell']) ?_
      clear hHeld
      refine hK.out _ _ (Ext.setRow_ X3.out X2.out.out.size _) (fun hHeld => ?_)
      clear hK K
      try simp only [List.getElem_toArray, List.getElem_cons_succ, List.getElem_cons_zero, Act.put, List.setIfInBounds_toArray, List.set_cons_zero, List.set_cons_succ]
      refine wpAnyH_take (i := 18) (v := ?_) rfl (by kernel_rfl) (by kernel_rfl) (by kernel_rfl) (fun _ _ _ h => h) (Yields.yieldsIf (Or.inl ⟨by rfl, ?_⟩)) hHeld ?_
      rotate_left
      · intro W
        go_simp
        try with_reducible rfl
      simp only [List.getElem_toArray, List.getElem_cons_succ, List.getElem_cons_zero, Act.put, List.setIfInBounds_toArray, List.set_cons_zero, List.set_cons_succ]
      refine wpAnyH_done (by kernel_rfl) ?_ _
      clear hHeld
      have k2 : (w3.setRow w2.heap.size zSec).cell? ⟨w2.heap.size, 2, none⟩ = some (.string ⟨#[]⟩) := at_cell (setRow_heap _ _ _ _ _ _ HS3.out) 2
      go_wp2
      go_ret
      exact ⟨by rw [HF.out]; rfl, (Ext.setRow_ X3.out X2.out.out.size _).out⟩
    · rw [if_pos (by rfl)]
      unfold Oper.wp
      go_simp
      obtain ⟨w1, hw1⟩ : ∃ w1, (w.alloc (.cells zSec 44)).drew = w1 := ⟨_, rfl⟩
      have HS1 : Hid (w1.heap[w.heap.size]? = some (.cells zSec 44 (0, 0))) := by unfold Hid; rw [← hw1]; exact at_new w _
      have X1 : Hid (Ext w w1) := by unfold Hid; rw [← hw1]; exact inferInstance
      simp only [hw1]
      clear hHeld hw1
      refine hK.out _ _ X1.out (fun hHeld => ?_)
      clear hK K
      try simp only [List.getElem_toArray, List.getElem_cons_succ, List.getElem_cons_zero, Act.put, List.setIfInBounds_toArray, List.set_cons_zero, List.set_cons_succ]
      refine wpAnyH_ready (rs := [12]) (by kernel_rfl) (by simp) ?_
      refine AllReadyH.cons rfl (fun K hK => ?_) AllReadyH.nil
      refine step_call_w (by rfl) Try.func92 (by kernel_rfl) (by kernel_rfl) #[.tmp 9, .tmp 13, .tmp 17] #[123, 9, 9] rfl #[.pointer (some ⟨T, 0, none⟩), .string s.says, .string nm] ?hv (tfind_any T us s.says nm w1 hl (by exact TabAt.ext (h := X1.out) HT.out)) ?_
      case hv => go_simp
      rintro e w2 ⟨hb2, he⟩
      rw [HQ.out] at he
      simp only at he
      subst he
      refine ⟨_, rfl, ?_⟩
      obtain ⟨w3, rfl⟩ : ∃ w3, w3 = w2 := ⟨w2, rfl⟩
      have X13 : Hid (Ext w1 w3) := ⟨hb2⟩
      have X3 : Hid (Ext w w3) := Ext.trans_ X1.out X13.out
      have HS3 : Hid (w3.heap[w.heap.size]? = some (.cells zSec 44 (0, 0))) := at_ext (h := X13.out) HS1.out
      clear hHeld hb2
      refine hK.out _ _ X3.out (fun hHeld => ?_)
      clear hK K
      try simp only [List.getElem_toArray, List.getElem_cons_succ, List.getElem_cons_zero, Act.put, List.setIfInBounds_toArray, List.set_cons_zero, List.set_cons_succ]
      refine wpAnyH_take (i := 13) (v := ?_) rfl (by kernel_rfl) (by kernel_rfl) (by kernel_rfl) (fun _ _ _ h => h) (Yields.yieldsIf (Or.inl ⟨by rfl, ?_⟩)) hHeld ?_
      rotate_left
      · intro W
        go_simp
        try with_reducible rfl
      simp only [List.getElem_toArray, List.getElem_cons_succ, List.getElem_cons_zero, Act.put, List.setIfInBounds_toArray, List.set_cons_zero, List.set_cons_succ]
      refine wpAnyH_take (i := 14) (v := ?_) rfl (by kernel_rfl) (by kernel_rfl) (by kernel_rfl) (fun _ _ _ h => h) (Yields.yieldsIf (Or.inl ⟨by rfl, ?_⟩)) hHeld ?_
      rotate_left
      · intro W
        go_simp
        try with_reducible rfl
      simp only [List.getElem_toArray, List.getElem_cons_succ, List.getElem_cons_zero, Act.put, List.setIfInBounds_toArray, List.set_cons_zero, List.set_cons_succ]
      refine wpAnyH_take (i := 15) (v := ?_) rfl (by kernel_rfl) (by kernel_rfl) (by kernel_rfl) (fun _ _ _ h => h) (Yields.yieldsIf (Or.inl ⟨by rfl, ?_⟩)) hHeld ?_
      rotate_left
      · intro W
        go_simp
        try with_reducible rfl
      simp only [List.getElem_toArray, List.getElem_cons_succ, List.getElem_cons_zero, Act.put, List.setIfInBounds_toArray, List.set_cons_zero, List.set_cons_succ]
      refine wpAnyH_ready (rs := [17]) (by kernel_rfl) (by simp) ?_
      refine AllReadyH.cons rfl (fun K hK => ?_) AllReadyH.nil
      refine step_store_row (by rfl) 44 (.tmp 3) (.tmp 19) rfl w.heap.size zSec rfl rfl 44 zSec HS3.out (by kernel_rfl) rfl (by simp [Value.oneCell']) ?_
      clear hHeld
      refine hK.out _ _ (Ext.setRow_ X3.out (Nat.le_refl _) _) (fun hHeld => ?_)
      clear hK K
      try simp only [List.getElem_toArray, List.getElem_cons_succ, List.getElem_cons_zero, Act.put, List.setIfInBounds_toArray, List.set_cons_zero, List.set_cons_succ]
      refine wpAnyH_take (i := 18) (v := ?_) rfl (by kernel_rfl) (by kernel_rfl) (by kernel_rfl) (fun _ _ _ h => h) (Yields.yieldsIf (Or.inl ⟨by rfl, ?_⟩)) hHeld ?_
      rotate_left
      · intro W
        go_simp
        try with_reducible rfl
      simp only [List.getElem_toArray, List.getElem_cons_succ, List.getElem_cons_zero, Act.put, List.setIfInBounds_toArray, List.set_cons_zero, List.set_cons_succ]
      refine wpAnyH_done (by kernel_rfl) ?_ _
      clear hHeld
      have k2 : (w3.setRow w.heap.size zSec).cell? ⟨w.heap.size, 2, none⟩ = some (.string ⟨#[]⟩) := at_cell (setRow_heap _ _ _ _ _ _ HS3.out) 2
      go_wp2
      go_ret
      exact ⟨by rw [HF.out]; rfl, (Ext.setRow_ X3.out (Nat.le_refl _) _).out⟩
  · have HQ := Lib.hid hq
    have HF0 : Hid (secW (strB s.says) (strB nm) us = u.d) := by unfold Hid secW; rw [hq]
    clear hq
    go_enter Try.func80, Try.ntmps80
    go_upto_region 1 with fail
    refine wp_region_held_drew (S := Ext w) (by kernel_rfl) (by exact inferInstance) (fun hHeld => ?_)
    refine wpAnyH_take (i := 0) (v := ?_) rfl (by kernel_rfl) (by kernel_rfl) (by kernel_rfl) (fun _ _ _ h => h) (Yields.yieldsIf (Or.inl ⟨by rfl, ?_⟩)) hHeld ?_
    rotate_left
    · intro W
      go_simp
      try with_reducible rfl
    simp only [List.getElem_toArray, List.getElem_cons_succ, List.getElem_cons_zero, Act.put, List.setIfInBounds_toArray, List.set_cons_zero, List.set_cons_succ]
    refine wpAnyH_take (i := 1) (v := ?_) rfl (by kernel_rfl) (by kernel_rfl) (by kernel_rfl) (fun _ _ _ h => h) (Yields.yieldsIf (Or.inl ⟨by rfl, ?_⟩)) hHeld ?_
    rotate_left
    · intro W
      go_simp
      try with_reducible rfl
    simp only [List.getElem_toArray, List.getElem_cons_succ, List.getElem_cons_zero, Act.put, List.setIfInBounds_toArray, List.set_cons_zero, List.set_cons_succ]
    refine wpAnyH_take (i := 2) (v := ?_) rfl (by kernel_rfl) (by kernel_rfl) (by kernel_rfl) (fun _ _ _ h => h) (Yields.yieldsIf (Or.inl ⟨by rfl, ?_⟩)) hHeld ?_
    rotate_left
    · intro W
      go_simp
      try with_reducible rfl
    simp only [List.getElem_toArray, List.getElem_cons_succ, List.getElem_cons_zero, Act.put, List.setIfInBounds_toArray, List.set_cons_zero, List.set_cons_succ]
    refine wpAnyH_take (i := 3) (v := ?_) rfl (by kernel_rfl) (by kernel_rfl) (by kernel_rfl) (fun _ _ _ h => h) (Or.inl ⟨by rfl, ?_⟩) hHeld ?_
    rotate_left
    · intro W hW
      have hcl := (HW1.out W hW)
      go_simp
      try with_reducible rfl
    simp only [List.getElem_toArray, List.getElem_cons_succ, List.getElem_cons_zero, Act.put, List.setIfInBounds_toArray, List.set_cons_zero, List.set_cons_succ]
    refine wpAnyH_take (i := 4) (v := ?_) rfl (by kernel_rfl) (by kernel_rfl) (by kernel_rfl) (fun _ _ _ h => h) (Yields.yieldsIf (Or.inl ⟨by rfl, ?_⟩)) hHeld ?_
    rotate_left
    · intro W
      go_simp
      try with_reducible rfl
    simp only [List.getElem_toArray, List.getElem_cons_succ, List.getElem_cons_zero, Act.put, List.setIfInBounds_toArray, List.set_cons_zero, List.set_cons_succ]
    refine wpAnyH_take (i := 5) (v := ?_) rfl (by kernel_rfl) (by kernel_rfl) (by kernel_rfl) (fun _ _ _ h => h) (Yields.yieldsIf (Or.inl ⟨by rfl, ?_⟩)) hHeld ?_
    rotate_left
    · intro W
      go_simp
      try with_reducible rfl
    simp only [List.getElem_toArray, List.getElem_cons_succ, List.getElem_cons_zero, Act.put, List.setIfInBounds_toArray, List.set_cons_zero, List.set_cons_succ]
    refine wpAnyH_take (i := 6) (v := ?_) rfl (by kernel_rfl) (by kernel_rfl) (by kernel_rfl) (fun _ _ _ h => h) (Yields.yieldsIf (Or.inl ⟨by rfl, ?_⟩)) hHeld ?_
    rotate_left
    · intro W
      go_simp
      try with_reducible rfl
    simp only [List.getElem_toArray, List.getElem_cons_succ, List.getElem_cons_zero, Act.put, List.setIfInBounds_toArray, List.set_cons_zero, List.set_cons_succ]
    refine wpAnyH_take (i := 7) (v := ?_) rfl (by kernel_rfl) (by kernel_rfl) (by kernel_rfl) (fun _ _ _ h => h) (Or.inl ⟨by rfl, ?_⟩) hHeld ?_
    rotate_left
    · intro W hW
      have hcl := (HW6.out W hW)
      go_simp
      try with_reducible rfl
    simp only [List.getElem_toArray, List.getElem_cons_succ, List.getElem_cons_zero, Act.put, List.setIfInBounds_toArray, List.set_cons_zero, List.set_cons_succ]
    refine wpAnyH_take (i := 8) (v := ?_) rfl (by kernel_rfl) (by kernel_rfl) (by kernel_rfl) (fun _ _ _ h => h) (Yields.yieldsIf (Or.inl ⟨by rfl, ?_⟩)) hHeld ?_
    rotate_left
    · intro W
      go_simp
      try with_reducible rfl
    simp only [List.getElem_toArray, List.getElem_cons_succ, List.getElem_cons_zero, Act.put, List.setIfInBounds_toArray, List.set_cons_zero, List.set_cons_succ]
    refine wpAnyH_take (i := 9) (v := ?_) rfl (by kernel_rfl) (by kernel_rfl) (by kernel_rfl) (fun _ _ _ h => h) (Yields.yieldsIf (Or.inl ⟨by rfl, ?_⟩)) hHeld ?_
    rotate_left
    · intro W
      go_simp
      try with_reducible rfl
    simp only [List.getElem_toArray, List.getElem_cons_succ, List.getElem_cons_zero, Act.put, List.setIfInBounds_toArray, List.set_cons_zero, List.set_cons_succ]
    refine wpAnyH_take (i := 10) (v := ?_) rfl (by kernel_rfl) (by kernel_rfl) (by kernel_rfl) (fun _ _ _ h => h) (Yields.yieldsIf (Or.inl ⟨by rfl, ?_⟩)) hHeld ?_
    rotate_left
    · intro W
      go_simp
      try with_reducible rfl
    simp only [List.getElem_toArray, List.getElem_cons_succ, List.getElem_cons_zero, Act.put, List.setIfInBounds_toArray, List.set_cons_zero, List.set_cons_succ]
    refine wpAnyH_take (i := 11) (v := ?_) rfl (by kernel_rfl) (by kernel_rfl) (by kernel_rfl) (fun _ _ _ h => h) (Or.inl ⟨by rfl, ?_⟩) hHeld ?_
    rotate_left
    · intro W hW
      have hcl := (HW0.out W hW)
      go_simp
      try with_reducible rfl
    simp only [List.getElem_toArray, List.getElem_cons_succ, List.getElem_cons_zero, Act.put, List.setIfInBounds_toArray, List.set_cons_zero, List.set_cons_succ]
    refine wpAnyH_ready (rs := [12, 16]) (by kernel_rfl) (by simp) ?_
    refine AllReadyH.cons rfl (fun K hK => ?_) (AllReadyH.cons rfl (fun K hK => ?_) AllReadyH.nil)
    · skip
      refine step_call_w (by rfl) Try.func92 (by kernel_rfl) (by kernel_rfl) #[.tmp 9, .tmp 13, .tmp 17] #[123, 9, 9] rfl #[.pointer (some ⟨T, 0, none⟩), .string s.says, .string nm] ?hv (tfind_any T us s.says nm w.drew hl (by exact TabAt.ext (h := (inferInstance : Ext w w.drew)) HT.out)) ?_
      case hv => go_simp
      rintro e w2 ⟨hb2, he⟩
      rw [HQ.out] at he
      simp only at he
      obtain ⟨⟨vc, vss, vd, vA, vn, vk, vx⟩, rfl, hd, hn2, ho2⟩ := he; have HF : Hid (secW (strB s.says) (strB nm) us = vd) := HF0.out.trans (congrArg (fun x => x.2.1) hd).symm; simp only [SV.val]; clear hd hn2 ho2
      refine ⟨_, rfl, ?_⟩
      have X2 : Hid (Ext w w2) := Ext.trans_ (inferInstance : Ext w w.drew) ⟨hb2⟩
      clear hHeld hb2
      refine hK.out _ _ X2.out (fun hHeld => ?_)
      clear hK K
      try simp only [List.getElem_toArray, List.getElem_cons_succ, List.getElem_cons_zero, Act.put, List.setIfInBounds_toArray, List.set_cons_zero, List.set_cons_succ]
      refine wpAnyH_take (i := 13) (v := ?_) rfl (by kernel_rfl) (by kernel_rfl) (by kernel_rfl) (fun _ _ _ h => h) (Yields.yieldsIf (Or.inl ⟨by rfl, ?_⟩)) hHeld ?_
      rotate_left
      · intro W
        go_simp
        try with_reducible rfl
      simp only [List.getElem_toArray, List.getElem_cons_succ, List.getElem_cons_zero, Act.put, List.setIfInBounds_toArray, List.set_cons_zero, List.set_cons_succ]
      refine wpAnyH_take (i := 14) (v := ?_) rfl (by kernel_rfl) (by kernel_rfl) (by kernel_rfl) (fun _ _ _ h => h) (Yields.yieldsIf (Or.inl ⟨by rfl, ?_⟩)) hHeld ?_
      rotate_left
      · intro W
        go_simp
        try with_reducible rfl
      simp only [List.getElem_toArray, List.getElem_cons_succ, List.getElem_cons_zero, Act.put, List.setIfInBounds_toArray, List.set_cons_zero, List.set_cons_succ]
      refine wpAnyH_take (i := 15) (v := ?_) rfl (by kernel_rfl) (by kernel_rfl) (by kernel_rfl) (fun _ _ _ h => h) (Yields.yieldsIf (Or.inl ⟨by rfl, ?_⟩)) hHeld ?_
      rotate_left
      · intro W
        go_simp
        try with_reducible rfl
      simp only [List.getElem_toArray, List.getElem_cons_succ, List.getElem_cons_zero, Act.put, List.setIfInBounds_toArray, List.set_cons_zero, List.set_cons_succ]
      refine wpAnyH_ready (rs := [16]) (by kernel_rfl) (by simp) ?_
      refine AllReadyH.cons rfl (fun K hK => ?_) AllReadyH.nil
      rw [if_pos (by rfl)]
      unfold Oper.wp
      go_simp
      obtain ⟨w3, hw3⟩ : ∃ w3, w2.alloc (.cells zSec 44) = w3 := ⟨_, rfl⟩
      have HS3 : Hid (w3.heap[w2.heap.size]? = some (.cells zSec 44 (0, 0))) := by unfold Hid; rw [← hw3]; exact at_new w2 _
      have X3 : Hid (Ext w w3) := Ext.trans_ X2.out (by rw [← hw3]; exact inferInstance)
      simp only [hw3]
      clear hHeld hw3
      refine hK.out _ _ X3.out (fun hHeld => ?_)
      clear hK K
      try simp only [List.getElem_toArray, List.getElem_cons_succ, List.getElem_cons_zero, Act.put, List.setIfInBounds_toArray, List.set_cons_zero, List.set_cons_succ]
      refine wpAnyH_ready (rs := [17]) (by kernel_rfl) (by simp) ?_
      refine AllReadyH.cons rfl (fun K hK => ?_) AllReadyH.nil
      refine step_store_row (by rfl) 44 (.tmp 3) (.tmp 19) rfl w2.heap.size #[.string vc, .string vss, .string vd, .slice vA vn vk] rfl rfl 44 zSec HS3.out (by kernel_rfl) rfl (by simp [Value.oneCell']) ?_
      clear hHeld
      refine hK.out _ _ (Ext.setRow_ X3.out X2.out.out.size _) (fun hHeld => ?_)
      clear hK K
      try simp only [List.getElem_toArray, List.getElem_cons_succ, List.getElem_cons_zero, Act.put, List.setIfInBounds_toArray, List.set_cons_zero, List.set_cons_succ]
      refine wpAnyH_take (i := 18) (v := ?_) rfl (by kernel_rfl) (by kernel_rfl) (by kernel_rfl) (fun _ _ _ h => h) (Yields.yieldsIf (Or.inl ⟨by rfl, ?_⟩)) hHeld ?_
      rotate_left
      · intro W
        go_simp
        try with_reducible rfl
      simp only [List.getElem_toArray, List.getElem_cons_succ, List.getElem_cons_zero, Act.put, List.setIfInBounds_toArray, List.set_cons_zero, List.set_cons_succ]
      refine wpAnyH_done (by kernel_rfl) ?_ _
      clear hHeld
      have k2 : (w3.setRow w2.heap.size #[.string vc, .string vss, .string vd, .slice vA vn vk]).cell? ⟨w2.heap.size, 2, none⟩ = some (.string vd) := at_cell (setRow_heap _ _ _ _ _ _ HS3.out) 2
      go_wp2
      go_ret
      exact ⟨by rw [HF.out]; rfl, (Ext.setRow_ X3.out X2.out.out.size _).out⟩
    · rw [if_pos (by rfl)]
      unfold Oper.wp
      go_simp
      obtain ⟨w1, hw1⟩ : ∃ w1, (w.alloc (.cells zSec 44)).drew = w1 := ⟨_, rfl⟩
      have HS1 : Hid (w1.heap[w.heap.size]? = some (.cells zSec 44 (0, 0))) := by unfold Hid; rw [← hw1]; exact at_new w _
      have X1 : Hid (Ext w w1) := by unfold Hid; rw [← hw1]; exact inferInstance
      simp only [hw1]
      clear hHeld hw1
      refine hK.out _ _ X1.out (fun hHeld => ?_)
      clear hK K
      try simp only [List.getElem_toArray, List.getElem_cons_succ, List.getElem_cons_zero, Act.put, List.setIfInBounds_toArray, List.set_cons_zero, List.set_cons_succ]
      refine wpAnyH_ready (rs := [12]) (by kernel_rfl) (by simp) ?_
      refine AllReadyH.cons rfl (fun K hK => ?_) AllReadyH.nil
      refine step_call_w (by rfl) Try.func92 (by kernel_rfl) (by kernel_rfl) #[.tmp 9, .tmp 13, .tmp 17] #[123, 9, 9] rfl #[.pointer (some ⟨T, 0, none⟩), .string s.says, .string nm] ?hv (tfind_any T us s.says nm w1 hl (by exact TabAt.ext (h := X1.out) HT.out)) ?_
      case hv => go_simp
      rintro e w2 ⟨hb2, he⟩
      rw [HQ.out] at he
      simp only at he
      obtain ⟨⟨vc, vss, vd, vA, vn, vk, vx⟩, rfl, hd, hn2, ho2⟩ := he; have HF : Hid (secW (strB s.says) (strB nm) us = vd) := HF0.out.trans (congrArg (fun x => x.2.1) hd).symm; simp only [SV.val]; clear hd hn2 ho2
      refine ⟨_, rfl, ?_⟩
      obtain ⟨w3, rfl⟩ : ∃ w3, w3 = w2 := ⟨w2, rfl⟩
      have X13 : Hid (Ext w1 w3) := ⟨hb2⟩
      have X3 : Hid (Ext w w3) := Ext.trans_ X1.out X13.out
      have HS3 : Hid (w3.heap[w.heap.size]? = some (.cells zSec 44 (0, 0))) := at_ext (h := X13.out) HS1.out
      clear hHeld hb2
      refine hK.out _ _ X3.out (fun hHeld => ?_)
      clear hK K
      try simp only [List.getElem_toArray, List.getElem_cons_succ, List.getElem_cons_zero, Act.put, List.setIfInBounds_toArray, List.set_cons_zero, List.set_cons_succ]
      refine wpAnyH_take (i := 13) (v := ?_) rfl (by kernel_rfl) (by kernel_rfl) (by kernel_rfl) (fun _ _ _ h => h) (Yields.yieldsIf (Or.inl ⟨by rfl, ?_⟩)) hHeld ?_
      rotate_left
      · intro W
        go_simp
        try with_reducible rfl
      simp only [List.getElem_toArray, List.getElem_cons_succ, List.getElem_cons_zero, Act.put, List.setIfInBounds_toArray, List.set_cons_zero, List.set_cons_succ]
      refine wpAnyH_take (i := 14) (v := ?_) rfl (by kernel_rfl) (by kernel_rfl) (by kernel_rfl) (fun _ _ _ h => h) (Yields.yieldsIf (Or.inl ⟨by rfl, ?_⟩)) hHeld ?_
      rotate_left
      · intro W
        go_simp
        try with_reducible rfl
      simp only [List.getElem_toArray, List.getElem_cons_succ, List.getElem_cons_zero, Act.put, List.setIfInBounds_toArray, List.set_cons_zero, List.set_cons_succ]
      refine wpAnyH_take (i := 15) (v := ?_) rfl (by kernel_rfl) (by kernel_rfl) (by kernel_rfl) (fun _ _ _ h => h) (Yields.yieldsIf (Or.inl ⟨by rfl, ?_⟩)) hHeld ?_
      rotate_left
      · intro W
        go_simp
        try with_reducible rfl
      simp only [List.getElem_toArray, List.getElem_cons_succ, List.getElem_cons_zero, Act.put, List.setIfInBounds_toArray, List.set_cons_zero, List.set_cons_succ]
      refine wpAnyH_ready (rs := [17]) (by kernel_rfl) (by simp) ?_
      refine AllReadyH.cons rfl (fun K hK => ?_) AllReadyH.nil
      refine step_store_row (by rfl) 44 (.tmp 3) (.tmp 19) rfl w.heap.size #[.string vc, .string vss, .string vd, .slice vA vn vk] rfl rfl 44 zSec HS3.out (by kernel_rfl) rfl (by simp [Value.oneCell']) ?_
      clear hHeld
      refine hK.out _ _ (Ext.setRow_ X3.out (Nat.le_refl _) _) (fun hHeld => ?_)
      clear hK K
      try simp only [List.getElem_toArray, List.getElem_cons_succ, List.getElem_cons_zero, Act.put, List.setIfInBounds_toArray, List.set_cons_zero, List.set_cons_succ]
      refine wpAnyH_take (i := 18) (v := ?_) rfl (by kernel_rfl) (by kernel_rfl) (by kernel_rfl) (fun _ _ _ h => h) (Yields.yieldsIf (Or.inl ⟨by rfl, ?_⟩)) hHeld ?_
      rotate_left
      · intro W
        go_simp
        try with_reducible rfl
      simp only [List.getElem_toArray, List.getElem_cons_succ, List.getElem_cons_zero, Act.put, List.setIfInBounds_toArray, List.set_cons_zero, List.set_cons_succ]
      refine wpAnyH_done (by kernel_rfl) ?_ _
      clear hHeld
      have k2 : (w3.setRow w.heap.size #[.string vc, .string vss, .string vd, .slice vA vn vk]).cell? ⟨w.heap.size, 2, none⟩ = some (.string vd) := at_cell (setRow_heap _ _ _ _ _ _ HS3.out) 2
      go_wp2
      go_ret
      exact ⟨by rw [HF.out]; rfl, (Ext.setRow_ X3.out (Nat.le_refl _) _).out⟩
end Go.Proofs.Ytobddmpiljknpaa
