/-
  pap.Server: State, Who, Reset, and what Take's closure does. No condition.
-/
import Derived.Test.YtodibldfolognaaPpL
namespace Go.Proofs.Ytodibldfolognaa
open Go.RowKit
set_option linter.unusedVariables false
set_option linter.unusedSimpArgs false

section
variable {w : World} {B T : Nat} {name who : ByteArray} {st : Int} {us : List SV}
theorem SrvAt.p0 (k : SrvAt w B T name st who us) : w.cell? ⟨B, 0, none⟩ = some (.string name) := at_cell k.b 0
theorem SrvAt.p1 (k : SrvAt w B T name st who us) : w.cell? ⟨B, 1, none⟩ = some (.pointer (some ⟨T, 0, none⟩)) := at_cell k.b 1
theorem SrvAt.p2 (k : SrvAt w B T name st who us) : w.cell? ⟨B, 2, none⟩ = some (.int .i64 st) := at_cell k.b 2
theorem SrvAt.p3 (k : SrvAt w B T name st who us) : w.cell? ⟨B, 3, none⟩ = some (.string who) := at_cell k.b 3
theorem SrvAt.f (k : SrvAt w B T name st who us) (i : Nat) : w.frozen? ⟨B, i, none⟩ = false := at_frozen k.b i
end
theorem state_any (B T : Nat) (name who : ByteArray) (st : Int) (us : List SV) (w : World) (h : SrvAt w B T name st who us) :
    Calls Try.prog 56 #[.pointer (some ⟨B, 0, none⟩)] w fun e w' => e = .returned (.int .i64 st) ∧ w = w' := by
  have p2 := h.p2
  go_enter Try.func56, Try.ntmps56
  go_wp2
  go_ret
  exact ⟨rfl, rfl⟩
theorem who_any (B T : Nat) (name who : ByteArray) (st : Int) (us : List SV) (w : World) (h : SrvAt w B T name st who us) :
    Calls Try.prog 57 #[.pointer (some ⟨B, 0, none⟩)] w fun e w' => e = .returned (.string who) ∧ w = w' := by
  have p2 := h.p3
  go_enter Try.func57, Try.ntmps57
  go_wp2
  go_ret
  exact ⟨rfl, rfl⟩
theorem state_nil (w : World) : Calls Try.prog 56 #[.pointer none] w fun e w' => e = .returned (.int .i64 0) ∧ w = w' := by
  go_enter Try.func56, Try.ntmps56
  go_wp2
  go_ret
  exact ⟨rfl, rfl⟩
theorem who_nil (w : World) : Calls Try.prog 57 #[.pointer none] w fun e w' => e = .returned (.string ⟨#[]⟩) ∧ w = w' := by
  go_enter Try.func57, Try.ntmps57
  go_wp2
  go_ret
  exact ⟨rfl, rfl⟩
theorem reset_nil (w : World) : Calls Try.prog 49 #[.pointer none] w fun e w' => e = .returned (.tuple #[]) ∧ w = w' := by
  go_enter Try.func49, Try.ntmps49
  go_wp2
  go_end0
  exact ⟨rfl, rfl⟩
theorem reset_any (B T : Nat) (name who : ByteArray) (st : Int) (us : List SV) (w : World) (h : SrvAt w B T name st who us) :
    Calls Try.prog 49 #[.pointer (some ⟨B, 0, none⟩)] w fun e w' => e = .returned (.tuple #[]) ∧ SrvAt w' B T name 0 ⟨#[]⟩ us ∧ But w w' B := by
  have p2 := h.p2
  have f2 := h.f 2
  have p3 := (h.set 0).p3
  have f3 := (h.set 0).f 3
  have H := Lib.hid h
  clear h
  go_enter Try.func49, Try.ntmps49
  go_wp2
  go_end0
  exact ⟨rfl, (H.out.set 0).setw ⟨#[]⟩, (But.of.set 2 _).set 3 _⟩
theorem But.drew {w w' : World} {B : Nat} (k : But w w' B) : But w w'.drew B := by
  have h := (inferInstance : Ext w' w'.drew).out
  exact ⟨h.os.trans k.os, h.tape.trans k.tape, h.output.trans k.output, Nat.le_trans k.size h.size, fun j hj hB => (h.block j (Nat.lt_of_lt_of_le hj k.size)).trans (k.block j hj hB)⟩
set_option maxRecDepth 100000 in
theorem accept_any (N S B T : Nat) (name who nm : ByteArray) (st : Int) (us : List SV) (w : World) (h : SrvAt w B T name st who us)
    (hN : w.heap[N]? = some (.cells #[.string nm] 9 (0, 0))) (hS : w.heap[S]? = some (.cells #[.pointer (some ⟨B, 0, none⟩)] 80 (0, 0))) (hBN : N ≠ B) (hBS : S ≠ B) :
    Calls Try.prog 102 #[.pointer (some ⟨N, 0, none⟩), .pointer (some ⟨S, 0, none⟩)] w fun e w' => e = .returned (.tuple #[]) ∧ SrvAt w' B T name 1 nm us ∧ But w w' B := by
  have p2 := h.p2
  have f2 := h.f 2
  have p3 := (h.set 1).p3
  have f3 := (h.set 1).f 3
  have q1 : w.cell? ⟨N, 0, none⟩ = some (.string nm) := at_cell hN 0
  have q2 : w.cell? ⟨S, 0, none⟩ = some (.pointer (some ⟨B, 0, none⟩)) := at_cell hS 0
  have H := Lib.hid h
  clear h
  have HN0 : Hid ((w.setCell ⟨B, 2, none⟩ (.int .i64 1)).heap[N]? = some (.cells #[.string nm] 9 (0, 0))) := (Below.heap_setCell _ _ _ _ hBN).trans hN
  have HS0 : Hid ((w.setCell ⟨B, 2, none⟩ (.int .i64 1)).heap[S]? = some (.cells #[.pointer (some ⟨B, 0, none⟩)] 80 (0, 0))) := (Below.heap_setCell _ _ _ _ hBS).trans hS
  have HN1 : Hid (((w.setCell ⟨B, 2, none⟩ (.int .i64 1)).setCell ⟨B, 3, none⟩ (.string nm)).heap[N]? = some (.cells #[.string nm] 9 (0, 0))) := (Below.heap_setCell _ _ _ _ hBN).trans HN0.out
  have HS1 : Hid (((w.setCell ⟨B, 2, none⟩ (.int .i64 1)).setCell ⟨B, 3, none⟩ (.string nm)).heap[S]? = some (.cells #[.pointer (some ⟨B, 0, none⟩)] 80 (0, 0))) := (Below.heap_setCell _ _ _ _ hBS).trans HS0.out
  go_enter Try.func102, Try.ntmps102
  refine wp_region_held_drew (S := fun W => W.heap[N]? = some (.cells #[.string nm] 9 (0, 0)) ∧ W.heap[S]? = some (.cells #[.pointer (some ⟨B, 0, none⟩)] 80 (0, 0))) (by kernel_rfl) ⟨hN, hS⟩ (fun hHeld => ?_)
  refine wpAnyH_take (i := 0) (v := ?_) rfl (by kernel_rfl) (by kernel_rfl) (by kernel_rfl) (fun _ _ _ h => h) (Or.inl ⟨by rfl, ?_⟩) hHeld ?_
  rotate_left
  · intro W hS
    have g0 := at_cell hS.1 0
    have g1 := at_cell hS.2 0
    simp only [List.getElem?_toArray, List.getElem?_cons_zero] at g0 g1
    go_simp
    try with_reducible rfl
  simp only [List.getElem_toArray, List.getElem_cons_succ, List.getElem_cons_zero, Act.put, List.setIfInBounds_toArray, List.set_cons_zero, List.set_cons_succ]
  refine wpAnyH_take (i := 1) (v := ?_) rfl (by kernel_rfl) (by kernel_rfl) (by kernel_rfl) (fun _ _ _ h => h) (Or.inl ⟨by rfl, ?_⟩) hHeld ?_
  rotate_left
  · intro W hS
    have g0 := at_cell hS.1 0
    have g1 := at_cell hS.2 0
    simp only [List.getElem?_toArray, List.getElem?_cons_zero] at g0 g1
    go_simp
    try with_reducible rfl
  simp only [List.getElem_toArray, List.getElem_cons_succ, List.getElem_cons_zero, Act.put, List.setIfInBounds_toArray, List.set_cons_zero, List.set_cons_succ]
  refine wpAnyH_take (i := 2) (v := ?_) rfl (by kernel_rfl) (by kernel_rfl) (by kernel_rfl) (fun _ _ _ h => h) (Or.inl ⟨by rfl, ?_⟩) hHeld ?_
  rotate_left
  · intro W hS
    have g0 := at_cell hS.1 0
    have g1 := at_cell hS.2 0
    simp only [List.getElem?_toArray, List.getElem?_cons_zero] at g0 g1
    go_simp
    try with_reducible rfl
  simp only [List.getElem_toArray, List.getElem_cons_succ, List.getElem_cons_zero, Act.put, List.setIfInBounds_toArray, List.set_cons_zero, List.set_cons_succ]
  refine wpAnyH_take (i := 3) (v := ?_) rfl (by kernel_rfl) (by kernel_rfl) (by kernel_rfl) (fun _ _ _ h => h) (Or.inl ⟨by rfl, ?_⟩) hHeld ?_
  rotate_left
  · intro W hS
    have g0 := at_cell hS.1 0
    have g1 := at_cell hS.2 0
    simp only [List.getElem?_toArray, List.getElem?_cons_zero] at g0 g1
    go_simp
    try with_reducible rfl
  simp only [List.getElem_toArray, List.getElem_cons_succ, List.getElem_cons_zero, Act.put, List.setIfInBounds_toArray, List.set_cons_zero, List.set_cons_succ]
  refine wpAnyH_take (i := 4) (v := ?_) rfl (by kernel_rfl) (by kernel_rfl) (by kernel_rfl) (fun _ _ _ h => h) (Or.inl ⟨by rfl, ?_⟩) hHeld ?_
  rotate_left
  · intro W hS
    have g0 := at_cell hS.1 0
    have g1 := at_cell hS.2 0
    simp only [List.getElem?_toArray, List.getElem?_cons_zero] at g0 g1
    go_simp
    try with_reducible rfl
  simp only [List.getElem_toArray, List.getElem_cons_succ, List.getElem_cons_zero, Act.put, List.setIfInBounds_toArray, List.set_cons_zero, List.set_cons_succ]
  refine wpAnyH_ready (rs := [5]) (by kernel_rfl) (by simp) ?_
  refine AllReadyH.cons rfl (fun K hK => ?_) AllReadyH.nil
  rw [if_pos (by rfl)]
  unfold Oper.wp
  go_simp
  clear hHeld
  refine hK.out _ _ ⟨HN0.out, HS0.out⟩ (fun hHeld => ?_)
  clear hK K
  try simp only [List.getElem_toArray, List.getElem_cons_succ, List.getElem_cons_zero, Act.put, List.setIfInBounds_toArray, List.set_cons_zero, List.set_cons_succ]
  refine wpAnyH_take (i := 6) (v := ?_) rfl (by kernel_rfl) (by kernel_rfl) (by kernel_rfl) (fun _ _ _ h => h) (Or.inl ⟨by rfl, ?_⟩) hHeld ?_
  rotate_left
  · intro W hS
    have g0 := at_cell hS.1 0
    have g1 := at_cell hS.2 0
    simp only [List.getElem?_toArray, List.getElem?_cons_zero] at g0 g1
    go_simp
    try with_reducible rfl
  simp only [List.getElem_toArray, List.getElem_cons_succ, List.getElem_cons_zero, Act.put, List.setIfInBounds_toArray, List.set_cons_zero, List.set_cons_succ]
  refine wpAnyH_take (i := 7) (v := ?_) rfl (by kernel_rfl) (by kernel_rfl) (by kernel_rfl) (fun _ _ _ h => h) (Or.inl ⟨by rfl, ?_⟩) hHeld ?_
  rotate_left
  · intro W hS
    have g0 := at_cell hS.1 0
    have g1 := at_cell hS.2 0
    simp only [List.getElem?_toArray, List.getElem?_cons_zero] at g0 g1
    go_simp
    try with_reducible rfl
  simp only [List.getElem_toArray, List.getElem_cons_succ, List.getElem_cons_zero, Act.put, List.setIfInBounds_toArray, List.set_cons_zero, List.set_cons_succ]
  refine wpAnyH_ready (rs := [8]) (by kernel_rfl) (by simp) ?_
  refine AllReadyH.cons rfl (fun K hK => ?_) AllReadyH.nil
  rw [if_pos (by rfl)]
  unfold Oper.wp
  go_simp
  clear hHeld
  refine hK.out _ _ ⟨HN1.out, HS1.out⟩ (fun hHeld => ?_)
  clear hK K
  try simp only [List.getElem_toArray, List.getElem_cons_succ, List.getElem_cons_zero, Act.put, List.setIfInBounds_toArray, List.set_cons_zero, List.set_cons_succ]
  refine wpAnyH_done (by kernel_rfl) ?_ _
  clear hHeld
  go_wp2
  go_end0
  exact ⟨rfl, SrvAt.ext (h := inferInstance) ((H.out.set 1).setw nm), But.drew ((But.of.set 2 _).set 3 _)⟩
end Go.Proofs.Ytodibldfolognaa
