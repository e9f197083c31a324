/-
  lcp.(*Opts).set: what an option says, or a panic with 'fault'. No condition.
-/
import Derived.Test.YtodibldfolognaaLcT
namespace Go.Proofs.Ytodibldfolognaa
open Go.RowKit
set_option linter.unusedVariables false
set_option linter.unusedSimpArgs false

abbrev oL (o : OS) : Obj := .cells #[.int .i64 o.mru, .int .i64 o.accm, .int .i64 o.auth, .int .u32 o.magic, .bool o.pfc, .bool o.acfc] 33
abbrev fP : List PanicEntry := [{ v := .iface 132 (.agg #[]), recovered := false }]
theorem need_yes (w : World) : Calls Try.prog 120 #[.bool true] w fun e w' => e = .returned (.tuple #[]) ∧ w = w' := by
  go_enter Try.func120, Try.ntmps120
  go_wp2
  go_end0
  exact ⟨rfl, rfl⟩
theorem need_no (w : World) : Calls Try.prog 120 #[.bool false] w fun e w' => e = .panicked fP ∧ w = w' := by
  go_enter Try.func120, Try.ntmps120
  go_wp2
  exact ⟨rfl, rfl, rfl⟩
/-- World w' is w but for block B and what is younger. -/
structure But (w w' : World) (B : Nat) : Prop where
  os : w'.os = w.os
  tape : w'.tape = w.tape
  output : w'.output = w.output
  size : w.heap.size ≤ w'.heap.size
  block : ∀ k, k < w.heap.size → k ≠ B → w'.heap[k]? = w.heap[k]?
section
variable {w0 w w1 w2 : World} {B g : Nat} {o : Obj}
theorem But.of [h : Ext w w1] : But w w1 B := ⟨h.out.os, h.out.tape, h.out.output, h.out.size, fun k hk _ => h.out.block k hk⟩
theorem But.set (h : But w w1 B) (j : Nat) (v : Value) : But w (w1.setCell ⟨B, j, none⟩ v) B :=
  ⟨h.os, h.tape, h.output, by have := h.size; simp [World.setCell]; omega, fun k hk hB => (Below.heap_setCell _ _ _ _ hB).trans (h.block k hk hB)⟩
theorem But.at (h : But w w1 B) (hg : g ≠ B) (k : w.heap[g]? = some o) : w1.heap[g]? = some o := (h.block g (at_lt k) hg).trans k
theorem But.ext (h : But w1 w2 B) (e : Ext w w1) (hB : w.heap.size ≤ B) : Ext w w2 :=
  ⟨e.out.trans ⟨h.os, h.tape, h.output, h.size, fun k hk => h.block k (Nat.lt_of_lt_of_le hk e.out.size) (by omega)⟩⟩
end
def SetTells (B : Nat) (r : Option OS) (w : World) (e : Ending) (w' : World) : Prop :=
  But w w' B ∧ match r with
    | some o => e = .returned (.tuple #[]) ∧ w'.heap[B]? = some (oL o)
    | none => e = .panicked fP ∧ ∃ o, w'.heap[B]? = some (oL o)
theorem lsize_1 : lsize 1 = 2 := rfl
theorem setT_no {B : Nat} {r : Option OS} {w w' : World} {o : OS} (hs : r = none) (hb : But w w' B) (ho : w'.heap[B]? = some (oL o)) : SetTells B r w (.panicked fP) w' := by
  subst hs
  exact ⟨hb, rfl, o, ho⟩
theorem setT_ok {B : Nat} {r : Option OS} {w w' : World} {o : OS} (hs : r = some o) (hb : But w w' B) (ho : w'.heap[B]? = some (oL o)) : SetTells B r w (.returned (.tuple #[])) w' := by
  subst hs
  exact ⟨hb, rfl, ho⟩
theorem setF_other {o : OS} {t : Int} {xs : List Int} (h1 : ¬ t = 1) (h2 : ¬ t = 2) (h3 : ¬ t = 3) (h5 : ¬ t = 5) (h7 : ¬ t = 7) (h8 : ¬ t = 8) : setF o t xs = none := by
  unfold setF
  rw [if_neg h1, if_neg h2, if_neg h3, if_neg h5, if_neg h7, if_neg h8]
set_option maxRecDepth 100000 in
set_option maxHeartbeats 8000000 in
theorem lset_any (o : OS) (t : Int) (VA : Option Addr) (vn vc : Nat) (xs : List Int) (B : Nat) (hl : xs.length = vn) (hl' : vn ≤ 140737488355300) (hb : Byt xs) (w : World) (hx : Cells w VA (nums .u8 xs)) (ho : w.heap[B]? = some (oL o)) :
    Calls Try.prog 95 #[.pointer (some ⟨B, 0, none⟩), .agg #[.int .i64 t, .slice VA vn vc]] w (SetTells B (setF o t xs) w) := by
  have HX := Lib.hid hx
  have HO := Lib.hid ho
  have HXL := Lib.hid hl
  have HBY := Lib.hid hb
  obtain ⟨o0, o1, o2, o3, o4, o5⟩ := o
  have f0 : ∀ b j, (w.alloc b).frozen? ⟨B, j, none⟩ = false := fun b j => at_frozen (at_ext (w' := w.alloc b) HO.out) j
  have q0 : ∀ b, (w.alloc b).cell? ⟨B, 0, none⟩ = some (.int .i64 o0) := fun b => at_cell (at_ext (w' := w.alloc b) HO.out) 0
  clear hx ho hl hb
  by_cases h1 : t = 1
  · subst h1
    by_cases hv : vn = 2
    · subst hv
      go_enter Try.func95, Try.ntmps95
      go_wp2_with fail
      refine (lsize_any 1 _).mono ?_
      rintro e w1 ⟨rfl, rfl⟩
      rw [show lsize 1 = 2 from rfl]
      go_wp2_with fail
      refine (need_yes _).mono ?_
      rintro e wz ⟨rfl, rfl⟩
      go_wp2_with fail
      refine (lnumber_any VA 2 vc xs HXL.out (by omega) HBY.out _ (by exact HX.out.ext)).mono ?_
      rintro e w2 ⟨rfl, rfl⟩
      have hbd := numF_bd xs
      obtain ⟨N, hN⟩ : ∃ N, numF xs = N := ⟨_, rfl⟩
      have HNN := Lib.hid hN
      rw [hN] at hbd ⊢
      obtain ⟨hbd0, hbd1⟩ := hbd
      clear hN
      by_cases ha : N < 64
      · have HS := Lib.hid (setF_1n (o := ⟨o0, o1, o2, o3, o4, o5⟩) HNN.out (.inl ha))
        go_wp2_with fail
        refine (need_no _).mono ?_
        rintro e wz ⟨rfl, rfl⟩
        exact ⟨rfl, setT_no HS.out But.of (at_ext HO.out)⟩
      by_cases hc : 16384 < N
      · have HS := Lib.hid (setF_1n (o := ⟨o0, o1, o2, o3, o4, o5⟩) HNN.out (.inr hc))
        have hcd : decide (N ≤ 16384) = false := decide_eq_false (by omega)
        go_wp2_with fail
        refine (need_no _).mono ?_
        rintro e wz ⟨rfl, rfl⟩
        exact ⟨rfl, setT_no HS.out But.of (at_ext HO.out)⟩
      have HS := Lib.hid (setF_1y (o := ⟨o0, o1, o2, o3, o4, o5⟩) HXL.out HNN.out ha hc)
      have hcd : decide (N ≤ 16384) = true := decide_eq_true (by omega)
      have hw : IntKind.i64.wrap N = N := by rw [IntKind.wrap_i64]; omega
      go_wp2_with fail
      refine (need_yes _).mono ?_
      rintro e wz ⟨rfl, rfl⟩
      go_wp2
      go_end0
      exact setT_ok HS.out (But.of.set 0 _) (at_set (at_ext HO.out) 0 _)
    · skip
      have HS : Hid (setF ⟨o0, o1, o2, o3, o4, o5⟩ 1 xs = none) := setF_size HXL.out (by unfold sizeN; rw [if_pos rfl, beq_eq_false_iff_ne]; omega)
      have hvI : ((2 : Int) == (vn : Int)) = false := by
        rw [beq_eq_false_iff_ne]
        omega
      clear hv
      go_enter Try.func95, Try.ntmps95
      go_wp2_with fail
      refine (lsize_any 1 _).mono ?_
      rintro e w1 ⟨rfl, rfl⟩
      rw [show lsize 1 = 2 from rfl]
      go_wp2_with fail
      refine (need_no _).mono ?_
      rintro e wz ⟨rfl, rfl⟩
      exact ⟨rfl, setT_no HS.out But.of (at_ext HO.out)⟩
  by_cases h2 : t = 2
  · subst h2
    clear h1
    by_cases hv : vn = 4
    · subst hv
      go_enter Try.func95, Try.ntmps95
      go_wp2_with fail
      refine (lsize_any 2 _).mono ?_
      rintro e w1 ⟨rfl, rfl⟩
      rw [show lsize 2 = 4 from rfl]
      go_wp2_with fail
      refine (need_yes _).mono ?_
      rintro e wz ⟨rfl, rfl⟩
      go_wp2_with fail
      refine (lnumber_any VA 4 vc xs HXL.out (by omega) HBY.out _ (by exact HX.out.ext)).mono ?_
      rintro e w2 ⟨rfl, rfl⟩
      have hbd := numF_bd xs
      obtain ⟨N, hN⟩ : ∃ N, numF xs = N := ⟨_, rfl⟩
      have HNN := Lib.hid hN
      rw [hN] at hbd ⊢
      obtain ⟨hbd0, hbd1⟩ := hbd
      have hb4 := numF_lt4 HBY.out HXL.out
      rw [hN] at hb4
      clear hN
      have HS := Lib.hid (setF_2y (o := ⟨o0, o1, o2, o3, o4, o5⟩) HXL.out HNN.out)
      have hw : IntKind.i64.wrap N = N := by rw [IntKind.wrap_i64]; omega
      have q1 : ∀ b, (w.alloc b).cell? ⟨B, 1, none⟩ = some (.int .i64 o1) := fun b => at_cell (at_ext (w' := w.alloc b) HO.out) 1
      go_wp2
      go_end0
      exact setT_ok HS.out (But.of.set 1 _) (at_set (at_ext HO.out) 1 _)
    · skip
      have HS : Hid (setF ⟨o0, o1, o2, o3, o4, o5⟩ 2 xs = none) := setF_size HXL.out (by unfold sizeN; rw [if_neg (by decide), if_pos (.inl rfl), beq_eq_false_iff_ne]; omega)
      have hvI : ((4 : Int) == (vn : Int)) = false := by
        rw [beq_eq_false_iff_ne]
        omega
      clear hv
      go_enter Try.func95, Try.ntmps95
      go_wp2_with fail
      refine (lsize_any 2 _).mono ?_
      rintro e w1 ⟨rfl, rfl⟩
      rw [show lsize 2 = 4 from rfl]
      go_wp2_with fail
      refine (need_no _).mono ?_
      rintro e wz ⟨rfl, rfl⟩
      exact ⟨rfl, setT_no HS.out But.of (at_ext HO.out)⟩
  by_cases h5 : t = 5
  · subst h5
    clear h1 h2
    by_cases hv : vn = 4
    · subst hv
      go_enter Try.func95, Try.ntmps95
      go_wp2_with fail
      refine (lsize_any 5 _).mono ?_
      rintro e w1 ⟨rfl, rfl⟩
      rw [show lsize 5 = 4 from rfl]
      go_wp2_with fail
      refine (need_yes _).mono ?_
      rintro e wz ⟨rfl, rfl⟩
      go_wp2_with fail
      refine (lnumber_any VA 4 vc xs HXL.out (by omega) HBY.out _ (by exact HX.out.ext)).mono ?_
      rintro e w2 ⟨rfl, rfl⟩
      have hbd := numF_bd xs
      obtain ⟨N, hN⟩ : ∃ N, numF xs = N := ⟨_, rfl⟩
      have HNN := Lib.hid hN
      rw [hN] at hbd ⊢
      obtain ⟨hbd0, hbd1⟩ := hbd
      have hb4 := numF_lt4 HBY.out HXL.out
      rw [hN] at hb4
      clear hN
      by_cases ha : N = 0
      · have HS := Lib.hid (setF_5n (o := ⟨o0, o1, o2, o3, o4, o5⟩) HNN.out ha)
        subst ha
        go_wp2_with fail
        refine (need_no _).mono ?_
        rintro e wz ⟨rfl, rfl⟩
        exact ⟨rfl, setT_no HS.out But.of (at_ext HO.out)⟩
      have HS := Lib.hid (setF_5y (o := ⟨o0, o1, o2, o3, o4, o5⟩) HXL.out HNN.out ha)
      have ha' : (N != 0) = true := by simpa using ha
      clear ha
      have hw : IntKind.u32.wrap N = N := by rw [IntKind.wrap_u32]; omega
      have q3 : ∀ b, (w.alloc b).cell? ⟨B, 3, none⟩ = some (.int .u32 o3) := fun b => at_cell (at_ext (w' := w.alloc b) HO.out) 3
      go_wp2_with fail
      refine (need_yes _).mono ?_
      rintro e wz ⟨rfl, rfl⟩
      go_wp2
      go_end0
      exact setT_ok HS.out (But.of.set 3 _) (at_set (at_ext HO.out) 3 _)
    · skip
      have HS : Hid (setF ⟨o0, o1, o2, o3, o4, o5⟩ 5 xs = none) := setF_size HXL.out (by unfold sizeN; rw [if_neg (by decide), if_pos (.inr rfl), beq_eq_false_iff_ne]; omega)
      have hvI : ((4 : Int) == (vn : Int)) = false := by
        rw [beq_eq_false_iff_ne]
        omega
      clear hv
      go_enter Try.func95, Try.ntmps95
      go_wp2_with fail
      refine (lsize_any 5 _).mono ?_
      rintro e w1 ⟨rfl, rfl⟩
      rw [show lsize 5 = 4 from rfl]
      go_wp2_with fail
      refine (need_no _).mono ?_
      rintro e wz ⟨rfl, rfl⟩
      exact ⟨rfl, setT_no HS.out But.of (at_ext HO.out)⟩
  by_cases h7 : t = 7
  · subst h7
    clear h1 h2 h5
    by_cases hv : vn = 0
    · subst hv
      go_enter Try.func95, Try.ntmps95
      go_wp2_with fail
      refine (lsize_any 7 _).mono ?_
      rintro e w1 ⟨rfl, rfl⟩
      rw [show lsize 7 = 0 from rfl]
      go_wp2_with fail
      refine (need_yes _).mono ?_
      rintro e wz ⟨rfl, rfl⟩
      go_wp2_with fail
      refine (lnumber_any VA 0 vc xs HXL.out (by omega) HBY.out _ (by exact HX.out.ext)).mono ?_
      rintro e w2 ⟨rfl, rfl⟩
      have hbd := numF_bd xs
      obtain ⟨N, hN⟩ : ∃ N, numF xs = N := ⟨_, rfl⟩
      have HNN := Lib.hid hN
      rw [hN] at hbd ⊢
      obtain ⟨hbd0, hbd1⟩ := hbd
      clear hN
      have HS := Lib.hid (setF_7y (o := ⟨o0, o1, o2, o3, o4, o5⟩) HXL.out)
      have q4 : ∀ b, (w.alloc b).cell? ⟨B, 4, none⟩ = some (.bool o4) := fun b => at_cell (at_ext (w' := w.alloc b) HO.out) 4
      go_wp2
      go_end0
      exact setT_ok HS.out (But.of.set 4 _) (at_set (at_ext HO.out) 4 _)
    · skip
      have HS : Hid (setF ⟨o0, o1, o2, o3, o4, o5⟩ 7 xs = none) := setF_size HXL.out (by unfold sizeN; rw [if_neg (by decide), if_neg (by decide), if_neg (by decide), if_pos (.inl rfl), beq_eq_false_iff_ne]; omega)
      have hvI : ((0 : Int) == (vn : Int)) = false := by
        rw [beq_eq_false_iff_ne]
        omega
      clear hv
      go_enter Try.func95, Try.ntmps95
      go_wp2_with fail
      refine (lsize_any 7 _).mono ?_
      rintro e w1 ⟨rfl, rfl⟩
      rw [show lsize 7 = 0 from rfl]
      go_wp2_with fail
      refine (need_no _).mono ?_
      rintro e wz ⟨rfl, rfl⟩
      exact ⟨rfl, setT_no HS.out But.of (at_ext HO.out)⟩
  by_cases h8 : t = 8
  · subst h8
    clear h1 h2 h5 h7
    by_cases hv : vn = 0
    · subst hv
      go_enter Try.func95, Try.ntmps95
      go_wp2_with fail
      refine (lsize_any 8 _).mono ?_
      rintro e w1 ⟨rfl, rfl⟩
      rw [show lsize 8 = 0 from rfl]
      go_wp2_with fail
      refine (need_yes _).mono ?_
      rintro e wz ⟨rfl, rfl⟩
      go_wp2_with fail
      refine (lnumber_any VA 0 vc xs HXL.out (by omega) HBY.out _ (by exact HX.out.ext)).mono ?_
      rintro e w2 ⟨rfl, rfl⟩
      have hbd := numF_bd xs
      obtain ⟨N, hN⟩ : ∃ N, numF xs = N := ⟨_, rfl⟩
      have HNN := Lib.hid hN
      rw [hN] at hbd ⊢
      obtain ⟨hbd0, hbd1⟩ := hbd
      clear hN
      have HS := Lib.hid (setF_8y (o := ⟨o0, o1, o2, o3, o4, o5⟩) HXL.out)
      have q5 : ∀ b, (w.alloc b).cell? ⟨B, 5, none⟩ = some (.bool o5) := fun b => at_cell (at_ext (w' := w.alloc b) HO.out) 5
      go_wp2
      go_end0
      exact setT_ok HS.out (But.of.set 5 _) (at_set (at_ext HO.out) 5 _)
    · skip
      have HS : Hid (setF ⟨o0, o1, o2, o3, o4, o5⟩ 8 xs = none) := setF_size HXL.out (by unfold sizeN; rw [if_neg (by decide), if_neg (by decide), if_neg (by decide), if_pos (.inr rfl), beq_eq_false_iff_ne]; omega)
      have hvI : ((0 : Int) == (vn : Int)) = false := by
        rw [beq_eq_false_iff_ne]
        omega
      clear hv
      go_enter Try.func95, Try.ntmps95
      go_wp2_with fail
      refine (lsize_any 8 _).mono ?_
      rintro e w1 ⟨rfl, rfl⟩
      rw [show lsize 8 = 0 from rfl]
      go_wp2_with fail
      refine (need_no _).mono ?_
      rintro e wz ⟨rfl, rfl⟩
      exact ⟨rfl, setT_no HS.out But.of (at_ext HO.out)⟩
  by_cases h3 : t = 3
  · subst h3
    clear h1 h2 h5 h7 h8
    go_enter Try.func95, Try.ntmps95
    go_wp2_with fail
    refine (lsize_any 3 _).mono ?_
    rintro e w1 ⟨rfl, rfl⟩
    rw [show lsize 3 = (-2) from rfl]
    go_wp2_with fail
    refine (need_yes _).mono ?_
    rintro e wz ⟨rfl, rfl⟩
    go_wp2_with fail
    refine (lnumber_any VA vn vc xs HXL.out (by omega) HBY.out _ (by exact HX.out.ext)).mono ?_
    rintro e w2 ⟨rfl, rfl⟩
    have hbd := numF_bd xs
    obtain ⟨N, hN⟩ : ∃ N, numF xs = N := ⟨_, rfl⟩
    have HNN := Lib.hid hN
    rw [hN] at hbd ⊢
    obtain ⟨hbd0, hbd1⟩ := hbd
    clear hN
    go_wp2_with fail
    refine (lmethod_any VA vn vc xs HXL.out (by omega) _ (by exact HX.out.ext)).mono ?_
    rintro e w5 ⟨rfl, hb5⟩
    have S5 : Step w5 _ := ⟨hb5⟩
    clear hb5
    obtain ⟨M, hM⟩ : ∃ M, methF xs = M := ⟨_, rfl⟩
    have HMM := Lib.hid hM
    rw [hM]
    clear hM
    have P5 := at_ext (w' := w5) HO.out
    have f5 := at_frozen P5 2
    have q5 : w5.cell? ⟨B, 2, none⟩ = some (.int .i64 o2) := at_cell P5 2
    clear P5
    have HO5 : Hid ((w5.setCell ⟨B, 2, none⟩ (.int .i64 M)).heap[B]? = some (oL ⟨o0, o1, M, o3, o4, o5⟩)) := at_set (at_ext (w' := w5) HO.out) 2 _
    have q6 : (w5.setCell ⟨B, 2, none⟩ (.int .i64 M)).cell? ⟨B, 2, none⟩ = some (.int .i64 M) := at_cell HO5.out 2
    by_cases ha : M = 0
    · have HS := Lib.hid (setF_3n (o := ⟨o0, o1, o2, o3, o4, o5⟩) HMM.out ha)
      subst ha
      go_wp2_with fail
      refine (need_no _).mono ?_
      rintro e wz ⟨rfl, rfl⟩
      exact ⟨rfl, setT_no HS.out ((But.of (w1 := w5)).set 2 _) HO5.out⟩
    · have HS := Lib.hid (setF_3y (o := ⟨o0, o1, o2, o3, o4, o5⟩) HMM.out ha)
      have ha' : (M != 0) = true := by simpa using ha
      clear ha
      go_wp2_with fail
      refine (need_yes _).mono ?_
      rintro e wz ⟨rfl, rfl⟩
      go_wp2
      go_end0
      exact setT_ok HS.out ((But.of (w1 := w5)).set 2 _) HO5.out
  have HS := Lib.hid (setF_other (o := ⟨o0, o1, o2, o3, o4, o5⟩) (xs := xs) h1 h2 h3 h5 h7 h8)
  have HSZ : Hid (lsize t = -1) := by unfold Hid lsize; simp [h1, h2, h5, h7, h8, h3]
  have hvI : ((-1 : Int) == (vn : Int)) = false := by
    rw [beq_eq_false_iff_ne]
    omega
  clear h1 h2 h3 h5 h7 h8
  go_enter Try.func95, Try.ntmps95
  go_wp2_with fail
  refine (lsize_any t _).mono ?_
  rintro e w1 ⟨rfl, rfl⟩
  rw [show lsize t = (-1) from HSZ.out]
  go_wp2_with fail
  refine (need_no _).mono ?_
  rintro e wz ⟨rfl, rfl⟩
  exact ⟨rfl, setT_no HS.out But.of (at_ext HO.out)⟩
end Go.Proofs.Ytodibldfolognaa
