/-
  The reference's New of ends (ccp): nil just if the bits can not be. No condition.
-/
import Derived.Test.YtnhmpmibkpoipaaCcP
namespace Go.Proofs.Ytnhmpmibkpoipaa
open Go.RowKit
set_option linter.unusedVariables false
set_option linter.unusedSimpArgs false

def SomePtr (w : World) (e : Ending) (w' : World) : Prop := ∃ a : Addr, e = .returned (.pointer (some a)) ∧ Below w.heap.size w w'
set_option maxRecDepth 100000 in
set_option maxHeartbeats 1000000 in
theorem rnew20_any (n : Int) (h1 : 8 ≤ n) (h2 : n ≤ 15) (w : World) : Calls Try.prog 108 #[.int .i64 n] w (SomePtr w) := by
  go_enter Try.func108, Try.ntmps108
  go_wp2
  go_ret
  exact ⟨_, rfl, Ext.out⟩
set_option maxRecDepth 100000 in
set_option maxHeartbeats 1000000 in
theorem rnew21_any (n : Int) (h1 : 9 ≤ n) (h2 : n ≤ 15) (w : World) : Calls Try.prog 109 #[.int .i64 n] w (SomePtr w) := by
  go_enter Try.func109, Try.ntmps109
  go_wp2
  go_ret
  exact ⟨_, rfl, Ext.out⟩
abbrev cEnd (d b : Int) : Obj := .cells #[.int .i64 d, .int .i64 b, .pointer none, .pointer none, .bool false, .bool false, .int .i64 0] 125
theorem methF_d {d b : Int} (h : d ≠ 0) : methF d b = 26 := by unfold methF; rw [if_pos h]
theorem methF_b {d b : Int} (h : d = 0) (h' : b ≠ 0) : methF d b = 21 := by unfold methF; rw [if_neg (by simpa using h), if_pos h']
theorem methF_0 {d b : Int} (h : d = 0) (h' : b = 0) : methF d b = 0 := by unfold methF; rw [if_neg (by simpa using h), if_neg (by simpa using h')]
set_option maxRecDepth 100000 in
set_option maxHeartbeats 2000000 in
theorem fresh22_any (d b : Int) (g : Nat) (hd : d = 0 ∨ (8 ≤ d ∧ d ≤ 15)) (hb : b = 0 ∨ (9 ≤ b ∧ b ≤ 15)) (w0 w : World) [X0 : Ext w0 w] (hz : w0.heap.size ≤ g) (hg : w.heap[g]? = some (cEnd d b)) :
    Calls Try.prog 86 #[.pointer (some ⟨g, 0, none⟩)] w fun e w' => e = .returned (.tuple #[]) ∧ Below w0.heap.size w0 w' := by
  have HG := Lib.hid hg
  have HZ := Lib.hid hz
  have X1 : Hid (Ext w0 ((w.setCell ⟨g, 4, none⟩ (.bool false)).setCell ⟨g, 5, none⟩ (.bool false))) := ⟨(X0.out.setCell (p := ⟨g, 4, none⟩) hz _).setCell (p := ⟨g, 5, none⟩) hz _⟩
  have XX1 : Ext w0 ((w.setCell ⟨g, 4, none⟩ (.bool false)).setCell ⟨g, 5, none⟩ (.bool false)) := X1.out
  clear hg hz
  by_cases hd0 : d = 0
  · by_cases hb0 : b = 0
    · have HM := Lib.hid (methF_0 hd0 hb0)
      clear hd hb hd0 hb0
      have q0 : w.cell? ⟨g, 0, none⟩ = some (.int .i64 d) := at_cell HG.out 0
      have q1 : w.cell? ⟨g, 1, none⟩ = some (.int .i64 b) := at_cell HG.out 1
      have q2 : w.cell? ⟨g, 2, none⟩ = some (.pointer none) := at_cell HG.out 2
      have q3 : w.cell? ⟨g, 3, none⟩ = some (.pointer none) := at_cell HG.out 3
      have q4 : w.cell? ⟨g, 4, none⟩ = some (.bool false) := at_cell HG.out 4
      have q5 : w.cell? ⟨g, 5, none⟩ = some (.bool false) := at_cell HG.out 5
      have f2 := at_frozen HG.out 2
      have f3 := at_frozen HG.out 3
      have f4 := at_frozen HG.out 4
      have f5 := at_frozen HG.out 5
      go_enter Try.func86, Try.ntmps86
      go_wp2_with fail
      refine (rmethod22_any d b _).mono ?_
      rintro e w1 ⟨rfl, hb1⟩
      rw [HM.out]
      have S1 : Step w1 _ := ⟨hb1⟩
      have HG1 := Lib.hid (at_ext (w' := w1) (at_set (at_set HG.out 4 (.bool false)) 5 (.bool false)))
      clear hb1 q0 q1 q2 q3 q4 q5 f2 f3 f4 f5
      have q0 : w1.cell? ⟨g, 0, none⟩ = some (.int .i64 d) := at_cell HG1.out 0
      have q1 : w1.cell? ⟨g, 1, none⟩ = some (.int .i64 b) := at_cell HG1.out 1
      have q2 : w1.cell? ⟨g, 2, none⟩ = some (.pointer none) := at_cell HG1.out 2
      have q3 : w1.cell? ⟨g, 3, none⟩ = some (.pointer none) := at_cell HG1.out 3
      have q4 : w1.cell? ⟨g, 4, none⟩ = some (.bool false) := at_cell HG1.out 4
      have q5 : w1.cell? ⟨g, 5, none⟩ = some (.bool false) := at_cell HG1.out 5
      have f2 := at_frozen HG1.out 2
      have f3 := at_frozen HG1.out 3
      have f4 := at_frozen HG1.out 4
      have f5 := at_frozen HG1.out 5
      go_wp2
      go_end0
      exact ⟨rfl, (inferInstance : Ext w0 w1).out⟩
    · have HM := Lib.hid (methF_b hd0 hb0)
      have hb1 := hb.resolve_left hb0
      clear hd hb hd0 hb0
      have q0 : w.cell? ⟨g, 0, none⟩ = some (.int .i64 d) := at_cell HG.out 0
      have q1 : w.cell? ⟨g, 1, none⟩ = some (.int .i64 b) := at_cell HG.out 1
      have q2 : w.cell? ⟨g, 2, none⟩ = some (.pointer none) := at_cell HG.out 2
      have q3 : w.cell? ⟨g, 3, none⟩ = some (.pointer none) := at_cell HG.out 3
      have q4 : w.cell? ⟨g, 4, none⟩ = some (.bool false) := at_cell HG.out 4
      have q5 : w.cell? ⟨g, 5, none⟩ = some (.bool false) := at_cell HG.out 5
      have f2 := at_frozen HG.out 2
      have f3 := at_frozen HG.out 3
      have f4 := at_frozen HG.out 4
      have f5 := at_frozen HG.out 5
      go_enter Try.func86, Try.ntmps86
      go_wp2_with fail
      refine (rmethod22_any d b _).mono ?_
      rintro e w1 ⟨rfl, hb1⟩
      rw [HM.out]
      have S1 : Step w1 _ := ⟨hb1⟩
      have HG1 := Lib.hid (at_ext (w' := w1) (at_set (at_set HG.out 4 (.bool false)) 5 (.bool false)))
      clear hb1 q0 q1 q2 q3 q4 q5 f2 f3 f4 f5
      have q0 : w1.cell? ⟨g, 0, none⟩ = some (.int .i64 d) := at_cell HG1.out 0
      have q1 : w1.cell? ⟨g, 1, none⟩ = some (.int .i64 b) := at_cell HG1.out 1
      have q2 : w1.cell? ⟨g, 2, none⟩ = some (.pointer none) := at_cell HG1.out 2
      have q3 : w1.cell? ⟨g, 3, none⟩ = some (.pointer none) := at_cell HG1.out 3
      have q4 : w1.cell? ⟨g, 4, none⟩ = some (.bool false) := at_cell HG1.out 4
      have q5 : w1.cell? ⟨g, 5, none⟩ = some (.bool false) := at_cell HG1.out 5
      have f2 := at_frozen HG1.out 2
      have f3 := at_frozen HG1.out 3
      have f4 := at_frozen HG1.out 4
      have f5 := at_frozen HG1.out 5
      go_wp2_with fail
      refine (rnew21_any _ (by omega) (by omega) _).mono ?_
      rintro e w2 ⟨pa, rfl, hb2⟩
      have S2 : Step w2 _ := ⟨hb2⟩
      have HG2 := Lib.hid (at_ext (w' := w2) HG1.out)
      clear hb2 q0 q1 q2 q3 q4 q5 f2 f3 f4 f5
      have q0 : w2.cell? ⟨g, 0, none⟩ = some (.int .i64 d) := at_cell HG2.out 0
      have q1 : w2.cell? ⟨g, 1, none⟩ = some (.int .i64 b) := at_cell HG2.out 1
      have q2 : w2.cell? ⟨g, 2, none⟩ = some (.pointer none) := at_cell HG2.out 2
      have q3 : w2.cell? ⟨g, 3, none⟩ = some (.pointer none) := at_cell HG2.out 3
      have q4 : w2.cell? ⟨g, 4, none⟩ = some (.bool false) := at_cell HG2.out 4
      have q5 : w2.cell? ⟨g, 5, none⟩ = some (.bool false) := at_cell HG2.out 5
      have f2 := at_frozen HG2.out 2
      have f3 := at_frozen HG2.out 3
      have f4 := at_frozen HG2.out 4
      have f5 := at_frozen HG2.out 5
      go_wp2
      go_end0
      exact ⟨rfl, (inferInstance : Ext w0 w2).out.setCell (p := ⟨g, 3, none⟩) HZ.out _⟩
  · have HM := Lib.hid (methF_d (b := b) hd0)
    have hd1 := hd.resolve_left hd0
    clear hd hb hd0
    have q0 : w.cell? ⟨g, 0, none⟩ = some (.int .i64 d) := at_cell HG.out 0
    have q1 : w.cell? ⟨g, 1, none⟩ = some (.int .i64 b) := at_cell HG.out 1
    have q2 : w.cell? ⟨g, 2, none⟩ = some (.pointer none) := at_cell HG.out 2
    have q3 : w.cell? ⟨g, 3, none⟩ = some (.pointer none) := at_cell HG.out 3
    have q4 : w.cell? ⟨g, 4, none⟩ = some (.bool false) := at_cell HG.out 4
    have q5 : w.cell? ⟨g, 5, none⟩ = some (.bool false) := at_cell HG.out 5
    have f2 := at_frozen HG.out 2
    have f3 := at_frozen HG.out 3
    have f4 := at_frozen HG.out 4
    have f5 := at_frozen HG.out 5
    go_enter Try.func86, Try.ntmps86
    go_wp2_with fail
    refine (rmethod22_any d b _).mono ?_
    rintro e w1 ⟨rfl, hb1⟩
    rw [HM.out]
    have S1 : Step w1 _ := ⟨hb1⟩
    have HG1 := Lib.hid (at_ext (w' := w1) (at_set (at_set HG.out 4 (.bool false)) 5 (.bool false)))
    clear hb1 q0 q1 q2 q3 q4 q5 f2 f3 f4 f5
    have q0 : w1.cell? ⟨g, 0, none⟩ = some (.int .i64 d) := at_cell HG1.out 0
    have q1 : w1.cell? ⟨g, 1, none⟩ = some (.int .i64 b) := at_cell HG1.out 1
    have q2 : w1.cell? ⟨g, 2, none⟩ = some (.pointer none) := at_cell HG1.out 2
    have q3 : w1.cell? ⟨g, 3, none⟩ = some (.pointer none) := at_cell HG1.out 3
    have q4 : w1.cell? ⟨g, 4, none⟩ = some (.bool false) := at_cell HG1.out 4
    have q5 : w1.cell? ⟨g, 5, none⟩ = some (.bool false) := at_cell HG1.out 5
    have f2 := at_frozen HG1.out 2
    have f3 := at_frozen HG1.out 3
    have f4 := at_frozen HG1.out 4
    have f5 := at_frozen HG1.out 5
    go_wp2_with fail
    refine (rnew20_any _ (by omega) (by omega) _).mono ?_
    rintro e w2 ⟨pa, rfl, hb2⟩
    have S2 : Step w2 _ := ⟨hb2⟩
    have HG2 := Lib.hid (at_ext (w' := w2) HG1.out)
    clear hb2 q0 q1 q2 q3 q4 q5 f2 f3 f4 f5
    have q0 : w2.cell? ⟨g, 0, none⟩ = some (.int .i64 d) := at_cell HG2.out 0
    have q1 : w2.cell? ⟨g, 1, none⟩ = some (.int .i64 b) := at_cell HG2.out 1
    have q2 : w2.cell? ⟨g, 2, none⟩ = some (.pointer none) := at_cell HG2.out 2
    have q3 : w2.cell? ⟨g, 3, none⟩ = some (.pointer none) := at_cell HG2.out 3
    have q4 : w2.cell? ⟨g, 4, none⟩ = some (.bool false) := at_cell HG2.out 4
    have q5 : w2.cell? ⟨g, 5, none⟩ = some (.bool false) := at_cell HG2.out 5
    have f2 := at_frozen HG2.out 2
    have f3 := at_frozen HG2.out 3
    have f4 := at_frozen HG2.out 4
    have f5 := at_frozen HG2.out 5
    go_wp2
    go_end0
    exact ⟨rfl, (inferInstance : Ext w0 w2).out.setCell (p := ⟨g, 2, none⟩) HZ.out _⟩
set_option maxRecDepth 100000 in
set_option maxHeartbeats 2000000 in
theorem rnew22_yes (d b : Int) (hd : d = 0 ∨ (8 ≤ d ∧ d ≤ 15)) (hb : b = 0 ∨ (9 ≤ b ∧ b ≤ 15)) (w : World) : Calls Try.prog 38 #[.agg #[.int .i64 d, .int .i64 b]] w (SomePtr w) := by
  have HD := Lib.hid hd
  have HB := Lib.hid hb
  rcases hd with hd | ⟨hd1, hd2⟩
  · have hd' : (d != 0) = false := by simpa using hd
    clear hd
    rcases hb with hb | ⟨hb1, hb2⟩
    · have hb' : (b != 0) = false := by simpa using hb
      clear hb
      go_enter Try.func38, Try.ntmps38
      go_wp2_with fail
      refine (fresh22_any d b (w.heap.size + 1) HD.out HB.out w _ (by omega) (by exact at_new1 (by simp))).mono ?_
      rintro e w1 ⟨rfl, hb1⟩
      go_wp2
      go_ret
      exact ⟨_, rfl, hb1⟩
    · have hb' : (b != 0) = true := by rw [bne_iff_ne]; omega
      have hb3 : ¬ b < 9 := by omega
      have hb4 : ¬ 15 < b := by omega
      go_enter Try.func38, Try.ntmps38
      go_wp2_with fail
      refine (fresh22_any d b (w.heap.size + 1) HD.out HB.out w _ (by omega) (by exact at_new1 (by simp))).mono ?_
      rintro e w1 ⟨rfl, hb1⟩
      go_wp2
      go_ret
      exact ⟨_, rfl, hb1⟩
  · have hd' : (d != 0) = true := by rw [bne_iff_ne]; omega
    have hd3 : ¬ d < 8 := by omega
    have hd4 : ¬ 15 < d := by omega
    rcases hb with hb | ⟨hb1, hb2⟩
    · have hb' : (b != 0) = false := by simpa using hb
      clear hb
      go_enter Try.func38, Try.ntmps38
      go_wp2_with fail
      refine (fresh22_any d b (w.heap.size + 1) HD.out HB.out w _ (by omega) (by exact at_new1 (by simp))).mono ?_
      rintro e w1 ⟨rfl, hb1⟩
      go_wp2
      go_ret
      exact ⟨_, rfl, hb1⟩
    · have hb' : (b != 0) = true := by rw [bne_iff_ne]; omega
      have hb3 : ¬ b < 9 := by omega
      have hb4 : ¬ 15 < b := by omega
      go_enter Try.func38, Try.ntmps38
      go_wp2_with fail
      refine (fresh22_any d b (w.heap.size + 1) HD.out HB.out w _ (by omega) (by exact at_new1 (by simp))).mono ?_
      rintro e w1 ⟨rfl, hb1⟩
      go_wp2
      go_ret
      exact ⟨_, rfl, hb1⟩
set_option maxRecDepth 100000 in
set_option maxHeartbeats 2000000 in
theorem rnew22_no (d b : Int) (h : ¬ ((d = 0 ∨ (8 ≤ d ∧ d ≤ 15)) ∧ (b = 0 ∨ (9 ≤ b ∧ b ≤ 15)))) (w : World) : Calls Try.prog 38 #[.agg #[.int .i64 d, .int .i64 b]] w fun e w' => e = .returned (.pointer none) ∧ Below w.heap.size w w' := by
  by_cases hd : d = 0
  · have hd' : (d != 0) = false := by simpa using hd
    have h : ¬ (b = 0 ∨ (9 ≤ b ∧ b ≤ 15)) := fun hb => h ⟨.inl hd, hb⟩
    clear hd
    have hb' : (b != 0) = true := by rw [bne_iff_ne]; omega
    by_cases hb3 : b < 9
    · clear h
      go_enter Try.func38, Try.ntmps38
      go_wp2
      go_ret
      exact ⟨rfl, Ext.out⟩
    · have hb4 : 15 < b := by omega
      clear h
      go_enter Try.func38, Try.ntmps38
      go_wp2
      go_ret
      exact ⟨rfl, Ext.out⟩
  · have hd' : (d != 0) = true := by rw [bne_iff_ne]; omega
    by_cases hd3 : d < 8
    · clear h hd
      go_enter Try.func38, Try.ntmps38
      go_wp2
      go_ret
      exact ⟨rfl, Ext.out⟩
    · by_cases hd4 : 15 < d
      · clear h hd
        go_enter Try.func38, Try.ntmps38
        go_wp2
        go_ret
        exact ⟨rfl, Ext.out⟩
      · have h : ¬ (b = 0 ∨ (9 ≤ b ∧ b ≤ 15)) := fun hb => h ⟨.inr ⟨by omega, by omega⟩, hb⟩
        clear hd
        have hb' : (b != 0) = true := by rw [bne_iff_ne]; omega
        by_cases hb3 : b < 9
        · clear h
          go_enter Try.func38, Try.ntmps38
          go_wp2
          go_ret
          exact ⟨rfl, Ext.out⟩
        · have hb4 : 15 < b := by omega
          clear h
          go_enter Try.func38, Try.ntmps38
          go_wp2
          go_ret
          exact ⟨rfl, Ext.out⟩
end Go.Proofs.Ytnhmpmibkpoipaa
