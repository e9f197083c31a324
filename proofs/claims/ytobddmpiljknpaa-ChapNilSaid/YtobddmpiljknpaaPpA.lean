/-
  pap and secret: texts; what secret.name, pap.plain and the reference's tell. Conditions: the texts are no longer than the model's memory.
-/
import Derived.Test.YtobddmpiljknpaaPpZ
import Derived.Lib.ConvBytes
import Derived.Lib.AppendStr
namespace Go.Proofs.Ytobddmpiljknpaa
open Go.RowKit
set_option linter.unusedVariables false
set_option linter.unusedSimpArgs false

/-- What is answered. -/
def okN (c : Int) : Bool := decide (32 ≤ c ∧ c ≤ 126 ∧ c ≠ 34 ∧ c ≠ 92)
def okP (c : Int) : Bool := decide (32 ≤ c ∧ c ≤ 126)
def nameF (xs : List Int) : Bool := decide (1 ≤ xs.length ∧ xs.length ≤ 64) && xs.all okN
def plainF (xs : List Int) : Bool := xs.all okP
theorem all_take_succ {f : Int → Bool} {xs : List Int} {k : Nat} (h : (xs.take k).all f = true) (hk : k < xs.length) (hx : f (xs.getD k 0) = true) : (xs.take (k + 1)).all f = true := by
  rw [List.getD_eq_getElem?_getD, List.getElem?_eq_getElem hk] at hx
  rw [List.take_add_one, List.getElem?_eq_getElem hk, List.all_append, h]
  simpa using hx
theorem all_not {f : Int → Bool} {xs : List Int} {k : Nat} (hk : k < xs.length) (hx : f (xs.getD k 0) = false) : xs.all f = false := by
  rw [List.getD_eq_getElem?_getD, List.getElem?_eq_getElem hk] at hx
  rw [List.all_eq_false]
  exact ⟨xs[k], List.getElem_mem _, by simpa using hx⟩
set_option maxHeartbeats 4000000 in
theorem name_any (s : ByteArray) (hs : s.size ≤ 140737488355328) (w : World) : Calls Try.prog 125 #[.string s] w fun e w' => e = .returned (.bool (nameF (strB s))) ∧ Below w.heap.size w w' := by
  by_cases l1 : s.size < 1
  · have HF : Hid (nameF (strB s) = false) := by unfold Hid nameF; rw [decide_eq_false (by rw [strB_len]; omega)]; rfl
    have l1I : (s.size : Int) < 1 := by omega
    go_enter Try.func125, Try.ntmps125
    go_wp2
    go_ret
    exact ⟨ret_bool HF.out.symm, Ext.out⟩
  by_cases l2 : 64 < s.size
  · have HF : Hid (nameF (strB s) = false) := by unfold Hid nameF; rw [decide_eq_false (by rw [strB_len]; omega)]; rfl
    have l1I : ¬ (s.size : Int) < 1 := by omega
    have l2I : 64 < (s.size : Int) := by omega
    go_enter Try.func125, Try.ntmps125
    go_wp2
    go_ret
    exact ⟨ret_bool HF.out.symm, Ext.out⟩
  obtain ⟨w1, c1, hcv, hsc, hC1, hB1, hZ1⟩ := conv_str (P := Try.prog) w 9 22 5 s Try.underlying9 Try.underlying22 Try.underlying5
  have HL := Lib.hid (strB_len s)
  have S1 : Step w1 w := ⟨hB1⟩
  have HBY := Lib.hid (strB_byt s)
  obtain ⟨BA, hBA⟩ : ∃ A : Option Addr, some ⟨w.heap.size, 0, none⟩ = A := ⟨_, rfl⟩
  rw [hBA] at hcv hC1
  have HC := Lib.hid hC1
  clear hC1 hB1 hZ1 hsc hBA
  obtain ⟨xs, hxs⟩ : ∃ xs, strB s = xs := ⟨_, rfl⟩
  rw [hxs] at HL HC HBY ⊢
  clear hxs
  obtain ⟨n, hn⟩ : ∃ n, s.size = n := ⟨_, rfl⟩
  rw [hn] at hs hcv HL
  have HN := Lib.hid hn
  clear hn
  rw [HN.out] at l1 l2
  have HNF : Hid (nameF xs = xs.all okN) := by unfold Hid nameF; rw [decide_eq_true (by rw [HL.out]; omega)]; rfl
  have HNI : Hid ((s.size : Int) = n) := congrArg _ HN.out
  have l1I : ¬ (s.size : Int) < 1 := by rw [HNI.out]; omega
  have l2I : ¬ 64 < (s.size : Int) := by rw [HNI.out]; omega
  go_enter Try.func125, Try.ntmps125
  go_wp2
  clear hcv
  go_loopw [16] (fun i wr => ∃ k : Nat, i = .int .i64 k ∧ k ≤ n ∧ Hid ((xs.take k).all okN = true) ∧ Hid (Ext w1 wr)) (fun i _ => n - (intOf i).toNat)
  case atStart => exact ⟨0, rfl, by omega, rfl, (inferInstance : Ext w1 w1)⟩
  case round =>
    obtain ⟨k, rfl, hk, HA, HW⟩ := hrel
    have Sr : Step wr w1 := ⟨HW.out.out⟩
    by_cases hlt : k < n
    · obtain ⟨ad, rfl, hc⟩ := (HC.out.ext (w' := wr)).num (by rw [HL.out]; exact hlt)
      have HLT := Lib.hid (show k < xs.length by rw [HL.out]; exact hlt)
      obtain ⟨X, hX⟩ : ∃ X, xs.getD k 0 = X := ⟨_, rfl⟩
      rw [hX] at hc
      have HX := Lib.hid hX
      clear hX
      by_cases p1 : X < 32
      · skip
        have HF : Hid (nameF xs = false) := HNF.out.trans (all_not HLT.out (by rw [HX.out]; unfold okN; exact decide_eq_false (by omega)))
        go_wp2
        go_ret
        exact ⟨ret_bool HF.out.symm, Ext.out⟩
      by_cases p2 : 126 < X
      · skip
        have HF : Hid (nameF xs = false) := HNF.out.trans (all_not HLT.out (by rw [HX.out]; unfold okN; exact decide_eq_false (by omega)))
        go_wp2
        go_ret
        exact ⟨ret_bool HF.out.symm, Ext.out⟩
      by_cases p3 : X = 34
      · subst p3
        have HF : Hid (nameF xs = false) := HNF.out.trans (all_not HLT.out (by rw [HX.out]; rfl))
        go_wp2
        go_ret
        exact ⟨ret_bool HF.out.symm, Ext.out⟩
      have p3' : (X == 34) = false := by simpa using p3
      by_cases p4 : X = 92
      · subst p4
        have HF : Hid (nameF xs = false) := HNF.out.trans (all_not HLT.out (by rw [HX.out]; rfl))
        go_wp2
        go_ret
        exact ⟨ret_bool HF.out.symm, Ext.out⟩
      have p4' : (X == 92) = false := by simpa using p4
      have HA2 := Lib.hid (all_take_succ HA.out HLT.out (by rw [HX.out]; unfold okN; exact decide_eq_true (by omega)))
      clear p3 p4
      go_wp2
      go_roundw
      case rel => exact ⟨k + 1, by go_num, by omega, HA2.out, (inferInstance : Ext w1 _)⟩
      case measure => simp [intOf]; omega
    · obtain rfl : k = n := by omega
      have HF : Hid (nameF xs = true) := by
        have h1 := HA.out
        rw [List.take_of_length_le (by rw [HL.out]; exact Nat.le_refl _)] at h1
        exact HNF.out.trans h1
      go_wp2
      go_ret
      exact ⟨ret_bool HF.out.symm, Ext.out⟩
end Go.Proofs.Ytobddmpiljknpaa
