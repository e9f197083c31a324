/-
  ipv6cp's and the reference's numbers. No condition.
-/
import Derived.Test.YtmopdimokoogmaaOptW
import Derived.ScopeJumps
namespace Go.Proofs.Ytmopdimokoogmaa
open Go.RowKit
set_option linter.unusedVariables false
set_option linter.unusedSimpArgs false

def inc64 (d : Int) : Int := (d + 1) % 18446744073709551616
def bad64 (m d : Int) : Bool := d == 0 || d == m
def givF (d m : Int) : Int := if bad64 m d then (if bad64 m (inc64 d) then inc64 (inc64 d) else inc64 d) else d
def giv64 (d : Int) : Prop := 0 ≤ d ∧ d < 18446744073709551616
theorem inc64_wrap (d : Int) : inc64 d = IntKind.u64.wrap (d + 1) := by rw [IntKind.wrap_u64]; rfl
theorem giv64_inc (d : Int) : giv64 (inc64 d) := by unfold giv64 inc64; omega
theorem bad64_iff {m d : Int} : bad64 m d = true ↔ d = 0 ∨ d = m := by simp [bad64]
theorem bad64_no {m d : Int} : bad64 m d = false ↔ ¬ (d = 0 ∨ d = m) := by rw [← bad64_iff]; simp
def cnt64 (m d : Int) : Nat := if bad64 m d then (if bad64 m (inc64 d) then 2 else 1) else 0
theorem thrice {m d : Int} (hd : giv64 d) (hm : giv64 m) (h1 : bad64 m d = true) (h2 : bad64 m (inc64 d) = true) : bad64 m (inc64 (inc64 d)) = false := by
  rw [bad64_iff] at h1 h2
  rw [bad64_no]
  unfold giv64 at hd hm
  unfold inc64 at *
  omega
theorem cnt64_inc {m d : Int} (hd : giv64 d) (hm : giv64 m) (h1 : bad64 m d = true) : cnt64 m (inc64 d) < cnt64 m d := by
  unfold cnt64
  rw [if_pos h1]
  rcases h2 : bad64 m (inc64 d) with _ | _
  · simp
  · rw [thrice hd hm h1 h2]
    simp
theorem givF_inc {m d : Int} (hd : giv64 d) (hm : giv64 m) (h1 : bad64 m d = true) : givF (inc64 d) m = givF d m := by
  unfold givF
  rw [if_pos h1]
  rcases h2 : bad64 m (inc64 d) with _ | _
  · simp
  · rw [thrice hd hm h1 h2]
    simp
theorem givF_done {m d : Int} (h1 : bad64 m d = false) : givF d m = d := by unfold givF; rw [h1]; simp
theorem givF_good {m d : Int} (hd : giv64 d) (hm : giv64 m) : giv64 (givF d m) ∧ givF d m ≠ 0 ∧ givF d m ≠ m := by
  unfold givF
  rcases h1 : bad64 m d with _ | _
  · have h1' := bad64_no.1 h1
    simp only [Bool.false_eq_true, if_false]
    exact ⟨hd, fun h => h1' (.inl h), fun h => h1' (.inr h)⟩
  rcases h2 : bad64 m (inc64 d) with _ | _
  · have h2' := bad64_no.1 h2
    simp only [Bool.false_eq_true, if_false, if_true]
    exact ⟨giv64_inc _, fun h => h2' (.inl h), fun h => h2' (.inr h)⟩
  · have h3 := bad64_no.1 (thrice hd hm h1 h2)
    simp only [if_true]
    exact ⟨giv64_inc _, fun h => h3 (.inl h), fun h => h3 (.inr h)⟩
theorem ret_num {k : IntKind} {a b : Int} (h : a = b) : Ending.returned (.int k a) = .returned (.int k b) := by rw [h]
def GivRel (m D d : Int) : Prop := giv64 d ∧ givF d m = D
set_option maxHeartbeats 1000000 in
theorem rgiven_any (d m : Int) (h0 : 0 ≤ d) (h0' : d < 18446744073709551616) (h1 : 0 ≤ m) (h1' : m < 18446744073709551616) (w : World) :
    Calls Try.prog 39 #[.int .u64 d, .int .u64 m] w fun e w' => e = .returned (.int .u64 (givF d m)) ∧ w = w' := by
  have HM : Hid (giv64 m) := ⟨h1, h1'⟩
  obtain ⟨D, hD⟩ : ∃ D, givF d m = D := ⟨_, rfl⟩
  have HD0 : Hid (GivRel m D d) := ⟨⟨h0, h0'⟩, hD⟩
  rw [hD]
  clear hD h0 h0'
  go_enter Try.func39, Try.ntmps39
  go_wp2
  go_loop [0] (fun x => ∃ d : Int, x = .int .u64 d ∧ 0 ≤ d ∧ d < 18446744073709551616 ∧ Hid (GivRel m D d)) (fun x => cnt64 m (intOf x))
  case atStart => exact ⟨d, rfl, HD0.out.1.1, HD0.out.1.2, HD0.out⟩
  case round =>
    clear HD0 d
    obtain ⟨d, rfl, hd0, hd1, HR⟩ := hrel
    rcases hbd : bad64 m d with _ | _
    · have hb2 := bad64_no.1 hbd
      have hz : (d == 0) = false := by simpa using fun h => hb2 (.inl h)
      have hm2 : (d == m) = false := by simpa using fun h => hb2 (.inr h)
      have HD := Lib.hid (givF_done hbd)
      clear hbd hb2
      go_wp2
      go_ret
      exact ⟨ret_num (by rw [← HR.out.2, HD.out]), rfl⟩
    · have HC := Lib.hid (cnt64_inc HR.out.1 HM.out hbd)
      have HI := Lib.hid (givF_inc HR.out.1 HM.out hbd)
      have hb2 := bad64_iff.1 hbd
      have HS : Hid (giv64 (inc64 d)) := giv64_inc d
      by_cases hz0 : d = 0
      · subst hz0
        clear hbd hb2
        go_wp2
        go_round
        case rel => first | exact ⟨inc64 0, rfl, HS.out.1, HS.out.2, HS.out, by rw [HI.out]; exact HR.out.2⟩ | exact ⟨inc64 m, by rw [inc64_wrap], HS.out.1, HS.out.2, HS.out, by rw [HI.out]; exact HR.out.2⟩
        case measure => first | exact HC.out | (have hc := HC.out; rw [inc64_wrap] at hc; exact hc)
      · have hdm : m = d := by omega
        subst hdm
        have hz : (m == 0) = false := by simpa using hz0
        clear hbd hb2 hz0
        go_wp2
        go_round
        case rel => first | exact ⟨inc64 0, rfl, HS.out.1, HS.out.2, HS.out, by rw [HI.out]; exact HR.out.2⟩ | exact ⟨inc64 m, by rw [inc64_wrap], HS.out.1, HS.out.2, HS.out, by rw [HI.out]; exact HR.out.2⟩
        case measure => first | exact HC.out | (have hc := HC.out; rw [inc64_wrap] at hc; exact hc)
set_option maxHeartbeats 1000000 in
theorem given_any (d m : Int) (h0 : 0 ≤ d) (h0' : d < 18446744073709551616) (h1 : 0 ≤ m) (h1' : m < 18446744073709551616) (w : World) :
    Calls Try.prog 38 #[.int .u64 d, .int .u64 m] w fun e w' => e = .returned (.int .u64 (givF d m)) ∧ w = w' := by
  have HM : Hid (giv64 m) := ⟨h1, h1'⟩
  obtain ⟨D, hD⟩ : ∃ D, givF d m = D := ⟨_, rfl⟩
  have HR : Hid (GivRel m D d) := ⟨⟨h0, h0'⟩, hD⟩
  rw [hD]
  clear hD
  go_enter Try.func38, Try.ntmps38
  go_wp2
  refine wp_scope_jumps 0 (fun a' w' => w = w' ∧ ∃ (y : Int) (u6 u7 u8 u9 u10 u11 u12 u13 u14 u15 u16 : Value), a' = { tmps := #[.int .u64 d, .int .u64 m, undef, undef, .int .u64 0, .int .u64 y, u6, u7, u8, u9, u10, u11, u12, u13, u14, u15, u16], defers := [] } ∧ 0 ≤ y ∧ y < 18446744073709551616 ∧ Hid (GivRel m D y)) (fun a' _ => cnt64 m (intOf (a'.tmps.getD 5 undef))) rfl ?_ ?_
  · go_wp2
    go_step3
    rcases hbd : bad64 m d with _ | _
    · have hb2 := bad64_no.1 hbd
      have hz : (d == 0) = false := by simpa using fun h => hb2 (.inl h)
      have hm2 : (d == m) = false := by simpa using fun h => hb2 (.inr h)
      have HD := Lib.hid (givF_done hbd)
      clear hbd hb2
      go_wp2
      simp only [Exit.jump]
      go_ret
      exact ⟨ret_num (by rw [← HR.out.2, HD.out]), rfl⟩
    · have HC := Lib.hid (cnt64_inc HR.out.1 HM.out hbd)
      have HI := Lib.hid (givF_inc HR.out.1 HM.out hbd)
      have hb2 := bad64_iff.1 hbd
      have HS : Hid (giv64 (inc64 d)) := giv64_inc d
      by_cases hz0 : d = 0
      · subst hz0
        clear hbd hb2
        go_wp2
        go_step3
        first
          | exact ⟨rfl, rfl, inc64 0, _, _, _, _, _, _, _, _, _, _, _, by first | rfl | (rw [inc64_wrap]), HS.out.1, HS.out.2, HS.out, by rw [HI.out]; exact HR.out.2⟩
          | exact ⟨rfl, ⟨rfl, inc64 0, _, _, _, _, _, _, _, _, _, _, _, by first | rfl | (rw [inc64_wrap]), HS.out.1, HS.out.2, HS.out, by rw [HI.out]; exact HR.out.2⟩, by first | exact HC.out | (have hc := HC.out; rw [inc64_wrap] at hc; exact hc)⟩
      · have hdm : m = d := by omega
        subst hdm
        have hz : (m == 0) = false := by simpa using hz0
        clear hbd hb2 hz0
        go_wp2
        go_step3
        first
          | exact ⟨rfl, rfl, inc64 m, _, _, _, _, _, _, _, _, _, _, _, by first | rfl | (rw [inc64_wrap]), HS.out.1, HS.out.2, HS.out, by rw [HI.out]; exact HR.out.2⟩
          | exact ⟨rfl, ⟨rfl, inc64 m, _, _, _, _, _, _, _, _, _, _, _, by first | rfl | (rw [inc64_wrap]), HS.out.1, HS.out.2, HS.out, by rw [HI.out]; exact HR.out.2⟩, by first | exact HC.out | (have hc := HC.out; rw [inc64_wrap] at hc; exact hc)⟩
  · clear HR
    rintro a' w' ⟨rfl, y, u6, u7, u8, u9, u10, u11, u12, u13, u14, u15, u16, rfl, hy0, hy1, HR⟩
    rcases hbd : bad64 m y with _ | _
    · have hb2 := bad64_no.1 hbd
      have hz : (y == 0) = false := by simpa using fun h => hb2 (.inl h)
      have hm2 : (y == m) = false := by simpa using fun h => hb2 (.inr h)
      have HD := Lib.hid (givF_done hbd)
      clear hbd hb2
      go_wp2
      simp only [Exit.jump]
      go_ret
      exact ⟨ret_num (by rw [← HR.out.2, HD.out]), rfl⟩
    · have HC := Lib.hid (cnt64_inc HR.out.1 HM.out hbd)
      have HI := Lib.hid (givF_inc HR.out.1 HM.out hbd)
      have hb2 := bad64_iff.1 hbd
      have HS : Hid (giv64 (inc64 y)) := giv64_inc y
      by_cases hz0 : y = 0
      · subst hz0
        clear hbd hb2
        go_wp2
        go_step3
        first
          | exact ⟨rfl, rfl, inc64 0, _, _, _, _, _, _, _, _, _, _, _, by first | rfl | (rw [inc64_wrap]), HS.out.1, HS.out.2, HS.out, by rw [HI.out]; exact HR.out.2⟩
          | exact ⟨rfl, ⟨rfl, inc64 0, _, _, _, _, _, _, _, _, _, _, _, by first | rfl | (rw [inc64_wrap]), HS.out.1, HS.out.2, HS.out, by rw [HI.out]; exact HR.out.2⟩, by first | exact HC.out | (have hc := HC.out; rw [inc64_wrap] at hc; exact hc)⟩
      · have hdm : m = y := by omega
        subst hdm
        have hz : (m == 0) = false := by simpa using hz0
        clear hbd hb2 hz0
        go_wp2
        go_step3
        first
          | exact ⟨rfl, rfl, inc64 m, _, _, _, _, _, _, _, _, _, _, _, by first | rfl | (rw [inc64_wrap]), HS.out.1, HS.out.2, HS.out, by rw [HI.out]; exact HR.out.2⟩
          | exact ⟨rfl, ⟨rfl, inc64 m, _, _, _, _, _, _, _, _, _, _, _, by first | rfl | (rw [inc64_wrap]), HS.out.1, HS.out.2, HS.out, by rw [HI.out]; exact HR.out.2⟩, by first | exact HC.out | (have hc := HC.out; rw [inc64_wrap] at hc; exact hc)⟩
end Go.Proofs.Ytmopdimokoogmaa
