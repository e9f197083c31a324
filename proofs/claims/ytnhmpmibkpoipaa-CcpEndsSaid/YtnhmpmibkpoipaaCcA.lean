/-
  ccp's options: what bits, says, deflate, compress and their twins tell. No condition.
-/
import Derived.Test.YtnhmpmibkpoipaaFind
import Derived.Test.YtnhmpmibkpoipaaFits
namespace Go.Proofs.Ytnhmpmibkpoipaa
open Go.RowKit
set_option linter.unusedVariables false
set_option linter.unusedSimpArgs false

def saysF (o : Int × List Int) : Int :=
  if o.1 = 26 ∧ o.2.length = 2 ∧ o.2.getD 0 0 % 16 = 8 ∧ o.2.getD 0 0 < 128 ∧ o.2.getD 1 0 = 0 then 8 + o.2.getD 0 0 / 16
  else if o.1 = 21 ∧ o.2.length = 1 ∧ 41 ≤ o.2.getD 0 0 ∧ o.2.getD 0 0 ≤ 47 then o.2.getD 0 0 - 32 else 0
theorem ret_num {k : IntKind} {a b : Int} (h : a = b) : Ending.returned (.int k a) = .returned (.int k b) := by rw [h]
def isD (n : Int) : Bool := decide (8 ≤ n ∧ n ≤ 15)
def isB (n : Int) : Bool := decide (9 ≤ n ∧ n ≤ 15)
theorem isD_yes {n : Int} (h : 8 ≤ n ∧ n ≤ 15) : isD n = true := by unfold isD; exact decide_eq_true h
theorem isD_no {n : Int} (h : ¬ (8 ≤ n ∧ n ≤ 15)) : isD n = false := by unfold isD; exact decide_eq_false h
theorem isB_yes {n : Int} (h : 9 ≤ n ∧ n ≤ 15) : isB n = true := by unfold isB; exact decide_eq_true h
theorem isB_no {n : Int} (h : ¬ (9 ≤ n ∧ n ≤ 15)) : isB n = false := by unfold isB; exact decide_eq_false h
theorem isD_any (n : Int) (w : World) : Calls Try.prog 71 #[.int .i64 n] w fun e w' => e = .returned (.bool (isD n)) ∧ w = w' := by
  by_cases h : 8 ≤ n ∧ n ≤ 15
  · have HI := Lib.hid (isD_yes h)
    obtain ⟨h1, h2⟩ := h
    go_enter Try.func71, Try.ntmps71
    go_wp2
    go_ret
    exact ⟨ret_bool HI.out.symm, rfl⟩
  · have HI := Lib.hid (isD_no h)
    by_cases h1 : 8 ≤ n
    · have h2 : ¬ n ≤ 15 := fun h2 => h ⟨h1, h2⟩
      clear h
      go_enter Try.func71, Try.ntmps71
      go_wp2
      go_ret
      exact ⟨ret_bool HI.out.symm, rfl⟩
    · clear h
      go_enter Try.func71, Try.ntmps71
      go_wp2
      go_ret
      exact ⟨ret_bool HI.out.symm, rfl⟩
theorem isB_any (n : Int) (w : World) : Calls Try.prog 73 #[.int .i64 n] w fun e w' => e = .returned (.bool (isB n)) ∧ w = w' := by
  by_cases h : 9 ≤ n ∧ n ≤ 15
  · have HI := Lib.hid (isB_yes h)
    obtain ⟨h1, h2⟩ := h
    go_enter Try.func73, Try.ntmps73
    go_wp2
    go_ret
    exact ⟨ret_bool HI.out.symm, rfl⟩
  · have HI := Lib.hid (isB_no h)
    by_cases h1 : 9 ≤ n
    · have h2 : ¬ n ≤ 15 := fun h2 => h ⟨h1, h2⟩
      clear h
      go_enter Try.func73, Try.ntmps73
      go_wp2
      go_ret
      exact ⟨ret_bool HI.out.symm, rfl⟩
    · clear h
      go_enter Try.func73, Try.ntmps73
      go_wp2
      go_ret
      exact ⟨ret_bool HI.out.symm, rfl⟩
theorem saysF_26 {xs : List Int} {a b : Int} (hl : xs.length = 2) (ha : xs.getD 0 0 = a) (hb : xs.getD 1 0 = b) : saysF (26, xs) = if a % 16 = 8 ∧ a < 128 ∧ b = 0 then 8 + a / 16 else 0 := by
  unfold saysF
  simp only [ha, hb, hl]
  simp
theorem saysF_21 {xs : List Int} {a : Int} (hl : xs.length = 1) (ha : xs.getD 0 0 = a) : saysF (21, xs) = if 41 ≤ a ∧ a ≤ 47 then a - 32 else 0 := by
  unfold saysF
  simp only [ha, hl]
  simp
theorem saysF_26n {xs : List Int} (hl : xs.length ≠ 2) : saysF (26, xs) = 0 := by unfold saysF; simp [hl]
theorem saysF_21n {xs : List Int} (hl : xs.length ≠ 1) : saysF (21, xs) = 0 := by unfold saysF; simp [hl]
theorem saysF_none {t : Int} {xs : List Int} (h : t ≠ 26) (h' : t ≠ 21) : saysF (t, xs) = 0 := by unfold saysF; simp [h, h']
set_option maxRecDepth 100000 in
set_option maxHeartbeats 1000000 in
theorem bits22_any (t : Int) (A : Option Addr) (n c : Nat) (xs : List Int) (hn : xs.length = n) (hb : Byt xs) (w : World) (hx : Cells w A (nums .u8 xs)) :
    Calls Try.prog 67 #[.agg #[.int .i64 t, .slice A n c]] w fun e w' => e = .returned (.int .i64 (saysF (t, xs))) ∧ Below w.heap.size w w' := by
  have Hn := Lib.hid hn
  have HB := Lib.hid hb
  have HX := Lib.hid hx
  clear hn hb hx
  by_cases h26 : t = 26
  · subst h26
    by_cases h2 : n = 2
    · subst h2
      obtain ⟨ad, rfl, hc0⟩ := (HX.out.alloc (.cells #[.int .i64 26, .slice A 2 c] 109)).num (i := 0) (by rw [Hn.out]; omega)
      have hc1 : (w.alloc (.cells #[.int .i64 26, .slice (some ad) 2 c] 109)).cell? ⟨ad.block, ad.off + 1, none⟩ = some (.int .u8 (xs.getD 1 0)) := by
        obtain ⟨ad', he, hc1⟩ := (HX.out.alloc (.cells #[.int .i64 26, .slice (some ad) 2 c] 109)).num (i := 1) (by rw [Hn.out]; omega)
        injection he with he
        subst he
        exact hc1
      have hc0' : (w.alloc (.cells #[.int .i64 26, .slice (some ad) 2 c] 109)).cell? ad = some (.int .u8 (xs.getD 0 0)) := hc0
      have b0 := HB.out.getD 0
      have b1 := HB.out.getD 1
      clear hc0
      obtain ⟨a, ha⟩ : ∃ a, xs.getD 0 0 = a := ⟨_, rfl⟩
      obtain ⟨b, hb⟩ : ∃ b, xs.getD 1 0 = b := ⟨_, rfl⟩
      rw [ha] at hc0' b0
      rw [hb] at hc1 b1
      have HS := Lib.hid (saysF_26 Hn.out ha hb)
      clear ha hb
      obtain ⟨b00, b01⟩ := b0
      obtain ⟨b10, b11⟩ := b1
      go_enter Try.func67, Try.ntmps67
      go_wp2
      all_goals
        go_ret
        refine ⟨ret_num ?_, Ext.out⟩
        rw [HS.out]
        try simp only [beq_iff_eq, beq_eq_false_iff_ne, ne_eq] at *
        split <;> omega
    · have h2' : ((n : Int) == 2) = false := by rw [beq_eq_false_iff_ne]; omega
      have HS := Lib.hid (saysF_26n (xs := xs) (by rw [Hn.out]; exact h2))
      clear h2
      go_enter Try.func67, Try.ntmps67
      go_wp2
      go_ret
      exact ⟨ret_num HS.out.symm, Ext.out⟩
  have h26' : (t == 26) = false := by simpa using h26
  by_cases h21 : t = 21
  · subst h21
    clear h26 h26'
    by_cases h1 : n = 1
    · subst h1
      obtain ⟨ad, rfl, hc0⟩ := (HX.out.alloc (.cells #[.int .i64 21, .slice A 1 c] 109)).num (i := 0) (by rw [Hn.out]; omega)
      have hc0' : (w.alloc (.cells #[.int .i64 21, .slice (some ad) 1 c] 109)).cell? ad = some (.int .u8 (xs.getD 0 0)) := hc0
      have b0 := HB.out.getD 0
      clear hc0
      obtain ⟨a, ha⟩ : ∃ a, xs.getD 0 0 = a := ⟨_, rfl⟩
      rw [ha] at hc0' b0
      have HS := Lib.hid (saysF_21 Hn.out ha)
      clear ha
      obtain ⟨b00, b01⟩ := b0
      by_cases hin : 41 ≤ a ∧ a ≤ 47
      · obtain ⟨h41, h47⟩ := hin
        have HI := Lib.hid (isB_yes (n := a % 32) (by omega))
        go_enter Try.func67, Try.ntmps67
        go_wp2_with (go_at_call 73; refine (isB_any _ _).mono ?_; rintro e w1 ⟨rfl, rfl⟩; rw [HI.out])
        all_goals
          go_ret
          refine ⟨ret_num ?_, Ext.out⟩
          rw [HS.out, if_pos (by omega)]
          all_goals omega
      · have HZ : Hid (saysF (21, xs) = 0) := by
          have h1 := HS.out
          rw [if_neg hin] at h1
          exact h1
        by_cases h32 : a / 32 = 1
        · have HI := Lib.hid (isB_no (n := a % 32) (by omega))
          clear hin
          go_enter Try.func67, Try.ntmps67
          go_wp2_with (go_at_call 73; refine (isB_any _ _).mono ?_; rintro e w1 ⟨rfl, rfl⟩; rw [HI.out])
          go_ret
          exact ⟨ret_num HZ.out.symm, Ext.out⟩
        · have h32' : (a / 32 == 1) = false := by simpa using h32
          clear hin h32
          go_enter Try.func67, Try.ntmps67
          go_wp2
          go_ret
          exact ⟨ret_num HZ.out.symm, Ext.out⟩
    · have h1' : ((n : Int) == 1) = false := by rw [beq_eq_false_iff_ne]; omega
      have HS := Lib.hid (saysF_21n (xs := xs) (by rw [Hn.out]; exact h1))
      clear h1
      go_enter Try.func67, Try.ntmps67
      go_wp2
      go_ret
      exact ⟨ret_num HS.out.symm, Ext.out⟩
  · have h21' : (t == 21) = false := by simpa using h21
    have HS := Lib.hid (saysF_none (xs := xs) h26 h21)
    clear h26 h21
    go_enter Try.func67, Try.ntmps67
    go_wp2
    go_ret
    exact ⟨ret_num HS.out.symm, Ext.out⟩
set_option maxRecDepth 100000 in
set_option maxHeartbeats 1000000 in
theorem says22_any (t : Int) (A : Option Addr) (n c : Nat) (xs : List Int) (hn : xs.length = n) (hb : Byt xs) (w : World) (hx : Cells w A (nums .u8 xs)) :
    Calls Try.prog 69 #[.agg #[.int .i64 t, .slice A n c]] w fun e w' => e = .returned (.int .i64 (saysF (t, xs))) ∧ Below w.heap.size w w' := by
  have Hn := Lib.hid hn
  have HB := Lib.hid hb
  have HX := Lib.hid hx
  clear hn hb hx
  by_cases h26 : t = 26
  · subst h26
    by_cases h2 : n = 2
    · subst h2
      obtain ⟨ad, rfl, hc0⟩ := (HX.out.alloc (.cells #[.int .i64 26, .slice A 2 c] 109)).num (i := 0) (by rw [Hn.out]; omega)
      have hc1 : (w.alloc (.cells #[.int .i64 26, .slice (some ad) 2 c] 109)).cell? ⟨ad.block, ad.off + 1, none⟩ = some (.int .u8 (xs.getD 1 0)) := by
        obtain ⟨ad', he, hc1⟩ := (HX.out.alloc (.cells #[.int .i64 26, .slice (some ad) 2 c] 109)).num (i := 1) (by rw [Hn.out]; omega)
        injection he with he
        subst he
        exact hc1
      have hc0' : (w.alloc (.cells #[.int .i64 26, .slice (some ad) 2 c] 109)).cell? ad = some (.int .u8 (xs.getD 0 0)) := hc0
      have b0 := HB.out.getD 0
      have b1 := HB.out.getD 1
      clear hc0
      obtain ⟨a, ha⟩ : ∃ a, xs.getD 0 0 = a := ⟨_, rfl⟩
      obtain ⟨b, hb⟩ : ∃ b, xs.getD 1 0 = b := ⟨_, rfl⟩
      rw [ha] at hc0' b0
      rw [hb] at hc1 b1
      have HS := Lib.hid (saysF_26 Hn.out ha hb)
      clear ha hb
      obtain ⟨b00, b01⟩ := b0
      obtain ⟨b10, b11⟩ := b1
      go_enter Try.func69, Try.ntmps69
      go_wp2
      all_goals
        go_ret
        refine ⟨ret_num ?_, Ext.out⟩
        rw [HS.out]
        try simp only [beq_iff_eq, beq_eq_false_iff_ne, ne_eq] at *
        split <;> omega
    · have h2' : ((n : Int) == 2) = false := by rw [beq_eq_false_iff_ne]; omega
      have HS := Lib.hid (saysF_26n (xs := xs) (by rw [Hn.out]; exact h2))
      clear h2
      go_enter Try.func69, Try.ntmps69
      go_wp2
      go_ret
      exact ⟨ret_num HS.out.symm, Ext.out⟩
  have h26' : (t == 26) = false := by simpa using h26
  by_cases h21 : t = 21
  · subst h21
    clear h26 h26'
    by_cases h1 : n = 1
    · subst h1
      obtain ⟨ad, rfl, hc0⟩ := (HX.out.alloc (.cells #[.int .i64 21, .slice A 1 c] 109)).num (i := 0) (by rw [Hn.out]; omega)
      have hc0' : (w.alloc (.cells #[.int .i64 21, .slice (some ad) 1 c] 109)).cell? ad = some (.int .u8 (xs.getD 0 0)) := hc0
      have b0 := HB.out.getD 0
      clear hc0
      obtain ⟨a, ha⟩ : ∃ a, xs.getD 0 0 = a := ⟨_, rfl⟩
      rw [ha] at hc0' b0
      have HS := Lib.hid (saysF_21 Hn.out ha)
      clear ha
      obtain ⟨b00, b01⟩ := b0
      by_cases hin : 41 ≤ a ∧ a ≤ 47
      · obtain ⟨h41, h47⟩ := hin
        have HI := Lib.hid (isB_yes (n := a % 32) (by omega))
        go_enter Try.func69, Try.ntmps69
        go_wp2_with fail
        all_goals
          go_ret
          refine ⟨ret_num ?_, Ext.out⟩
          rw [HS.out, if_pos (by omega)]
          all_goals omega
      · have HZ : Hid (saysF (21, xs) = 0) := by
          have h1 := HS.out
          rw [if_neg hin] at h1
          exact h1
        by_cases h41 : 41 ≤ a
        · have h47 : ¬ a ≤ 47 := fun h => hin ⟨h41, h⟩
          clear hin
          go_enter Try.func69, Try.ntmps69
          go_wp2
          go_ret
          exact ⟨ret_num HZ.out.symm, Ext.out⟩
        · clear hin
          go_enter Try.func69, Try.ntmps69
          go_wp2
          go_ret
          exact ⟨ret_num HZ.out.symm, Ext.out⟩
    · have h1' : ((n : Int) == 1) = false := by rw [beq_eq_false_iff_ne]; omega
      have HS := Lib.hid (saysF_21n (xs := xs) (by rw [Hn.out]; exact h1))
      clear h1
      go_enter Try.func69, Try.ntmps69
      go_wp2
      go_ret
      exact ⟨ret_num HS.out.symm, Ext.out⟩
  · have h21' : (t == 21) = false := by simpa using h21
    have HS := Lib.hid (saysF_none (xs := xs) h26 h21)
    clear h26 h21
    go_enter Try.func69, Try.ntmps69
    go_wp2
    go_ret
    exact ⟨ret_num HS.out.symm, Ext.out⟩
end Go.Proofs.Ytnhmpmibkpoipaa
