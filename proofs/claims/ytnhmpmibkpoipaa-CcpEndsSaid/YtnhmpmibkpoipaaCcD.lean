/-
  ccp: proto, Bytes. Conditions: the frame's data are no longer than the model's memory.
-/
import Derived.Test.YtnhmpmibkpoipaaCcA
import Derived.Test.YtnhmpmibkpoipaaOpts
namespace Go.Proofs.Ytnhmpmibkpoipaa
open Go.RowKit
set_option linter.unusedVariables false
set_option linter.unusedSimpArgs false

def protoB (n : Int) : Bool := decide (1 ≤ n ∧ n ≤ 65535 ∧ n % 2 = 1 ∧ n / 256 % 2 = 0)
theorem and1 {x : Int} (h : 0 ≤ x) (h' : x ≤ 9223372036854775807) : bits .and .i64 x 1 = x % 2 :=
  bits_mask .i64 63 (by decide) wrap64 1 (by decide) x h (by omega)
theorem proto22_any (n : Int) (h0 : -9223372036854775808 ≤ n) (h1 : n ≤ 9223372036854775807) (w : World) : Calls Try.prog 65 #[.int .i64 n] w fun e w' => e = .returned (.bool (protoB n)) ∧ w = w' := by
  go_enter Try.func65, Try.ntmps65
  go_wp2
  all_goals
    go_ret
    refine ⟨ret_bool ?_, rfl⟩
    unfold protoB
    rw [Bool.eq_iff_iff]
    have e1 : 0 ≤ n → bits .and .i64 n 1 = n % 2 := fun h => and1 h h1
    have e2 : 0 ≤ n → bits .and .i64 (n / 256) 1 = n / 256 % 2 := fun h => and1 (by omega) (by omega)
    simp only [beq_iff_eq, beq_eq_false_iff_ne, ne_eq, decide_eq_true_eq, Bool.false_eq_true, false_iff, iff_false] at *
    omega
theorem rproto22_any (n : Int) (h0 : -9223372036854775808 ≤ n) (h1 : n ≤ 9223372036854775807) (w : World) : Calls Try.prog 66 #[.int .i64 n] w fun e w' => e = .returned (.bool (protoB n)) ∧ w = w' := by
  go_enter Try.func66, Try.ntmps66
  go_wp2
  all_goals
    go_ret
    refine ⟨ret_bool ?_, rfl⟩
    unfold protoB
    rw [Bool.eq_iff_iff]
    have e1 : 0 ≤ n → bits .and .i64 n 1 = n % 2 := fun h => and1 h h1
    have e2 : 0 ≤ n → bits .and .i64 (n / 256) 1 = n / 256 % 2 := fun h => and1 (by omega) (by omega)
    simp only [beq_iff_eq, beq_eq_false_iff_ne, ne_eq, decide_eq_true_eq, Bool.false_eq_true, false_iff, iff_false] at *
    omega

def bytesE22 (p : Int) (xs : List Int) : Int := if protoB p = false then 30 else if 16384 < xs.length then 4 else 0
def bytesL22 (p : Int) (xs : List Int) : List Int := if bytesE22 p xs = 0 then (if 255 < p then [p / 256] else []) ++ [p % 256] ++ xs else []
theorem bytesE_proto {p : Int} {xs : List Int} (h : protoB p = false) : bytesE22 p xs = 30 ∧ bytesL22 p xs = [] := by
  have h1 : bytesE22 p xs = 30 := by unfold bytesE22; rw [if_pos h]
  exact ⟨h1, by unfold bytesL22; rw [h1]; rfl⟩
theorem bytesE_size {p : Int} {xs : List Int} (h : protoB p = true) (hl : 16384 < xs.length) : bytesE22 p xs = 4 ∧ bytesL22 p xs = [] := by
  have h1 : bytesE22 p xs = 4 := by unfold bytesE22; rw [if_neg (by simp [h]), if_pos hl]
  exact ⟨h1, by unfold bytesL22; rw [h1]; rfl⟩
theorem bytesE_ok22 {p : Int} {xs : List Int} (h : protoB p = true) (hl : ¬ 16384 < xs.length) : bytesE22 p xs = 0 ∧ bytesL22 p xs = (if 255 < p then [p / 256] else []) ++ [p % 256] ++ xs := by
  have h1 : bytesE22 p xs = 0 := by unfold bytesE22; rw [if_neg (by simp [h]), if_neg hl]
  exact ⟨h1, by unfold bytesL22; rw [if_pos h1]⟩
def BytesTells22 (p : Int) (xs : List Int) (w : World) (e : Ending) (w' : World) : Prop :=
  ∃ A n c, e = .returned (.tuple #[.slice A n c, .int .i64 (bytesE22 p xs)]) ∧ (bytesL22 p xs).length = n ∧ w'.ownsRow w.heap.size 5 1 (.slice A n c) n (nums .u8 (bytesL22 p xs)) ∧ Below w.heap.size w w'
theorem protoB_bds {p : Int} (h : protoB p = true) : 1 ≤ p ∧ p ≤ 65535 := by
  unfold protoB at h
  have := of_decide_eq_true h
  omega
set_option maxRecDepth 100000 in
set_option maxHeartbeats 4000000 in
theorem bytes22_any (p : Int) (A : Option Addr) (n c : Nat) (xs : List Int) (h0 : -9223372036854775808 ≤ p) (h1 : p ≤ 9223372036854775807) (hn : xs.length = n) (hn' : n ≤ 140737488351232) (w : World) (hx : Cells w A (nums .u8 xs)) :
    Calls Try.prog 14 #[.agg #[.int .i64 p, .slice A n c]] w (BytesTells22 p xs w) := by
  have Hn := Lib.hid hn
  have HX := Lib.hid hx
  clear hn hx
  rcases hp : protoB p with _ | _
  · have HP := Lib.hid hp
    obtain ⟨e1, e2⟩ := bytesE_proto (xs := xs) hp
    have HE := Lib.hid e1
    have HL := Lib.hid e2
    clear hp e1 e2
    go_enter Try.func14, Try.ntmps14
    go_wp2_with fail
    refine (proto22_any p h0 h1 _).mono ?_
    rintro e w0 ⟨rfl, rfl⟩
    rw [HP.out]
    go_wp2
    go_ret2
    exact ⟨none, 0, 0, by rw [HE.out]; rfl, by rw [HL.out]; rfl, by rw [HL.out]; exact own_nil _ _ _ _, Ext.out⟩
  · have HP := Lib.hid hp
    obtain ⟨hp1, hp2⟩ := protoB_bds hp
    by_cases hs : 16384 < n
    · obtain ⟨e1, e2⟩ := bytesE_size hp (xs := xs) (by rw [Hn.out]; exact hs)
      have HE := Lib.hid e1
      have HL := Lib.hid e2
      have hs' : (16384 : Int) < (n : Int) := by omega
      clear hp e1 e2
      go_enter Try.func14, Try.ntmps14
      go_wp2_with fail
      refine (proto22_any p h0 h1 _).mono ?_
      rintro e w0 ⟨rfl, rfl⟩
      rw [HP.out]
      go_wp2
      go_ret2
      exact ⟨none, 0, 0, by rw [HE.out]; rfl, by rw [HL.out]; rfl, by rw [HL.out]; exact own_nil _ _ _ _, Ext.out⟩
    · obtain ⟨e1, e2⟩ := bytesE_ok22 hp (xs := xs) (by rw [Hn.out]; exact hs)
      have HE := Lib.hid e1
      have hs' : ¬ (16384 : Int) < (n : Int) := by omega
      by_cases hq : 255 < p
      · rw [if_pos hq] at e2
        have HL := Lib.hid e2
        clear hp e1 e2
        go_enter Try.func14, Try.ntmps14
        go_wp2_with fail
        refine (proto22_any p h0 h1 _).mono ?_
        rintro e w0 ⟨rfl, rfl⟩
        rw [HP.out]
        have hqq : p / 256 % 256 = p / 256 := by omega
        have HQ := Lib.hid hqq
        clear hqq
        go_wp2_with
          (at_builtin
           refine wp_append_box2 (w0 := (w.alloc (.cells #[.int .i64 p, .slice A n c] 24))) (w.heap.size + 1) (by simp) (w.alloc (.cells #[.int .i64 p, .slice A n c] 24)).heap.size rfl (.tmp 18) (.tmp 23) 22 5 (.int .u8 0) 1 1 1 rfl Try.underlying22 info_u8 rfl (by decide) (by decide) (.slice none 0 0) 0 [] [.int .u8 (p / 256)] rfl rfl rfl (one_int _ _) (own_nil _ _ _ _) Ext.out Ext.out.size (by omega) ?_
           intro v3 w3 ho3 hb3 hg3 hat3
           obtain ⟨A3, c3, rfl, hc3⟩ := own_slice ho3
           have X3 : Ext (w.alloc (.cells #[.int .i64 p, .slice A n c] 24)) w3 := ⟨hb3⟩
           have Y3 : Ext w w3 := Ext.trans_ inferInstance X3
           have hbx : w3.cell? ⟨w.heap.size, 0, none⟩ = some (.int .i64 p) := cell_ext (at_cell (at_new w (.cells #[.int .i64 p, .slice A n c] 24)) 0)
           have hbx1 : w3.cell? ⟨w.heap.size, 1, none⟩ = some (.slice A n c) := cell_ext (at_cell (at_new w (.cells #[.int .i64 p, .slice A n c] 24)) 1)
           have hbx2 : ∀ o, (w3.alloc o).cell? ⟨w.heap.size, 1, none⟩ = some (.slice A n c) := fun o => cell_ext hbx1
           have hbx3 : ∀ o, (w3.drew.alloc o).cell? ⟨w.heap.size, 1, none⟩ = some (.slice A n c) := fun o => cell_ext hbx1
           have HO3 : Hid (w3.ownsRow (w.alloc (.cells #[.int .i64 p, .slice A n c] 24)).heap.size 5 1 (.slice A3 1 c3) 1 (nums .u8 [p / 256])) := ho3
           clear hat3)
        go_region_law
          (first
           | (refine step_append (w.alloc (.cells #[.int .i64 p, .slice A n c] 24)).heap.size rfl (.tmp 25) (.tmp 29) 22 5 (.int .u8 0) 1 1 rfl Try.underlying22 info_u8 rfl (by decide) (by decide) (.slice A3 1 c3) 1 (nums .u8 [p / 256]) _ 1 1 [.int .u8 (IntKind.u8.wrap p)] rfl rfl rfl ?d1 ?d0 ?d2 ?d3 ?d4 ?_
              (case d1 => exact one_int _ _)
              (case d0 => exact (own_ext HO3.out))
              (case d2 => exact cells_box _ _ (by simp) [.int .u8 (IntKind.u8.wrap p)] _)
              (case d3 => exact size_ext (w := (w.alloc (.cells #[.int .i64 p, .slice A n c] 24))))
              (case d4 => omega)
              intro v1 w1 ho1 hg1 hat1
              have X1 : Ext (w.alloc (.cells #[.int .i64 p, .slice A n c] 24)) w1 := ⟨below_grown (Ext.out (w := (w.alloc (.cells #[.int .i64 p, .slice A n c] 24)))) (size_ext (w := (w.alloc (.cells #[.int .i64 p, .slice A n c] 24)))) hg1 (own_base HO3.out)⟩
              have HX1 := Lib.hid X1
              have Y1 : Ext w w1 := Ext.trans_ inferInstance X1
              obtain ⟨A1, c1, rfl, hc1⟩ := own_slice ho1
              rw [IntKind.wrap_u8] at ho1
              have HO1 := Lib.hid ho1
              have HC1 := Lib.hid (HX.out.ext (w' := w1))
              have hbox : w1.cell? ⟨w.heap.size, 1, none⟩ = some (.slice A n c) := hg1.cell (cell_ext hbx1) (by intro he; have h9 := own_base HO3.out _ he.symm; simp at h9; omega)
              clear ho1 hg1 hat1 hc1)
           | (refine step_append (w.alloc (.cells #[.int .i64 p, .slice A n c] 24)).heap.size rfl (.tmp 30) (.tmp 32) 22 5 (.int .u8 0) 1 1 rfl Try.underlying22 info_u8 rfl (by decide) (by decide) (.slice A1 2 c1) 2 (nums .u8 [p / 256] ++ [.int .u8 (p % 256)]) A n c (nums .u8 xs) rfl rfl ?f5 ?f1 ?f0 ?f2 ?f3 ?f4 ?_
              (case f5 => rw [nums_length, Hn.out, Nat.mul_one])
              (case f1 => exact nums_one _ _)
              (case f0 => exact HO1.out)
              (case f2 => exact HC1.out)
              (case f3 => exact size_ext (w := (w.alloc (.cells #[.int .i64 p, .slice A n c] 24))))
              (case f4 => omega)
              intro v2 w2 ho2 hg2 hat2
              have X2 : Ext (w.alloc (.cells #[.int .i64 p, .slice A n c] 24)) w2 := ⟨below_grown (Ext.out (w := (w.alloc (.cells #[.int .i64 p, .slice A n c] 24)))) (size_ext (w := (w.alloc (.cells #[.int .i64 p, .slice A n c] 24)))) hg2 (own_base HO1.out)⟩
              have Y2 : Ext w w2 := Ext.trans_ inferInstance X2
              obtain ⟨A2, c2, rfl, hc2⟩ := own_slice ho2
              have HO2 := Lib.hid (own_weaken (base' := w.heap.size) ho2 (by simp))
              clear ho2 hg2 hat2 hc2))
        all_goals
          go_wp2
          go_ret2
          exact ⟨A2, 2 + n, c2, by rw [HE.out]; rfl, by rw [HL.out]; simp [Hn.out]; omega, by rw [HL.out]; exact HO2.out, Ext.out⟩
      · rw [if_neg hq] at e2
        have HL := Lib.hid e2
        clear hp e1 e2
        go_enter Try.func14, Try.ntmps14
        go_wp2_with fail
        refine (proto22_any p h0 h1 _).mono ?_
        rintro e w0 ⟨rfl, rfl⟩
        rw [HP.out]
        go_wp2
        go_region_law
          (first
           | (refine step_append (w.alloc (.cells #[.int .i64 p, .slice A n c] 24)).heap.size rfl (.tmp 25) (.tmp 29) 22 5 (.int .u8 0) 1 1 rfl Try.underlying22 info_u8 rfl (by decide) (by decide) (.slice none 0 0) 0 (nums .u8 []) _ 1 1 [.int .u8 (IntKind.u8.wrap p)] rfl rfl rfl ?d1 ?d0 ?d2 ?d3 ?d4 ?_
              (case d1 => exact one_int _ _)
              (case d0 => exact (own_nil _ _ _ _))
              (case d2 => exact cells_box _ _ (by simp) [.int .u8 (IntKind.u8.wrap p)] _)
              (case d3 => exact size_ext (w := (w.alloc (.cells #[.int .i64 p, .slice A n c] 24))))
              (case d4 => omega)
              intro v1 w1 ho1 hg1 hat1
              have X1 : Ext (w.alloc (.cells #[.int .i64 p, .slice A n c] 24)) w1 := ⟨below_grown (Ext.out (w := (w.alloc (.cells #[.int .i64 p, .slice A n c] 24)))) (size_ext (w := (w.alloc (.cells #[.int .i64 p, .slice A n c] 24)))) hg1 (fun k hk => by cases hk)⟩
              have HX1 := Lib.hid X1
              have Y1 : Ext w w1 := Ext.trans_ inferInstance X1
              obtain ⟨A1, c1, rfl, hc1⟩ := own_slice ho1
              rw [IntKind.wrap_u8] at ho1
              have HO1 := Lib.hid ho1
              have HC1 := Lib.hid (HX.out.ext (w' := w1))
              have hbox : w1.cell? ⟨w.heap.size, 1, none⟩ = some (.slice A n c) := hg1.cell (at_cell (at_ext (at_new w (.cells #[.int .i64 p, .slice A n c] 24))) 1) (by simp [Value.ownBlock])
              clear ho1 hg1 hat1 hc1)
           | (refine step_append (w.alloc (.cells #[.int .i64 p, .slice A n c] 24)).heap.size rfl (.tmp 30) (.tmp 32) 22 5 (.int .u8 0) 1 1 rfl Try.underlying22 info_u8 rfl (by decide) (by decide) (.slice A1 1 c1) 1 (nums .u8 [] ++ [.int .u8 (p % 256)]) A n c (nums .u8 xs) rfl rfl ?f5 ?f1 ?f0 ?f2 ?f3 ?f4 ?_
              (case f5 => rw [nums_length, Hn.out, Nat.mul_one])
              (case f1 => exact nums_one _ _)
              (case f0 => exact HO1.out)
              (case f2 => exact HC1.out)
              (case f3 => exact size_ext (w := (w.alloc (.cells #[.int .i64 p, .slice A n c] 24))))
              (case f4 => omega)
              intro v2 w2 ho2 hg2 hat2
              have X2 : Ext (w.alloc (.cells #[.int .i64 p, .slice A n c] 24)) w2 := ⟨below_grown (Ext.out (w := (w.alloc (.cells #[.int .i64 p, .slice A n c] 24)))) (size_ext (w := (w.alloc (.cells #[.int .i64 p, .slice A n c] 24)))) hg2 (own_base HO1.out)⟩
              have Y2 : Ext w w2 := Ext.trans_ inferInstance X2
              obtain ⟨A2, c2, rfl, hc2⟩ := own_slice ho2
              have HO2 := Lib.hid (own_weaken (base' := w.heap.size) ho2 (by simp))
              clear ho2 hg2 hat2 hc2))
        all_goals
          go_wp2
          go_ret2
          exact ⟨A2, 1 + n, c2, by rw [HE.out]; rfl, by rw [HL.out]; simp [Hn.out]; omega, by rw [HL.out]; exact HO2.out, Ext.out⟩
end Go.Proofs.Ytnhmpmibkpoipaa
