/-
  lcp.Judge's closure 'borne'. No condition.
-/
import Derived.Test.YtodibldfolognaaLcC
import Derived.Test.YtodibldfolognaaConf
namespace Go.Proofs.Ytodibldfolognaa
open Go.RowKit
set_option linter.unusedVariables false
set_option linter.unusedSimpArgs false

/-- What a configuration is held against: how many methods are borne, what is borne. -/
structure LC where
  an : Nat
  pf : Bool
  af : Bool
  mg : Bool
def lborneF (c : LC) (t : Int) (vn : Nat) : Bool :=
  if lsize t = -1 ∨ (0 ≤ lsize t ∧ lsize t ≠ vn) ∨ (lsize t = -2 ∧ vn < 2) then false
  else if t = 7 then c.pf else if t = 8 then c.af else if t = 5 then c.mg else if t = 3 then decide (0 < c.an) else true
structure LConf (cf : Array Value) (c : LC) (AA : Option Addr) (ac : Nat) : Prop where
  acc : cf[3]? = some (.slice AA c.an ac)
  pf : cf[6]? = some (.bool c.pf)
  af : cf[7]? = some (.bool c.af)
  mg : cf[8]? = some (.bool c.mg)
set_option maxRecDepth 100000 in
set_option maxHeartbeats 4000000 in
theorem lborne_any (cf : Array Value) (an : Nat) (pf af mg : Bool) (AA : Option Addr) (ac Bc : Nat) (t : Int) (VA : Option Addr) (vn vc : Nat) (hL : LConf cf ⟨an, pf, af, mg⟩ AA ac) (w : World) (hC : w.heap[Bc]? = some (.cells cf 25 (0, 0))) :
    Calls Try.prog 78 #[.agg #[.int .i64 t, .slice VA vn vc], .pointer (some ⟨Bc, 0, none⟩)] w fun e w' => e = .returned (.bool (lborneF ⟨an, pf, af, mg⟩ t vn)) ∧ Below w.heap.size w w' := by
  have HL := Lib.hid hL
  have HC := Lib.hid hC
  clear hL hC
  by_cases h1 : t = 1
  · subst h1
    by_cases hv : vn = 2
    · subst hv
      have HR : Hid (lborneF ⟨an, pf, af, mg⟩ 1 2 = true) := by unfold Hid; rfl
      have q3 : ∀ o, (w.alloc o).cell? ⟨Bc, 3, none⟩ = some (.slice AA an ac) := fun o => (at_cell (at_ext HC.out) 3).trans HL.out.acc
      have q6 : ∀ o, (w.alloc o).cell? ⟨Bc, 6, none⟩ = some (.bool pf) := fun o => (at_cell (at_ext HC.out) 6).trans HL.out.pf
      have q7 : ∀ o, (w.alloc o).cell? ⟨Bc, 7, none⟩ = some (.bool af) := fun o => (at_cell (at_ext HC.out) 7).trans HL.out.af
      have q8 : ∀ o, (w.alloc o).cell? ⟨Bc, 8, none⟩ = some (.bool mg) := fun o => (at_cell (at_ext HC.out) 8).trans HL.out.mg
      go_enter Try.func78, Try.ntmps78
      go_wp2_with fail
      refine (lsize_any 1 _).mono ?_
      rintro e w1 ⟨rfl, rfl⟩
      rw [show lsize 1 = 2 from rfl]
      go_wp2
      go_ret
      exact ⟨ret_bool HR.out.symm, Ext.out⟩
    · have HR : Hid (lborneF ⟨an, pf, af, mg⟩ 1 vn = false) := by
        unfold Hid lborneF
        rw [if_pos (.inr (.inl ⟨by decide, by show (2 : Int) ≠ _; omega⟩))]
      have hvI : ((2 : Int) != (vn : Int)) = true := by rw [bne_iff_ne]; omega
      have q3 : ∀ o, (w.alloc o).cell? ⟨Bc, 3, none⟩ = some (.slice AA an ac) := fun o => (at_cell (at_ext HC.out) 3).trans HL.out.acc
      have q6 : ∀ o, (w.alloc o).cell? ⟨Bc, 6, none⟩ = some (.bool pf) := fun o => (at_cell (at_ext HC.out) 6).trans HL.out.pf
      have q7 : ∀ o, (w.alloc o).cell? ⟨Bc, 7, none⟩ = some (.bool af) := fun o => (at_cell (at_ext HC.out) 7).trans HL.out.af
      have q8 : ∀ o, (w.alloc o).cell? ⟨Bc, 8, none⟩ = some (.bool mg) := fun o => (at_cell (at_ext HC.out) 8).trans HL.out.mg
      clear hv
      go_enter Try.func78, Try.ntmps78
      go_wp2_with fail
      refine (lsize_any 1 _).mono ?_
      rintro e w1 ⟨rfl, rfl⟩
      rw [show lsize 1 = 2 from rfl]
      go_wp2
      go_ret
      exact ⟨ret_bool HR.out.symm, Ext.out⟩
  by_cases h2 : t = 2
  · subst h2
    by_cases hv : vn = 4
    · subst hv
      have HR : Hid (lborneF ⟨an, pf, af, mg⟩ 2 4 = true) := by unfold Hid; rfl
      have q3 : ∀ o, (w.alloc o).cell? ⟨Bc, 3, none⟩ = some (.slice AA an ac) := fun o => (at_cell (at_ext HC.out) 3).trans HL.out.acc
      have q6 : ∀ o, (w.alloc o).cell? ⟨Bc, 6, none⟩ = some (.bool pf) := fun o => (at_cell (at_ext HC.out) 6).trans HL.out.pf
      have q7 : ∀ o, (w.alloc o).cell? ⟨Bc, 7, none⟩ = some (.bool af) := fun o => (at_cell (at_ext HC.out) 7).trans HL.out.af
      have q8 : ∀ o, (w.alloc o).cell? ⟨Bc, 8, none⟩ = some (.bool mg) := fun o => (at_cell (at_ext HC.out) 8).trans HL.out.mg
      go_enter Try.func78, Try.ntmps78
      go_wp2_with fail
      refine (lsize_any 2 _).mono ?_
      rintro e w1 ⟨rfl, rfl⟩
      rw [show lsize 2 = 4 from rfl]
      go_wp2
      go_ret
      exact ⟨ret_bool HR.out.symm, Ext.out⟩
    · have HR : Hid (lborneF ⟨an, pf, af, mg⟩ 2 vn = false) := by
        unfold Hid lborneF
        rw [if_pos (.inr (.inl ⟨by decide, by show (4 : Int) ≠ _; omega⟩))]
      have hvI : ((4 : Int) != (vn : Int)) = true := by rw [bne_iff_ne]; omega
      have q3 : ∀ o, (w.alloc o).cell? ⟨Bc, 3, none⟩ = some (.slice AA an ac) := fun o => (at_cell (at_ext HC.out) 3).trans HL.out.acc
      have q6 : ∀ o, (w.alloc o).cell? ⟨Bc, 6, none⟩ = some (.bool pf) := fun o => (at_cell (at_ext HC.out) 6).trans HL.out.pf
      have q7 : ∀ o, (w.alloc o).cell? ⟨Bc, 7, none⟩ = some (.bool af) := fun o => (at_cell (at_ext HC.out) 7).trans HL.out.af
      have q8 : ∀ o, (w.alloc o).cell? ⟨Bc, 8, none⟩ = some (.bool mg) := fun o => (at_cell (at_ext HC.out) 8).trans HL.out.mg
      clear hv
      go_enter Try.func78, Try.ntmps78
      go_wp2_with fail
      refine (lsize_any 2 _).mono ?_
      rintro e w1 ⟨rfl, rfl⟩
      rw [show lsize 2 = 4 from rfl]
      go_wp2
      go_ret
      exact ⟨ret_bool HR.out.symm, Ext.out⟩
  by_cases h5 : t = 5
  · subst h5
    by_cases hv : vn = 4
    · subst hv
      have HR : Hid (lborneF ⟨an, pf, af, mg⟩ 5 4 = mg) := by unfold Hid; rfl
      have q3 : ∀ o, (w.alloc o).cell? ⟨Bc, 3, none⟩ = some (.slice AA an ac) := fun o => (at_cell (at_ext HC.out) 3).trans HL.out.acc
      have q6 : ∀ o, (w.alloc o).cell? ⟨Bc, 6, none⟩ = some (.bool pf) := fun o => (at_cell (at_ext HC.out) 6).trans HL.out.pf
      have q7 : ∀ o, (w.alloc o).cell? ⟨Bc, 7, none⟩ = some (.bool af) := fun o => (at_cell (at_ext HC.out) 7).trans HL.out.af
      have q8 : ∀ o, (w.alloc o).cell? ⟨Bc, 8, none⟩ = some (.bool mg) := fun o => (at_cell (at_ext HC.out) 8).trans HL.out.mg
      go_enter Try.func78, Try.ntmps78
      go_wp2_with fail
      refine (lsize_any 5 _).mono ?_
      rintro e w1 ⟨rfl, rfl⟩
      rw [show lsize 5 = 4 from rfl]
      go_wp2
      go_ret
      exact ⟨ret_bool HR.out.symm, Ext.out⟩
    · have HR : Hid (lborneF ⟨an, pf, af, mg⟩ 5 vn = false) := by
        unfold Hid lborneF
        rw [if_pos (.inr (.inl ⟨by decide, by show (4 : Int) ≠ _; omega⟩))]
      have hvI : ((4 : Int) != (vn : Int)) = true := by rw [bne_iff_ne]; omega
      have q3 : ∀ o, (w.alloc o).cell? ⟨Bc, 3, none⟩ = some (.slice AA an ac) := fun o => (at_cell (at_ext HC.out) 3).trans HL.out.acc
      have q6 : ∀ o, (w.alloc o).cell? ⟨Bc, 6, none⟩ = some (.bool pf) := fun o => (at_cell (at_ext HC.out) 6).trans HL.out.pf
      have q7 : ∀ o, (w.alloc o).cell? ⟨Bc, 7, none⟩ = some (.bool af) := fun o => (at_cell (at_ext HC.out) 7).trans HL.out.af
      have q8 : ∀ o, (w.alloc o).cell? ⟨Bc, 8, none⟩ = some (.bool mg) := fun o => (at_cell (at_ext HC.out) 8).trans HL.out.mg
      clear hv
      go_enter Try.func78, Try.ntmps78
      go_wp2_with fail
      refine (lsize_any 5 _).mono ?_
      rintro e w1 ⟨rfl, rfl⟩
      rw [show lsize 5 = 4 from rfl]
      go_wp2
      go_ret
      exact ⟨ret_bool HR.out.symm, Ext.out⟩
  by_cases h7 : t = 7
  · subst h7
    by_cases hv : vn = 0
    · subst hv
      have HR : Hid (lborneF ⟨an, pf, af, mg⟩ 7 0 = pf) := by unfold Hid; rfl
      have q3 : ∀ o, (w.alloc o).cell? ⟨Bc, 3, none⟩ = some (.slice AA an ac) := fun o => (at_cell (at_ext HC.out) 3).trans HL.out.acc
      have q6 : ∀ o, (w.alloc o).cell? ⟨Bc, 6, none⟩ = some (.bool pf) := fun o => (at_cell (at_ext HC.out) 6).trans HL.out.pf
      have q7 : ∀ o, (w.alloc o).cell? ⟨Bc, 7, none⟩ = some (.bool af) := fun o => (at_cell (at_ext HC.out) 7).trans HL.out.af
      have q8 : ∀ o, (w.alloc o).cell? ⟨Bc, 8, none⟩ = some (.bool mg) := fun o => (at_cell (at_ext HC.out) 8).trans HL.out.mg
      go_enter Try.func78, Try.ntmps78
      go_wp2_with fail
      refine (lsize_any 7 _).mono ?_
      rintro e w1 ⟨rfl, rfl⟩
      rw [show lsize 7 = 0 from rfl]
      go_wp2
      go_ret
      exact ⟨ret_bool HR.out.symm, Ext.out⟩
    · have HR : Hid (lborneF ⟨an, pf, af, mg⟩ 7 vn = false) := by
        unfold Hid lborneF
        rw [if_pos (.inr (.inl ⟨by decide, by show (0 : Int) ≠ _; omega⟩))]
      have hvI : ((0 : Int) != (vn : Int)) = true := by rw [bne_iff_ne]; omega
      have q3 : ∀ o, (w.alloc o).cell? ⟨Bc, 3, none⟩ = some (.slice AA an ac) := fun o => (at_cell (at_ext HC.out) 3).trans HL.out.acc
      have q6 : ∀ o, (w.alloc o).cell? ⟨Bc, 6, none⟩ = some (.bool pf) := fun o => (at_cell (at_ext HC.out) 6).trans HL.out.pf
      have q7 : ∀ o, (w.alloc o).cell? ⟨Bc, 7, none⟩ = some (.bool af) := fun o => (at_cell (at_ext HC.out) 7).trans HL.out.af
      have q8 : ∀ o, (w.alloc o).cell? ⟨Bc, 8, none⟩ = some (.bool mg) := fun o => (at_cell (at_ext HC.out) 8).trans HL.out.mg
      clear hv
      go_enter Try.func78, Try.ntmps78
      go_wp2_with fail
      refine (lsize_any 7 _).mono ?_
      rintro e w1 ⟨rfl, rfl⟩
      rw [show lsize 7 = 0 from rfl]
      go_wp2
      go_ret
      exact ⟨ret_bool HR.out.symm, Ext.out⟩
  by_cases h8 : t = 8
  · subst h8
    by_cases hv : vn = 0
    · subst hv
      have HR : Hid (lborneF ⟨an, pf, af, mg⟩ 8 0 = af) := by unfold Hid; rfl
      have q3 : ∀ o, (w.alloc o).cell? ⟨Bc, 3, none⟩ = some (.slice AA an ac) := fun o => (at_cell (at_ext HC.out) 3).trans HL.out.acc
      have q6 : ∀ o, (w.alloc o).cell? ⟨Bc, 6, none⟩ = some (.bool pf) := fun o => (at_cell (at_ext HC.out) 6).trans HL.out.pf
      have q7 : ∀ o, (w.alloc o).cell? ⟨Bc, 7, none⟩ = some (.bool af) := fun o => (at_cell (at_ext HC.out) 7).trans HL.out.af
      have q8 : ∀ o, (w.alloc o).cell? ⟨Bc, 8, none⟩ = some (.bool mg) := fun o => (at_cell (at_ext HC.out) 8).trans HL.out.mg
      go_enter Try.func78, Try.ntmps78
      go_wp2_with fail
      refine (lsize_any 8 _).mono ?_
      rintro e w1 ⟨rfl, rfl⟩
      rw [show lsize 8 = 0 from rfl]
      go_wp2
      go_ret
      exact ⟨ret_bool HR.out.symm, Ext.out⟩
    · have HR : Hid (lborneF ⟨an, pf, af, mg⟩ 8 vn = false) := by
        unfold Hid lborneF
        rw [if_pos (.inr (.inl ⟨by decide, by show (0 : Int) ≠ _; omega⟩))]
      have hvI : ((0 : Int) != (vn : Int)) = true := by rw [bne_iff_ne]; omega
      have q3 : ∀ o, (w.alloc o).cell? ⟨Bc, 3, none⟩ = some (.slice AA an ac) := fun o => (at_cell (at_ext HC.out) 3).trans HL.out.acc
      have q6 : ∀ o, (w.alloc o).cell? ⟨Bc, 6, none⟩ = some (.bool pf) := fun o => (at_cell (at_ext HC.out) 6).trans HL.out.pf
      have q7 : ∀ o, (w.alloc o).cell? ⟨Bc, 7, none⟩ = some (.bool af) := fun o => (at_cell (at_ext HC.out) 7).trans HL.out.af
      have q8 : ∀ o, (w.alloc o).cell? ⟨Bc, 8, none⟩ = some (.bool mg) := fun o => (at_cell (at_ext HC.out) 8).trans HL.out.mg
      clear hv
      go_enter Try.func78, Try.ntmps78
      go_wp2_with fail
      refine (lsize_any 8 _).mono ?_
      rintro e w1 ⟨rfl, rfl⟩
      rw [show lsize 8 = 0 from rfl]
      go_wp2
      go_ret
      exact ⟨ret_bool HR.out.symm, Ext.out⟩
  by_cases h3 : t = 3
  · subst h3
    by_cases hv : vn < 2
    · have HR : Hid (lborneF ⟨an, pf, af, mg⟩ 3 vn = false) := by
        unfold Hid lborneF
        rw [if_pos (.inr (.inr ⟨rfl, hv⟩))]
      have hvI : (vn : Int) < 2 := by omega
      clear hv
      have q3 : ∀ o, (w.alloc o).cell? ⟨Bc, 3, none⟩ = some (.slice AA an ac) := fun o => (at_cell (at_ext HC.out) 3).trans HL.out.acc
      have q6 : ∀ o, (w.alloc o).cell? ⟨Bc, 6, none⟩ = some (.bool pf) := fun o => (at_cell (at_ext HC.out) 6).trans HL.out.pf
      have q7 : ∀ o, (w.alloc o).cell? ⟨Bc, 7, none⟩ = some (.bool af) := fun o => (at_cell (at_ext HC.out) 7).trans HL.out.af
      have q8 : ∀ o, (w.alloc o).cell? ⟨Bc, 8, none⟩ = some (.bool mg) := fun o => (at_cell (at_ext HC.out) 8).trans HL.out.mg
      go_enter Try.func78, Try.ntmps78
      go_wp2_with fail
      refine (lsize_any 3 _).mono ?_
      rintro e w1 ⟨rfl, rfl⟩
      rw [show lsize 3 = (-2) from rfl]
      go_wp2
      go_ret
      exact ⟨ret_bool HR.out.symm, Ext.out⟩
    · have HR : Hid (lborneF ⟨an, pf, af, mg⟩ 3 vn = decide (0 < an)) := by
        unfold Hid lborneF
        rw [if_neg (by rintro (h | h | h); exact absurd h (by decide); exact absurd h.1 (by decide); exact hv h.2)]
        simp
      have hvI : ¬ (vn : Int) < 2 := by omega
      clear hv
      have q3 : ∀ o, (w.alloc o).cell? ⟨Bc, 3, none⟩ = some (.slice AA an ac) := fun o => (at_cell (at_ext HC.out) 3).trans HL.out.acc
      have q6 : ∀ o, (w.alloc o).cell? ⟨Bc, 6, none⟩ = some (.bool pf) := fun o => (at_cell (at_ext HC.out) 6).trans HL.out.pf
      have q7 : ∀ o, (w.alloc o).cell? ⟨Bc, 7, none⟩ = some (.bool af) := fun o => (at_cell (at_ext HC.out) 7).trans HL.out.af
      have q8 : ∀ o, (w.alloc o).cell? ⟨Bc, 8, none⟩ = some (.bool mg) := fun o => (at_cell (at_ext HC.out) 8).trans HL.out.mg
      go_enter Try.func78, Try.ntmps78
      go_wp2_with fail
      refine (lsize_any 3 _).mono ?_
      rintro e w1 ⟨rfl, rfl⟩
      rw [show lsize 3 = (-2) from rfl]
      go_wp2
      go_ret
      exact ⟨ret_bool HR.out.symm, Ext.out⟩
  have HS : Hid (lsize t = -1) := by unfold Hid lsize; simp [h1, h2, h5, h7, h8, h3]
  have HR : Hid (lborneF ⟨an, pf, af, mg⟩ t vn = false) := by
    unfold Hid lborneF
    rw [if_pos (.inl HS.out)]
  go_enter Try.func78, Try.ntmps78
  go_wp2_with fail
  refine (lsize_any t _).mono ?_
  rintro e w1 ⟨rfl, rfl⟩
  rw [HS.out]
  go_wp2
  go_ret
  exact ⟨ret_bool HR.out.symm, Ext.out⟩
end Go.Proofs.Ytodibldfolognaa
