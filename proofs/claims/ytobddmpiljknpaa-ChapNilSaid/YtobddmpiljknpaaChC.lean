/-
  chap.kind, Read, Told. Conditions: sizes.
-/
import Derived.Test.YtobddmpiljknpaaChB
import Derived.Handy
namespace Go.Proofs.Ytobddmpiljknpaa
open Go.RowKit
set_option linter.unusedVariables false
set_option linter.unusedSimpArgs false

def badP (code id : Int) : Bool := decide ((code ≠ 1 ∧ code ≠ 2) ∨ id < 0 ∨ 255 < id)
def rdF (code id : Int) (xs : List Int) : (List Int × List Int) × Int := if badP code id then (([], []), 90) else ptsF xs
def kindV (code id : Int) (A : Option Addr) (n c : Nat) : Value := if badP code id then .iface 142 (.agg #[]) else .iface 140 (.agg #[.slice A n c])
set_option maxRecDepth 100000 in
set_option maxHeartbeats 2000000 in
theorem kind_any (code id : Int) (A : Option Addr) (n c : Nat) (w : World) :
    Calls Try.prog 65 #[.agg #[.int .i64 code, .int .i64 id, .slice A n c]] w fun e w' => e = .returned (kindV code id A n c) ∧ Below w.heap.size w w' := by
  by_cases c1 : code = 1
  · subst c1
    by_cases i1 : id < 0
    · have HF : Hid (kindV 1 id A n c = .iface 142 (.agg #[])) := if_pos (decide_eq_true (by omega))
      go_enter Try.func65, Try.ntmps65
      go_wp2_with fail
      go_ret
      exact ⟨by rw [HF.out]; rfl, Ext.out⟩
    by_cases i2 : 255 < id
    · have HF : Hid (kindV 1 id A n c = .iface 142 (.agg #[])) := if_pos (decide_eq_true (by omega))
      go_enter Try.func65, Try.ntmps65
      go_wp2_with fail
      go_ret
      exact ⟨by rw [HF.out]; rfl, Ext.out⟩
    have HF : Hid (kindV 1 id A n c = .iface 140 (.agg #[.slice A n c])) := if_neg (by unfold badP; rw [decide_eq_false (by omega)]; simp)
    go_enter Try.func65, Try.ntmps65
    go_wp2_with fail
    go_ret
    exact ⟨by rw [HF.out]; rfl, Ext.out⟩
  by_cases c2 : code = 2
  · subst c2
    by_cases i1 : id < 0
    · have HF : Hid (kindV 2 id A n c = .iface 142 (.agg #[])) := if_pos (decide_eq_true (by omega))
      go_enter Try.func65, Try.ntmps65
      go_wp2_with fail
      go_ret
      exact ⟨by rw [HF.out]; rfl, Ext.out⟩
    by_cases i2 : 255 < id
    · have HF : Hid (kindV 2 id A n c = .iface 142 (.agg #[])) := if_pos (decide_eq_true (by omega))
      go_enter Try.func65, Try.ntmps65
      go_wp2_with fail
      go_ret
      exact ⟨by rw [HF.out]; rfl, Ext.out⟩
    have HF : Hid (kindV 2 id A n c = .iface 140 (.agg #[.slice A n c])) := if_neg (by unfold badP; rw [decide_eq_false (by omega)]; simp)
    go_enter Try.func65, Try.ntmps65
    go_wp2_with fail
    go_ret
    exact ⟨by rw [HF.out]; rfl, Ext.out⟩
  have HF : Hid (kindV code id A n c = .iface 142 (.agg #[])) := if_pos (decide_eq_true (by omega))
  have c1' : (code != 1) = true := by simpa using c1
  have c2' : (code != 2) = true := by simpa using c2
  clear c1 c2
  go_enter Try.func65, Try.ntmps65
  go_wp2_with fail
  go_ret
  exact ⟨by rw [HF.out]; rfl, Ext.out⟩
theorem oparts_any (w : World) : Calls Try.prog 152 #[.agg #[]] w fun e w' => e = .returned (.tuple #[.slice none 0 0, .string ⟨#[]⟩, .int .i64 90]) ∧ Below w.heap.size w w' := by
  go_enter Try.func152, Try.ntmps152
  go_wp2_with fail
  go_ret3
  exact ⟨rfl, Ext.out⟩
set_option maxRecDepth 100000 in
set_option maxHeartbeats 2000000 in
theorem read_any (code id : Int) (A : Option Addr) (n c : Nat) (xs : List Int) (hn : xs.length = n) (hn' : n ≤ 140737488355200) (hb : Byt xs) (w : World) (hx : Cells w A (nums .u8 xs)) :
    Calls Try.prog 20 #[.agg #[.int .i64 code, .int .i64 id, .slice A n c]] w (PartsTells (rdF code id xs) w) := by
  have Hn := Lib.hid hn
  have HX := Lib.hid hx
  have HB := Lib.hid hb
  clear hn hx hb
  rcases hbd : badP code id with _ | _
  · have HK : Hid (kindV code id A n c = .iface 140 (.agg #[.slice A n c])) := if_neg (by rw [hbd]; simp)
    have HF : Hid (rdF code id xs = ptsF xs) := if_neg (by rw [hbd]; simp)
    clear hbd
    go_enter Try.func20, Try.ntmps20
    go_wp2_with fail
    refine (kind_any code id A n c _).mono ?_
    rintro e w1 ⟨rfl, hb1⟩
    rw [HK.out]
    have S1 : Step w1 _ := ⟨hb1⟩
    clear hb1
    go_wp2_with fail
    refine (parts_any A n c xs Hn.out hn' HB.out _ (by exact HX.out.ext)).mono ?_
    rintro e w2 ⟨A2, c2, rfl, ho2, hb2⟩
    have S2 : Step w2 w1 := ⟨hb2⟩
    have HO2 := Lib.hid ho2
    obtain ⟨⟨⟨p, r⟩, x⟩, hF⟩ : ∃ F, ptsF xs = F := ⟨_, rfl⟩
    have HF2 := Lib.hid hF
    rw [hF] at HO2 ⊢
    simp only at HO2 ⊢
    clear ho2 hb2 hF
    go_wp2_with fail
    go_ret3
    rw [HF.out, HF2.out]
    exact ⟨A2, c2, rfl, own_weaken HO2.out (size_ext (w := w) (w' := w1)), (inferInstance : Ext w w2).out⟩
  · have HK : Hid (kindV code id A n c = .iface 142 (.agg #[])) := if_pos hbd
    have HF : Hid (rdF code id xs = (([], []), 90)) := if_pos hbd
    clear hbd
    go_enter Try.func20, Try.ntmps20
    go_wp2_with fail
    refine (kind_any code id A n c _).mono ?_
    rintro e w1 ⟨rfl, hb1⟩
    rw [HK.out]
    have S1 : Step w1 _ := ⟨hb1⟩
    clear hb1
    go_wp2_with fail
    refine (oparts_any _).mono ?_
    rintro e w2 ⟨rfl, hb2⟩
    have S2 : Step w2 w1 := ⟨hb2⟩
    clear hb2
    go_wp2_with fail
    go_ret3
    exact parts_no HF.out (inferInstance : Ext w w2).out
end Go.Proofs.Ytobddmpiljknpaa
