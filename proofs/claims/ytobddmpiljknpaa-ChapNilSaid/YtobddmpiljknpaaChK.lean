/-
  chap: a judge that is not there; law13.known: chapter 13's example. No condition.
-/
import Derived.Test.YtobddmpiljknpaaChJ
namespace Go.Proofs.Ytobddmpiljknpaa
open Go.RowKit
set_option linter.unusedVariables false
set_option linter.unusedSimpArgs false

theorem jask_nil (id : Int) (A : Option Addr) (n c : Nat) (w : World) : Calls Try.prog 46 #[.pointer none, .int .i64 id, .slice A n c] w fun e w' => e = .returned (.tuple #[.agg #[.int .i64 0, .int .i64 0, .slice none 0 0], .int .i64 2]) ∧ Below w.heap.size w w' := by
  go_enter Try.func46, Try.ntmps46
  go_wp2
  refine bodyPost_ret (results_cell_row2 Try.results46 _ _ w.heap.size 24 #[.int .i64 0, .int .i64 0, .slice none 0 0] (0, 0) _ (.int .i64 2) rfl rfl (at_new w zPk) Try.underlying24 rfl (by kernel_rfl)) rfl ?_
  exact ⟨rfl, Ext.out⟩
theorem jagain_nil (w : World) : Calls Try.prog 47 #[.pointer none] w fun e w' => e = .returned (.tuple #[.agg #[.int .i64 0, .int .i64 0, .slice none 0 0], .int .i64 2]) ∧ Below w.heap.size w w' := by
  go_enter Try.func47, Try.ntmps47
  go_wp2
  refine bodyPost_ret (results_cell_row2 Try.results47 _ _ w.heap.size 24 #[.int .i64 0, .int .i64 0, .slice none 0 0] (0, 0) _ (.int .i64 2) rfl rfl (at_new w zPk) Try.underlying24 rfl (by kernel_rfl)) rfl ?_
  exact ⟨rfl, Ext.out⟩
theorem jtake_nil (code id : Int) (A : Option Addr) (n c : Nat) (w : World) : Calls Try.prog 48 #[.pointer none, .agg #[.int .i64 code, .int .i64 id, .slice A n c]] w fun e w' => e = .returned (.tuple #[.agg #[.int .i64 0, .int .i64 0, .slice none 0 0], .int .i64 2]) ∧ Below w.heap.size w w' := by
  go_enter Try.func48, Try.ntmps48
  go_wp2
  refine bodyPost_ret (results_cell_row2 Try.results48 _ _ (w.heap.size + 1) 24 #[.int .i64 0, .int .i64 0, .slice none 0 0] (0, 0) _ (.int .i64 2) rfl rfl (at_new1 (o := zPk) (by simp)) Try.underlying24 rfl (by kernel_rfl)) rfl ?_
  exact ⟨rfl, Ext.out⟩
theorem jstate_nil (w : World) : Calls Try.prog 49 #[.pointer none] w fun e w' => e = .returned (.int .i64 0) ∧ w = w' := by
  go_enter Try.func49, Try.ntmps49
  go_wp2
  go_ret
  exact ⟨rfl, rfl⟩
theorem jwho_nil (w : World) : Calls Try.prog 50 #[.pointer none] w fun e w' => e = .returned (.string ⟨#[]⟩) ∧ w = w' := by
  go_enter Try.func50, Try.ntmps50
  go_wp2
  go_ret
  exact ⟨rfl, rfl⟩
theorem jasked_nil (w : World) : Calls Try.prog 51 #[.pointer none] w fun e w' => e = .returned (.int .i64 0) ∧ w = w' := by
  go_enter Try.func51, Try.ntmps51
  go_wp2
  go_ret
  exact ⟨rfl, rfl⟩
section
variable (J : Nat) (nm : ByteArray) (LA : Option Addr) (ln lc : Nat) (st : Int) (who : ByteArray) (ask pc pid : Int) (PA : Option Addr) (pn pk : Nat) (w : World) (h : JudgeAt w J nm LA ln lc st who ask pc pid PA pn pk)
include h
theorem jstate_any : Calls Try.prog 49 #[.pointer (some ⟨J, 0, none⟩)] w fun e w' => e = .returned (.int .i64 st) ∧ w = w' := by
  have HJ := Lib.hid h
  have p2 : w.cell? ⟨J, 2, none⟩ = some (.int .i64 st) := at_cell HJ.out 2
  clear h
  go_enter Try.func49, Try.ntmps49
  go_wp2
  go_ret
  exact ⟨rfl, rfl⟩
theorem jwho_any : Calls Try.prog 50 #[.pointer (some ⟨J, 0, none⟩)] w fun e w' => e = .returned (.string who) ∧ w = w' := by
  have HJ := Lib.hid h
  have p2 : w.cell? ⟨J, 3, none⟩ = some (.string who) := at_cell HJ.out 3
  clear h
  go_enter Try.func50, Try.ntmps50
  go_wp2
  go_ret
  exact ⟨rfl, rfl⟩
end
abbrev bStar : ByteArray := ⟨#[42]⟩
abbrev chX : List Int := [3, 97, 98, 99, 109, 105, 108, 108]
theorem mk_mill : mkF 1 7 [97, 98, 99] (strB bMill) = ((1, 7), chX, 0) := by decide +kernel
theorem rd_mill : rdF 1 7 chX = (([97, 98, 99], [109, 105, 108, 108]), 0) := by decide +kernel
theorem str_mill : strOfNums [109, 105, 108, 108] = bMill := by rfl
theorem str_alice : strOfNums (strB bAlice) = bAlice := by rfl
theorem secW_star (A : Option Addr) (n k : Nat) : secW (strB bAlice) (strB (rmF bMill ⟨#[]⟩)) [⟨bAlice, bStar, bX, A, n, k, []⟩] = bX := by kernel_rfl
theorem secW_mill (A : Option Addr) (n k : Nat) : secW (strB bAlice) (strB bMill) [⟨bAlice, bMill, bX, A, n, k, []⟩] = bX := by kernel_rfl
def rsX : List Int := [16] ++ respD 7 bX [97, 98, 99] ++ strB bAlice
theorem rsX_len : rsX.length = 22 := by
  unfold rsX
  simp only [List.length_append, respD_len]
  rfl
theorem rsX_byt : Byt rsX := by
  unfold rsX
  intro x hx
  simp only [List.mem_append] at hx
  rcases hx with (h | h) | h
  · simp at h; omega
  · exact respD_byt x h
  · exact strB_byt bAlice x h
theorem an_mill (A : Option Addr) (n k : Nat) : anF 1 7 chX bAlice ⟨#[]⟩ [⟨bAlice, bStar, bX, A, n, k, []⟩] = ((2, 7), rsX, 0) := by
  unfold anF
  rw [if_neg (by decide), rd_mill]
  simp only [str_mill]
  rw [if_neg (by decide), if_neg (by decide +kernel), secW_star, if_neg (by decide +kernel)]
  unfold mkF rsX
  rw [respD_len, if_neg (by decide), if_neg (by decide), if_neg (by decide +kernel)]
  rfl
theorem pts_rs : ptsF rsX = ((respD 7 bX [97, 98, 99], strB bAlice), 0) := by
  have h1 : prtF rsX = some (respD 7 bX [97, 98, 99], strB bAlice) := by
    show (if ((respD 7 bX [97, 98, 99] ++ strB bAlice).length : Int) < 16 then none else some ((respD 7 bX [97, 98, 99] ++ strB bAlice).take 16, (respD 7 bX [97, 98, 99] ++ strB bAlice).drop 16)) = _
    rw [if_neg (by rw [List.length_append, respD_len]; omega), List.take_left' (respD_len _ _ _), List.drop_left' (respD_len _ _ _)]
  have h2 : respD 7 bX [97, 98, 99] ≠ [] := fun h => by have := respD_len 7 bX [97, 98, 99]; rw [h] at this; cases this
  unfold ptsF
  rw [h1]
  simp only
  rw [if_neg h2, if_neg (by decide +kernel)]
theorem ho_alice (A : Option Addr) (n k : Nat) : hoF 1 7 chX 2 7 rsX bMill [⟨bAlice, bMill, bX, A, n, k, []⟩] = (bAlice, 0) := by
  have h1 : rdF 2 7 rsX = ((respD 7 bX [97, 98, 99], strB bAlice), 0) := by
    unfold rdF
    rw [if_neg (by decide), pts_rs]
  unfold hoF
  rw [if_neg (by decide), rd_mill, h1]
  simp only [str_alice]
  rw [if_neg (by decide), if_neg (by decide), if_neg (by decide), secW_mill, if_neg (by decide +kernel), if_neg (by simp)]
end Go.Proofs.Ytobddmpiljknpaa
