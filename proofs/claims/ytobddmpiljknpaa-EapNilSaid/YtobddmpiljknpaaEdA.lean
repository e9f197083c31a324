/-
  law14.awake: chapter 14's example: models. No condition.
-/
import Derived.Test.YtobddmpiljknpaaEcF
namespace Go.Proofs.Ytobddmpiljknpaa
open Go.RowKit
set_option linter.unusedVariables false
set_option linter.unusedSimpArgs false

abbrev aAlice : ByteArray := ⟨#[97, 108, 105, 99, 101]⟩
abbrev aMill : ByteArray := ⟨#[109, 105, 108, 108]⟩
abbrev aX : ByteArray := ⟨#[120]⟩
theorem awrong : wrongF [⟨aAlice, aMill, aX, none, 0, 0, []⟩] = (0, 0) := by decide +kernel
/-- The server's states: behind Start, behind the name, behind the proof. -/
def aS1 : SS := startS s0S
theorem aS1_eq : aS1 = ⟨1, 1, 1, noB, noB, 1, 1, [1], List.replicate 16 0⟩ := by
  unfold aS1 startS askS s0S
  rfl
theorem pw1 : wrE 2 1 1 [] (strB aAlice) = ((2, 1), [1, 97, 108, 105, 99, 101], 0) := by decide +kernel
theorem secA (A : Option Addr) (n k : Nat) : secW (strB aAlice) (strB aMill) [⟨aAlice, aMill, aX, A, n, k, []⟩] = aX := by kernel_rfl
theorem findA (A : Option Addr) (n k : Nat) : findF (strB aAlice) (strB aMill) [⟨aAlice, aMill, aX, A, n, k, []⟩] = some ⟨aAlice, aMill, aX, A, n, k, []⟩ := by kernel_rfl
def aD : List Int := respD 2 aX [99, 104]
theorem aD_len : aD.length = 16 := respD_len _ _ _
/-- The peer's answer to Start's packet. -/
theorem pr1 (A : Option Addr) (n k : Nat) : peerR aAlice [⟨aAlice, aMill, aX, A, n, k, []⟩] 0 noB 1 1 [1] = ⟨1, noB, 2, 1, [1, 97, 108, 105, 99, 101], true, 0⟩ := by
  unfold peerR
  rw [show rdE 1 1 [1] = (⟨1, 1, 1, [], []⟩, 0) from rfl]
  unfold peerM
  rw [if_neg (by simp), if_neg (by simp), if_neg (by simp), if_neg (by simp), if_neg (by simp), if_pos rfl]
  unfold sayR
  rw [show wrE 2 (MV.i ⟨1, 1, 1, [], []⟩) 1 [] (strB aAlice) = _ from pw1]
theorem wr2 : wrE 1 2 4 [99, 104] (strB aMill) = ((1, 2), [4, 2, 99, 104, 109, 105, 108, 108], 0) := by decide +kernel
theorem wr3 : wrE 3 2 0 [] [] = ((3, 2), [], 0) := by rfl
def aS2 : SS := ⟨2, 1, 2, aAlice, noB, 1, 2, [4, 2, 99, 104, 109, 105, 108, 108], aD⟩
theorem strA : strOfNums [97, 108, 105, 99, 101] = aAlice := by rfl
theorem sr1 (A : Option Addr) (n k : Nat) : takeR aMill [⟨aAlice, aMill, aX, A, n, k, []⟩] aS1 2 1 [1, 97, 108, 105, 99, 101] [99, 104] = ⟨aS2, 1, 2, [4, 2, 99, 104, 109, 105, 108, 108], true, 0⟩ := by
  unfold takeR
  rw [show rdE 2 1 [1, 97, 108, 105, 99, 101] = (⟨2, 1, 1, [], [97, 108, 105, 99, 101]⟩, 0) from rfl, aS1_eq]
  unfold takeM
  rw [if_neg (by simp), if_neg (by simp), if_neg (by simp), if_neg (by simp), if_pos ⟨rfl, rfl, by decide +kernel⟩]
  have hs : secW (MV.s ⟨2, 1, 1, [], [97, 108, 105, 99, 101]⟩) (strB aMill) [⟨aAlice, aMill, aX, A, n, k, []⟩] = aX := secA A n k
  rw [hs, if_pos ⟨by decide +kernel, rfl⟩]
  have hp : proveS aMill [⟨aAlice, aMill, aX, A, n, k, []⟩] (saysS ⟨1, 1, 1, noB, noB, 1, 1, [1], List.replicate 16 0⟩ (MV.s ⟨2, 1, 1, [], [97, 108, 105, 99, 101]⟩)) [99, 104] = aS2 := by
    unfold proveS saysS askS
    simp only [strA]
    rw [show ((1 : Int) + 1) % 256 = 2 from rfl, wr2]
    rw [show secW (strB aAlice) (strB aMill) [⟨aAlice, aMill, aX, A, n, k, []⟩] = aX from secA A n k]
    rfl
  rw [hp]
  rfl
def aP2 : List Int := [4, 16] ++ aD ++ strB aAlice
theorem aP2_len : aP2.length = 23 := by
  unfold aP2
  simp only [List.length_append, aD_len]
  rfl
theorem wr4 : wrE 2 2 4 aD (strB aAlice) = ((2, 2), aP2, 0) := by
  have hb : bodyE 4 aD (strB aAlice) = 0 := by unfold bodyE; rw [if_neg (by decide), if_pos rfl, if_neg (by rw [aD_len]; decide)]
  have hd : bodyD 4 aD (strB aAlice) = [16] ++ aD ++ strB aAlice := by unfold bodyD; rw [if_neg (by decide), if_pos rfl, aD_len]; rfl
  unfold wrE
  rw [if_neg (by decide), if_neg (by decide), if_neg (by decide), hb, if_neg (by decide), hd, if_neg (by simp only [List.length_append, aD_len]; decide)]
  rfl
theorem pr2 (A : Option Addr) (n k : Nat) : peerR aAlice [⟨aAlice, aMill, aX, A, n, k, []⟩] 1 noB 1 2 [4, 2, 99, 104, 109, 105, 108, 108] = ⟨2, noB, 2, 2, aP2, true, 0⟩ := by
  unfold peerR
  rw [show rdE 1 2 [4, 2, 99, 104, 109, 105, 108, 108] = (⟨1, 2, 4, [99, 104], [109, 105, 108, 108]⟩, 0) from rfl]
  unfold peerM
  rw [if_neg (by simp), if_neg (by simp), if_neg (by simp), if_neg (by simp), if_neg (by simp), if_neg (by simp), if_neg (by simp), if_pos rfl]
  have hs : secW (strB aAlice) (MV.s ⟨1, 2, 4, [99, 104], [109, 105, 108, 108]⟩) [⟨aAlice, aMill, aX, A, n, k, []⟩] = aX := secA A n k
  rw [hs, if_neg (by decide +kernel)]
  unfold sayR
  rw [show wrE 2 (MV.i ⟨1, 2, 4, [99, 104], [109, 105, 108, 108]⟩) 4 (respD (MV.i ⟨1, 2, 4, [99, 104], [109, 105, 108, 108]⟩) aX (MV.v ⟨1, 2, 4, [99, 104], [109, 105, 108, 108]⟩)) (strB aAlice) = _ from wr4]
theorem rd4 : rdE 2 2 aP2 = (⟨2, 2, 4, aD, strB aAlice⟩, 0) := by
  have hp : prtF (16 :: (aD ++ strB aAlice)) = some (aD, strB aAlice) := by
    show (if ((aD ++ strB aAlice).length : Int) < 16 then none else some ((aD ++ strB aAlice).take 16, (aD ++ strB aAlice).drop 16)) = _
    rw [if_neg (by rw [List.length_append, aD_len]; omega), List.take_left' aD_len, List.drop_left' aD_len]
  have hn : aD ≠ [] := fun h => by have := aD_len; rw [h] at this; cases this
  have hpar : parE 2 4 (16 :: (aD ++ strB aAlice)) = 0 := by
    unfold parE
    rw [if_neg (by decide), if_neg (by decide), if_pos rfl, hp]
    simp only
    rw [if_neg hn]
  unfold rdE
  rw [if_neg (by decide), if_neg (by decide), if_neg (by decide), if_neg (by decide)]
  show rdB 2 2 4 (16 :: (aD ++ strB aAlice)) = _
  unfold rdB
  rw [hpar, if_neg (by simp), if_neg (by decide), if_pos rfl, hp]
def aS3 : SS := { aS2 with st := 3, who := aAlice }
theorem sr2 (A : Option Addr) (n k : Nat) : takeR aMill [⟨aAlice, aMill, aX, A, n, k, []⟩] aS2 2 2 aP2 [] = ⟨aS3, 3, 2, [], true, 0⟩ := by
  unfold takeR
  rw [rd4]
  unfold takeM
  rw [if_neg (by simp), if_neg (by simp), if_neg (by unfold aS2; simp), if_neg (by unfold aS2; simp), if_neg (by unfold aS2; simp), if_pos ⟨rfl, rfl, rfl⟩]
  rfl
end Go.Proofs.Ytobddmpiljknpaa
