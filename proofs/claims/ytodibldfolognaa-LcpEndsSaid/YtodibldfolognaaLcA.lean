/-
  lcp: size, Auth, Method, number, put. Conditions: the lists are no longer than the model's memory.
-/
import Derived.Test.YtodibldfolognaaOptSub
import Derived.Test.YtodibldfolognaaBytes
namespace Go.Proofs.Ytodibldfolognaa
open Go.RowKit
set_option linter.unusedVariables false
set_option linter.unusedSimpArgs false

theorem ret_int {k : IntKind} {a b : Int} (h : a = b) : Ending.returned (.int k a) = .returned (.int k b) := by rw [h]
def lsize (t : Int) : Int := if t = 1 then 2 else if t = 2 ∨ t = 5 then 4 else if t = 7 ∨ t = 8 then 0 else if t = 3 then -2 else -1
def authL (m : Int) : List Int := if m = 1 then [192, 35] else if m = 2 then [194, 35, 5] else if m = 3 then [194, 39] else []
def methF (xs : List Int) : Int := if xs = [192, 35] then 1 else if xs = [194, 35, 5] then 2 else if xs = [194, 39] then 3 else 0
theorem authL_byt (m : Int) : Byt (authL m) := by
  unfold authL
  repeat' split
  all_goals (intro x hx; first | (simp at hx; done) | (simp at hx; omega))
theorem authL_len (m : Int) : (authL m).length ≤ 3 := by
  unfold authL
  repeat' split
  all_goals first | decide | simp
/-- A number's bytes, put one behind the other, whatever their number. -/
def numF (xs : List Int) : Int := xs.foldl (fun n c => bits .or .u64 (n * 256 % 18446744073709551616) c) 0
theorem numF_succ {xs : List Int} {k : Nat} (hk : k < xs.length) : numF (xs.take (k + 1)) = bits .or .u64 (numF (xs.take k) * 256 % 18446744073709551616) (xs.getD k 0) := by
  rw [List.take_add_one, List.getElem?_eq_getElem hk, List.getD_eq_getElem?_getD, List.getElem?_eq_getElem hk]
  simp only [numF, List.foldl_append, Option.toList_some, List.foldl_cons, List.foldl_nil, Option.getD_some]
theorem numF_bd (xs : List Int) : 0 ≤ numF xs ∧ numF xs < 18446744073709551616 := by
  rcases List.eq_nil_or_concat xs with rfl | ⟨ys, y, rfl⟩
  · simp [numF]
  · have h1 := bits_lo_u64 .or (numF ys * 256 % 18446744073709551616) y
    have h2 := bits_hi_u64 .or (numF ys * 256 % 18446744073709551616) y
    have e : numF (ys ++ [y]) = bits .or .u64 (numF ys * 256 % 18446744073709551616) y := by simp [numF, List.foldl_append]
    simp only [List.concat_eq_append]
    rw [e]
    omega
theorem numF_getN {xs : List Int} (hb : Byt xs) (hl : xs.length ≤ 7) : ∀ k, k ≤ xs.length → numF (xs.take k) = getN (xs.take k)
  | 0, _ => by simp [numF, getN]
  | k + 1, hk => by
    have ih := numF_getN hb hl k (by omega)
    have hn := getN_bound 6 (xs.take k) (hb.take k) (by rw [List.length_take]; omega)
    have hx := hb.getD k
    rw [numF_succ (by omega), ih, List.take_add_one, List.getElem?_eq_getElem (by omega), Option.toList_some, getN_snoc]
    have e : xs.getD k 0 = xs[k] := by rw [List.getD_eq_getElem?_getD, List.getElem?_eq_getElem (by omega)]; rfl
    rw [e] at hx ⊢
    rw [show getN (xs.take k) * 256 % 18446744073709551616 = getN (xs.take k) * 256 by omega]
    exact or_u64_byte hn.1 (by omega) hx.1 hx.2
set_option maxHeartbeats 1000000 in
theorem lsize_any (t : Int) (w : World) : Calls Try.prog 79 #[.int .i64 t] w fun e w' => e = .returned (.int .i64 (lsize t)) ∧ w = w' := by
  by_cases h1 : t = 1
  · subst h1
    go_enter Try.func79, Try.ntmps79
    go_wp2
    go_ret
    exact ⟨rfl, rfl⟩
  by_cases h2 : t = 2
  · subst h2
    go_enter Try.func79, Try.ntmps79
    go_wp2
    go_ret
    exact ⟨rfl, rfl⟩
  by_cases h5 : t = 5
  · subst h5
    go_enter Try.func79, Try.ntmps79
    go_wp2
    go_ret
    exact ⟨rfl, rfl⟩
  by_cases h7 : t = 7
  · subst h7
    go_enter Try.func79, Try.ntmps79
    go_wp2
    go_ret
    exact ⟨rfl, rfl⟩
  by_cases h8 : t = 8
  · subst h8
    go_enter Try.func79, Try.ntmps79
    go_wp2
    go_ret
    exact ⟨rfl, rfl⟩
  by_cases h3 : t = 3
  · subst h3
    go_enter Try.func79, Try.ntmps79
    go_wp2
    go_ret
    exact ⟨rfl, rfl⟩
  have HL : Hid (lsize t = -1) := by unfold Hid lsize; simp [h1, h2, h5, h7, h8, h3]
  go_enter Try.func79, Try.ntmps79
  go_wp2
  go_ret
  exact ⟨by rw [HL.out]; rfl, rfl⟩
set_option maxHeartbeats 1000000 in
theorem lauth_any (m : Int) (w : World) : Calls Try.prog 34 #[.int .i64 m] w fun e w' => ∃ v, e = .returned v ∧ w'.ownsRow w.heap.size 5 1 v (authL m).length (nums .u8 (authL m)) ∧ Below w.heap.size w w' := by
  by_cases h1 : m = 1
  · subst h1
    go_enter Try.func34, Try.ntmps34
    go_wp2
    go_ret
    exact ⟨_, rfl, own_of_block (cap := 2) (at_new w _) (Nat.le_refl _) (Nat.le_refl _) (by decide) rfl, Ext.out⟩
  by_cases h2 : m = 2
  · subst h2
    go_enter Try.func34, Try.ntmps34
    go_wp2
    go_ret
    exact ⟨_, rfl, own_of_block (cap := 3) (at_new w _) (Nat.le_refl _) (Nat.le_refl _) (by decide) rfl, Ext.out⟩
  by_cases h3 : m = 3
  · subst h3
    go_enter Try.func34, Try.ntmps34
    go_wp2
    go_ret
    exact ⟨_, rfl, own_of_block (cap := 2) (at_new w _) (Nat.le_refl _) (Nat.le_refl _) (by decide) rfl, Ext.out⟩
  have HL : Hid (authL m = []) := by unfold Hid authL; simp [h1, h2, h3]
  rw [HL.out]
  go_enter Try.func34, Try.ntmps34
  go_wp2
  go_ret
  exact ⟨_, rfl, own_nil _ _ _ _, Below.refl _ _⟩
set_option maxHeartbeats 400000 in
theorem sequal_any (A B : Option Addr) (n m c d : Nat) (xs ys : List Int) (hn : xs.length = n) (hm : ys.length = m) (hn' : n ≤ 9223372036854775807) (hm' : m ≤ 9223372036854775807)
    (w : World) (hx : Cells w A (nums .u8 xs)) (hy : Cells w B (nums .u8 ys)) :
    Calls Try.prog 96 #[.slice A n c, .slice B m d] w fun e w' => e = .returned (.bool (decide (xs = ys))) ∧ Drawn w w' := by
  by_cases h : n = m
  · subst h
    have Hn := Lib.hid hn
    have Hm := Lib.hid hm
    clear hn hm
    go_enter Try.func96, Try.ntmps96
    go_wp2
    go_loopw [13] (fun i wr => ∃ k : Nat, i = .int .i64 k ∧ k ≤ n ∧ Hid (xs.take k = ys.take k) ∧ Hid (Drawn w wr)) (fun i _ => n - (intOf i).toNat)
    case atStart => exact ⟨0, rfl, by omega, rfl, Drawn.refl _⟩
    case round =>
      obtain ⟨k, rfl, hk, hT, hD⟩ := hrel
      by_cases hlt : k < n
      · obtain ⟨ad, rfl, hc⟩ := (hx.drawn hD.out).num (by rw [Hn.out]; exact hlt)
        obtain ⟨bd, rfl, hd⟩ := (hy.drawn hD.out).num (by rw [Hm.out]; exact hlt)
        generalize hX : xs.getD k 0 = X at *
        generalize hY : ys.getD k 0 = Y at *
        have HX := Lib.hid hX
        have HY := Lib.hid hY
        clear hX hY
        go_wp2
        go_quiet (fail)
        go_wp2
        · have hne : (X != Y) = true := by assumption
          go_ret
          refine ⟨ret_bool ?_, hD.out.drewN _⟩
          rw [decide_eq_false]
          rintro rfl
          rw [← HX.out, ← HY.out] at hne
          simp at hne
        · have hne : (X != Y) = false := by assumption
          have hXY : X = Y := by simpa using hne
          go_roundw
          case rel => exact ⟨k + 1, by go_num, by omega, take_eq_succ hT.out (by rw [Hn.out]; exact hlt) (by rw [Hm.out]; exact hlt) (by rw [HX.out, HY.out, hXY]), hD.out.drewN _⟩
          case measure => simp [intOf]; omega
      · go_wp2
        go_ret
        refine ⟨ret_bool ?_, hD.out⟩
        obtain rfl : k = n := by omega
        have hT := hT.out
        rw [List.take_of_length_le (by rw [Hn.out]; omega), List.take_of_length_le (by rw [Hm.out]; omega)] at hT
        simp [hT]
  · have hne : ((n : Int) != (m : Int)) = true := by simp only [bne_iff_ne, ne_eq]; omega
    go_enter Try.func96, Try.ntmps96
    go_wp2
    go_ret
    refine ⟨?_, 0, rfl⟩
    rw [decide_eq_false]
    · rfl
    rintro rfl
    omega
set_option maxHeartbeats 1000000 in
theorem lmethod_any (A : Option Addr) (n c : Nat) (xs : List Int) (hn : xs.length = n) (hn' : n ≤ 9223372036854775807) (w : World) (hx : Cells w A (nums .u8 xs)) :
    Calls Try.prog 38 #[.slice A n c] w fun e w' => e = .returned (.int .i64 (methF xs)) ∧ Below w.heap.size w w' := by
  have Hn := Lib.hid hn
  have HX := Lib.hid hx
  clear hn hx
  go_enter Try.func38, Try.ntmps38
  go_wp2
  go_loopw [3] (fun i wr => ∃ k : Nat, i = .int .i64 k ∧ 1 ≤ k ∧ k ≤ 4 ∧ Hid (∀ m : Int, 1 ≤ m → m < k → xs ≠ authL m) ∧ Hid (Ext w wr)) (fun i _ => 4 - (intOf i).toNat)
  case atStart => exact ⟨1, rfl, by omega, by omega, (by intro m h1 h2; omega), (inferInstance : Ext w w)⟩
  case round =>
    obtain ⟨k, rfl, hk1, hk, HM, HE⟩ := hrel
    have XE : Ext w wr := HE.out
    by_cases hlt : k ≤ 3
    · have hkI : (k : Int) ≤ 3 := by omega
      have HLA := authL_len (k : Int)
      go_wp2_with fail
      refine (lauth_any (k : Int) _).mono ?_
      rintro e w1 ⟨v1, rfl, ho1, hb1⟩
      have S1 : Step w1 _ := ⟨hb1⟩
      obtain ⟨A1, c1, rfl, _⟩ := own_slice ho1
      have HC1 := Lib.hid (own_cells ho1)
      obtain ⟨ll, hll⟩ : ∃ ll, authL (k : Int) = ll := ⟨_, rfl⟩
      have HLL := Lib.hid hll
      rw [hll] at HC1 HLA ⊢
      clear ho1 hb1 hll
      go_wp2_with fail
      refine (sequal_any A1 A ll.length n c1 c ll xs rfl Hn.out (by omega) hn' w1 HC1.out (HX.out.ext)).mono ?_
      rintro e w2 ⟨rfl, q2, rfl⟩
      by_cases heq : ll = xs
      · rw [decide_eq_true heq]
        have HR : Hid (methF xs = k) := by
          unfold Hid
          rw [← heq, ← HLL.out]
          have h4 : k = 1 ∨ k = 2 ∨ k = 3 := by omega
          rcases h4 with rfl | rfl | rfl <;> rfl
        clear heq
        go_wp2
        go_ret
        exact ⟨ret_int HR.out.symm, Ext.out⟩
      · rw [decide_eq_false heq]
        have HNE : Hid (xs ≠ authL (k : Int)) := by unfold Hid; rw [HLL.out]; exact fun h => heq h.symm
        clear heq
        go_wp2
        go_roundw
        case rel =>
          refine ⟨k + 1, by go_num, by omega, by omega, ?_, (inferInstance : Ext w _)⟩
          intro m h1 h2
          by_cases h3 : m < k
          · exact HM.out m h1 h3
          · rw [show m = (k : Int) by omega]
            exact HNE.out
        case measure => simp [intOf]; omega
    · have hkI : ¬ (k : Int) ≤ 3 := by omega
      have HR : Hid (methF xs = 0) := by
        unfold Hid methF
        rw [if_neg (show xs ≠ [192, 35] from HM.out 1 (by omega) (by omega)), if_neg (show xs ≠ [194, 35, 5] from HM.out 2 (by omega) (by omega)), if_neg (show xs ≠ [194, 39] from HM.out 3 (by omega) (by omega))]
      go_wp2
      go_ret
      exact ⟨ret_int HR.out.symm, Ext.out⟩
set_option maxHeartbeats 1000000 in
theorem lnumber_any (A : Option Addr) (n c : Nat) (xs : List Int) (hn : xs.length = n) (hn' : n ≤ 9223372036854775807) (hb : Byt xs) (w : World) (hx : Cells w A (nums .u8 xs)) :
    Calls Try.prog 82 #[.slice A n c] w fun e w' => e = .returned (.int .u64 (numF xs)) ∧ w = w' := by
  have Hn := Lib.hid hn
  have HX := Lib.hid hx
  have HB := Lib.hid hb
  clear hn hx hb
  go_enter Try.func82, Try.ntmps82
  go_wp2
  go_loopw [3, 8] (fun v i wr => ∃ k : Nat, i = .int .i64 k ∧ k ≤ n ∧ v = .int .u64 (numF (xs.take k)) ∧ Hid (wr = w)) (fun _ i _ => n - (intOf i).toNat)
  case atStart => exact ⟨0, rfl, by omega, by simp [numF], rfl⟩
  case round =>
    obtain ⟨k, rfl, hk, rfl, HE⟩ := hrel
    obtain rfl : wr = w := HE.out
    by_cases hlt : k < n
    · obtain ⟨ad, rfl, hc⟩ := HX.out.num (by rw [Hn.out]; exact hlt)
      have HS := Lib.hid (numF_succ (xs := xs) (k := k) (by rw [Hn.out]; exact hlt))
      have hbd := numF_bd (xs.take k)
      have hx0 := HB.out.getD k
      obtain ⟨N, hN⟩ : ∃ N, numF (xs.take k) = N := ⟨_, rfl⟩
      obtain ⟨X, hX⟩ : ∃ X, xs.getD k 0 = X := ⟨_, rfl⟩
      rw [hN, hX] at HS
      rw [hN] at hbd ⊢
      rw [hX] at hc hx0
      have hn0 := hbd.1
      have hn1 := hbd.2
      have hx1 := hx0.1
      have hx2 := hx0.2
      have hww : IntKind.u64.wrap (N * 256) = N * 256 % 18446744073709551616 := by rw [IntKind.wrap_u64]
      clear hN hX hbd hx0
      go_wp2
      go_roundw
      case rel => exact ⟨k + 1, by go_num, by omega, by rw [HS.out], by first | exact rfl | exact trivial⟩
      case measure => simp [intOf]; omega
    · obtain rfl : k = n := by omega
      have HT : Hid (xs.take k = xs) := List.take_of_length_le (by rw [Hn.out]; exact Nat.le_refl _)
      go_wp2
      go_ret
      exact ⟨ret_int (congrArg numF HT.out), rfl⟩
end Go.Proofs.Ytodibldfolognaa
