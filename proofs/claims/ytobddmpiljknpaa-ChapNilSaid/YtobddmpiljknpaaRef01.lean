/-
  What the references' helpers for bytes do: Same, Lent, Kept and Spoil. Conditions: the lists are no longer than the model's memory.
-/
import Derived.Test.YtobddmpiljknpaaProg
import Derived.Test.YtobddmpiljknpaaBase
import Derived.WalkSpells
import Derived.WalkLawsBesides
import Derived.BigQuiet
import Derived.Deep.QuietTactic
import Derived.Deep.LoopGhost
import Derived.KernelRfl
import Derived.RegionTactic
import Derived.BigRegion
namespace Go.Proofs.Ytobddmpiljknpaa
open Go.RowKit
set_option linter.unusedVariables false
set_option linter.unusedSimpArgs false

theorem info_u8 : (Try.prog.info? 5).map (fun i => (i.zero, i.size, i.bytes)) = some (some (.int .u8 0), 1, 1) := by kernel_rfl

theorem take_eq_succ {xs ys : List Int} {k : Nat} (h : xs.take k = ys.take k) (hk : k < xs.length) (hk' : k < ys.length) (e : xs.getD k 0 = ys.getD k 0) : xs.take (k + 1) = ys.take (k + 1) := by
  rw [List.take_add_one, List.take_add_one, h]
  simp only [List.getD_eq_getElem?_getD, List.getElem?_eq_getElem hk, List.getElem?_eq_getElem hk', Option.getD_some] at e ⊢
  rw [e]
theorem ret_bool {a b : Bool} (h : a = b) : Ending.returned (.bool a) = .returned (.bool b) := by rw [h]

set_option maxHeartbeats 400000 in
theorem same_any (A B : Option Addr) (n m c d : Nat) (xs ys : List Int) (hn : xs.length = n) (hm : ys.length = m) (hn' : n ≤ 9223372036854775807) (hm' : m ≤ 9223372036854775807)
    (w : World) (hx : Cells w A (nums .u8 xs)) (hy : Cells w B (nums .u8 ys)) :
    Calls Try.prog 21 #[.slice A n c, .slice B m d] w fun e w' => e = .returned (.bool (decide (xs = ys))) ∧ Drawn w w' := by
  by_cases h : n = m
  · subst h
    have Hn := Lib.hid hn
    have Hm := Lib.hid hm
    clear hn hm
    go_enter Try.func21, Try.ntmps21
    go_wp2
    go_loopw [5] (fun i wr => ∃ k : Nat, i = .int .i64 k ∧ k ≤ n ∧ Hid (xs.take k = ys.take k) ∧ Hid (Drawn w wr)) (fun i _ => n - (intOf i).toNat)
    case atStart => exact ⟨0, rfl, by omega, rfl, Drawn.refl _⟩
    case round =>
      obtain ⟨k, rfl, hk, hT, hD⟩ := hrel
      by_cases hlt : k < n
      · obtain ⟨ad, rfl, hc⟩ := (hx.drawn hD.out).num (by rw [Hn.out]; exact hlt)
        obtain ⟨bd, rfl, hd⟩ := (hy.drawn hD.out).num (by rw [Hm.out]; exact hlt)
        generalize hX : xs.getD k 0 = X at *
        generalize hY : ys.getD k 0 = Y at *
        have HX := Lib.hid hX
        have HY := Lib.hid hY
        clear hX hY
        go_wp2
        go_quiet (fail)
        go_wp2
        · have hne : (X != Y) = true := by assumption
          go_ret
          refine ⟨ret_bool ?_, hD.out.drewN _⟩
          rw [decide_eq_false]
          rintro rfl
          rw [← HX.out, ← HY.out] at hne
          simp at hne
        · have hne : (X != Y) = false := by assumption
          have hXY : X = Y := by simpa using hne
          go_roundw
          case rel => exact ⟨k + 1, by go_num, by omega, take_eq_succ hT.out (by rw [Hn.out]; exact hlt) (by rw [Hm.out]; exact hlt) (by rw [HX.out, HY.out, hXY]), hD.out.drewN _⟩
          case measure => simp [intOf]; omega
      · go_wp2
        go_ret
        refine ⟨ret_bool ?_, hD.out⟩
        obtain rfl : k = n := by omega
        have hT := hT.out
        rw [List.take_of_length_le (by rw [Hn.out]; omega), List.take_of_length_le (by rw [Hm.out]; omega)] at hT
        simp [hT]
  · have hne : ((n : Int) != (m : Int)) = true := by simp only [bne_iff_ne, ne_eq]; omega
    go_enter Try.func21, Try.ntmps21
    go_wp2
    go_ret
    refine ⟨?_, 0, rfl⟩
    rw [decide_eq_false]
    · rfl
    rintro rfl
    omega
set_option maxHeartbeats 400000 in
/-- Lent: a copy, with 77 behind it. -/
theorem lent_any (A : Option Addr) (n c : Nat) (xs : List Int) (hn : xs.length = n) (hn' : n ≤ 140737488351232) (w : World) (hx : Cells w A (nums .u8 xs)) :
    Calls Try.prog 13 #[.slice A n c] w fun e w' => ∃ g cap, e = .returned (.slice (some ⟨g, 0, none⟩) n cap) ∧ n < cap ∧
      w'.ownsRow w.heap.size 5 1 (.slice (some ⟨g, 0, none⟩) (n + 1) cap) (n + 1) (nums .u8 (xs ++ [77])) ∧ Below w.heap.size w w' := by
  have Hn := Lib.hid hn
  clear hn
  go_enter Try.func13, Try.ntmps13
  go_wp2_with (first
    | (at_builtin
       refine wp_append_cells (w0 := w) w.heap.size rfl (.tmp 4) (.tmp 5) 22 5 (.int .u8 0) 1 1 rfl Try.underlying22 info_u8 rfl (by decide) (by decide) (.slice none 0 0) 0 [] A n c (nums .u8 xs) rfl rfl ?_ (nums_one _ _) (own_nil _ _ _ _) hx (Below.refl _ _) (Nat.le_refl _) ?_ ?_
       · rw [nums_length, Hn.out, Nat.mul_one]
       · omega
       intro v1 w1 ho1 hb1 hg1 hat1
       rw [List.nil_append, Nat.zero_add] at ho1
       have HO1 := Lib.hid ho1
       clear ho1 hg1 hat1 hx
       have hs1 := hb1.size)
    | (at_builtin
       refine wp_append_box (w0 := w) w.heap.size rfl (.tmp 7) (.tmp 8) 22 5 (.int .u8 0) 1 1 1 rfl Try.underlying22 info_u8 rfl (by decide) (by decide) v1 n (nums .u8 xs) [.int .u8 77] rfl rfl rfl ?_ HO1.out hb1 hb1.size ?_ ?_
       · intro u hu
         simp at hu
         subst hu
         rfl
       · omega
       intro v2 w2 ho2 hb2 hg2 hat2
       obtain ⟨g, cap, rfl, hbg, hgl, hcap⟩ := own_form ho2 (by omega)
       have HO2 := Lib.hid ho2
       clear ho2 hg2 hat2 HO1 hb1))
  go_ret
  exact ⟨g, cap, rfl, by omega, by rw [nums_append]; exact HO2.out, hb2⟩
set_option maxHeartbeats 400000 in
/-- Kept: it is, where the copy is as it was lent. -/
theorem kept_true (g cap n m d base : Nat) (B : Option Addr) (xs : List Int) (hn : xs.length = n) (hm : n = m) (hc : n < cap) (hn' : n ≤ 140737488351232) (w : World)
    (ho : w.ownsRow base 5 1 (.slice (some ⟨g, 0, none⟩) (n + 1) cap) (n + 1) (nums .u8 (xs ++ [77]))) (hx : Cells w B (nums .u8 xs)) :
    Calls Try.prog 17 #[.slice (some ⟨g, 0, none⟩) n cap, .slice B m d] w fun e w' => e = .returned (.bool true) ∧ Drawn w w' := by
  subst hm
  have hcs : Cells w (some ⟨g, 0, none⟩) (nums .u8 xs) := by
    have := own_cells ho
    rw [nums_append] at this
    exact this.left
  have hcell : w.cell? ⟨g, n, none⟩ = some (.int .u8 77) := by
    have := ho.cellAt n (by omega)
    rw [this, nums_get _ _ _ (by simp [hn]), List.getD_eq_getElem?_getD, List.getElem?_append_right (by omega), hn]
    simp
  have HO := Lib.hid ho
  have Hn := Lib.hid hn
  clear ho hn
  go_enter Try.func17, Try.ntmps17
  go_wp2_with fail
  refine (same_any _ _ _ _ _ _ xs xs Hn.out Hn.out (by omega) (by omega) w hcs hx).mono ?_
  rintro e w' ⟨rfl, q, rfl⟩
  simp only [decide_true]
  go_wp2
  go_ret
  exact ⟨rfl, q, rfl⟩
set_option maxHeartbeats 400000 in
/-- Spoil: it writes into the row alone. -/
theorem spoil_any (A : Option Addr) (n c base : Nat) (xs : List Int) (w : World) (hn' : n ≤ 140737488355300)
    (ho : w.ownsRow base 5 1 (.slice A n c) n (nums .u8 xs)) :
    Calls Try.prog 22 #[.slice A n c] w fun e w' => e = .returned (.tuple #[]) ∧ w.grownBy w' (Value.slice A n c).ownBlock := by
  have HO := Lib.hid (own_weaken ho (Nat.zero_le _))
  clear ho
  go_enter Try.func22, Try.ntmps22
  go_wp2
  go_loopw [2] (fun i wr => ∃ k : Nat, i = .int .i64 k ∧ k ≤ n ∧ Hid (∃ ys, wr.ownsRow 0 5 1 (.slice A n c) n (nums .u8 ys)) ∧ Hid (w.grownBy wr (Value.slice A n c).ownBlock)) (fun i _ => n - (intOf i).toNat)
  case atStart => exact ⟨0, rfl, by omega, ⟨_, HO.out⟩, grown_refl _ _⟩
  case round =>
    obtain ⟨k, rfl, hk, hO, hG⟩ := hrel
    obtain ⟨ys, hys⟩ := hO.out
    by_cases hlt : k < n
    · obtain ⟨g, c', hv, hbg, hgl, hcap⟩ := own_form hys (by omega)
      injection hv with hA _ hcc
      subst hA
      subst hcc
      have hyl : ys.length = n := by have := own_len1 hys; rwa [nums_length] at this
      have hc := hys.cellAt k (by omega)
      rw [nums_get _ _ _ (by omega)] at hc
      have hf := hys.frozenAt k
      generalize ys.getD k 0 = X at *
      have HY := Lib.hid hys
      clear hys hyl
      go_wp2
      go_roundw
      case rel =>
        have h := (HY.out.stored k (.int .u8 (bits BinOp.xor IntKind.u8 X 90))).1
        rw [← nums_set] at h
        exact ⟨k + 1, by go_num, by omega, ⟨_, h⟩, grown_setCell (p := ⟨g, k, none⟩) hG.out (.inr rfl) _⟩
      case measure => simp [intOf]; omega
    · obtain rfl : n = k := by omega
      have hl : ys.length = n := by have := own_len1 hys; rwa [nums_length] at this
      have HL := Lib.hid hl
      have HY := Lib.hid hys
      clear hl hys
      go_wp2_with
        (at_builtin
         refine wp_append_box (w0 := wr) 0 rfl (.tmp 17) (.tmp 18) 22 5 (.int .u8 0) 1 1 1 rfl Try.underlying22 info_u8 rfl (by decide) (by decide) (.slice A n c) n (nums .u8 ys) [.int .u8 99] rfl rfl rfl ?_ HY.out (Below.refl _ _) (Nat.zero_le _) ?_ ?_
         · intro u hu
           simp at hu
           subst hu
           rfl
         · omega
         intro v2 w2 ho2 hb2 hg2 hat2
         obtain ⟨g, cap, rfl, hbg, hgl, hcap⟩ := own_form ho2 (by omega)
         have hc : w2.cell? ⟨g, n, none⟩ = some (.int .u8 99) := by
           rw [ho2.cellAt n (by omega), List.getElem?_append_right (by rw [nums_length, HL.out]; omega)]
           simp [nums_length, HL.out]
         have hf := ho2.frozenAt n
         have HG2 := Lib.hid (grown_trans_row hG.out hg2 (.inl rfl))
         have HA2 : Hid (w.heap.size ≤ g ∨ some g = (Value.slice A n c).ownBlock) := by
           rcases hat2 with h | ⟨b, h, hb⟩
           · exact .inr h
           · injection h with h
             subst h
             exact .inl (Nat.le_trans hG.out.size hb)
         clear hb2 hat2 hg2 ho2)
      go_end0
      exact ⟨rfl, grown_setCell HG2.out HA2.out _⟩
end Go.Proofs.Ytobddmpiljknpaa
