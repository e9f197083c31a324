/-
  ccp.Frame: bytes are read as a frame. Conditions: the list is no longer than the model's memory.
-/
import Derived.Test.YtnhmpmibkpoipaaCcG
namespace Go.Proofs.Ytnhmpmibkpoipaa
open Go.RowKit
set_option linter.unusedVariables false
set_option linter.unusedSimpArgs false

def frK (xs : List Int) : Nat := if xs.getD 0 0 % 2 = 0 then 2 else 1
def frN (xs : List Int) : Int := if xs.getD 0 0 % 2 = 0 then xs.getD 0 0 * 256 + xs.getD 1 0 else xs.getD 0 0
def frE (xs : List Int) : Int := if xs.length = 0 ∨ (xs.length = 1 ∧ xs.getD 0 0 % 2 = 0) then 8 else if protoB (frN xs) = false then 30 else if 16384 < xs.length - frK xs then 4 else 0
def frP (xs : List Int) : Int := if frE xs = 0 then frN xs else 0
def frD (xs : List Int) : List Int := if frE xs = 0 then xs.drop (frK xs) else []
theorem fr_no {xs : List Int} {k : Int} (h : frE xs = k) (hk : k ≠ 0) : frP xs = 0 ∧ frD xs = [] := by
  unfold frP frD
  rw [if_neg (by rw [h]; exact hk), if_neg (by rw [h]; exact hk)]
  exact ⟨rfl, rfl⟩
theorem fr_yes {xs : List Int} (h : frE xs = 0) : frP xs = frN xs ∧ frD xs = xs.drop (frK xs) := by
  unfold frP frD
  rw [if_pos h, if_pos h]
  exact ⟨rfl, rfl⟩
def FrameTells (xs : List Int) (w : World) (e : Ending) (w' : World) : Prop :=
  ∃ A n c, e = .returned (.tuple #[.agg #[.int .i64 (frP xs), .slice A n c], .int .i64 (frE xs)]) ∧ (frD xs).length = n ∧ w'.ownsRow w.heap.size 5 1 (.slice A n c) n (nums .u8 (frD xs)) ∧ Below w.heap.size w w'
theorem frameTells_no {xs : List Int} {k : Int} {w w' : World} (h : frE xs = k) (hk : k ≠ 0) (hb : Below w.heap.size w w') : FrameTells xs w (.returned (.tuple #[.agg #[.int .i64 0, .slice none 0 0], .int .i64 k])) w' := by
  obtain ⟨h1, h2⟩ := fr_no h hk
  exact ⟨none, 0, 0, by rw [h1, h], by rw [h2]; rfl, by rw [h2]; exact own_nil _ _ _ _, hb⟩
theorem or_i64_byte {x y : Int} (h0 : 0 ≤ x) (h1 : x < 256) (h2 : 0 ≤ y) (h3 : y < 256) : bits .or .i64 (x * 256) y = x * 256 + y :=
  bits_join .i64 63 (by decide) wrap64 8 (x * 256) y (by omega) (by omega) (by omega) h2 (by omega) (by omega)
theorem and1_u8 {x : Int} (h : 0 ≤ x) (h' : x < 256) : bits .and .u8 x 1 = x % 2 := bits_mask .u8 8 (by decide) wraps_u8 1 (by decide) x h (by omega)
set_option maxRecDepth 100000 in
set_option maxHeartbeats 8000000 in
theorem frame22_any (A : Option Addr) (n c : Nat) (xs : List Int) (hn : xs.length = n) (hnc : n ≤ c) (hn' : n ≤ 140737488351232) (hb : Byt xs) (w : World) (hx : Cells w A (nums .u8 xs)) :
    Calls Try.prog 16 #[.slice A n c] w (FrameTells xs w) := by
  have Hn := Lib.hid hn
  have HX := Lib.hid hx
  have b0 := hb.getD 0
  have b1 := hb.getD 1
  have HBY := Lib.hid hb
  clear hn hx hb
  by_cases h0 : n = 0
  · subst h0
    have HE : Hid (frE xs = 8) := by unfold Hid frE; rw [if_pos (.inl Hn.out)]
    clear b0 b1
    go_enter Try.func16, Try.ntmps16
    go_wp2
    exact bodyPost_ret (v := .tuple #[.agg #[.int .i64 0, .slice none 0 0], .int .i64 8]) (by simp [results, Try.results16, go_sem]) rfl (frameTells_no HE.out (by decide) Ext.out)
  have h0' : ((n : Int) == 0) = false := by rw [beq_eq_false_iff_ne]; omega
  obtain ⟨ad, rfl, hc0⟩ := (HX.out.alloc (.cells #[.int .i64 0, .slice none 0 0] 24)).num (i := 0) (by rw [Hn.out]; omega)
  have hc0' : (w.alloc (.cells #[.int .i64 0, .slice none 0 0] 24)).cell? ad = some (.int .u8 (xs.getD 0 0)) := hc0
  have hnpos : 0 < n := by omega
  clear hc0
  obtain ⟨a, ha⟩ : ∃ a, xs.getD 0 0 = a := ⟨_, rfl⟩
  rw [ha] at hc0' b0
  obtain ⟨b00, b01⟩ := b0
  have hand := and1 (x := a) (by omega) (by omega)
  have hand8 := and1_u8 b00 b01
  by_cases he : a % 2 = 0
  · have he' : (bits .and .i64 a 1 == 0) = true := by rw [hand, he]; rfl
    have he2 : (bits .and .u8 a 1 == 0) = true := by rw [hand8, he]; rfl
    by_cases h1 : n = 1
    · subst h1
      have HE : Hid (frE xs = 8) := by unfold Hid frE; rw [if_pos (.inr ⟨Hn.out, by rw [ha]; exact he⟩)]
      clear hand hand8 he ha
      go_enter Try.func16, Try.ntmps16
      go_wp2
      exact bodyPost_ret (v := .tuple #[.agg #[.int .i64 0, .slice none 0 0], .int .i64 8]) (by simp [results, Try.results16, go_sem]) rfl (frameTells_no HE.out (by decide) Ext.out)
    · have h1' : ((n : Int) == 1) = false := by rw [beq_eq_false_iff_ne]; omega
      have hc1 : (w.alloc (.cells #[.int .i64 0, .slice none 0 0] 24)).cell? ⟨ad.block, ad.off + 1, none⟩ = some (.int .u8 (xs.getD 1 0)) := by
        obtain ⟨ad', he, hc1⟩ := (HX.out.alloc (.cells #[.int .i64 0, .slice none 0 0] 24)).num (i := 1) (by rw [Hn.out]; omega)
        injection he with he
        subst he
        exact hc1
      have hn2 : 1 < n := by omega
      have hn2I : (1 : Int) < (n : Int) := by omega
      obtain ⟨b, hb⟩ : ∃ b, xs.getD 1 0 = b := ⟨_, rfl⟩
      rw [hb] at hc1 b1
      obtain ⟨b10, b11⟩ := b1
      have hor := or_i64_byte b00 b01 b10 b11
      obtain ⟨N, hN⟩ : ∃ N, a * 256 + b = N := ⟨_, rfl⟩
      rw [hN] at hor
      have hNb : 0 ≤ N ∧ N ≤ 65535 := by omega
      have HFN : Hid (frN xs = N) := by unfold Hid frN; rw [ha, hb, if_pos he]; exact hN
      have HFK : Hid (frK xs = 2) := by unfold Hid frK; rw [ha, if_pos he]
      have HQ : Hid (¬ (xs.length = 0 ∨ (xs.length = 1 ∧ xs.getD 0 0 % 2 = 0))) := by unfold Hid; rw [Hn.out]; omega
      obtain ⟨hN0, hN1⟩ := hNb
      clear hand hand8 he ha hb hN h0 h1
      rcases hp : protoB N with _ | _
      · have HP := Lib.hid hp
        have HE : Hid (frE xs = 30) := by unfold Hid frE; rw [if_neg HQ.out, HFN.out, if_pos hp]
        clear hp
        go_enter Try.func16, Try.ntmps16
        go_wp2_with fail
        refine (proto22_any N (by omega) (by omega) _).mono ?_
        rintro e w0 ⟨rfl, rfl⟩
        rw [HP.out]
        go_wp2
        exact bodyPost_ret (v := .tuple #[.agg #[.int .i64 0, .slice none 0 0], .int .i64 30]) (by simp [results, Try.results16, go_sem]) rfl (frameTells_no HE.out (by decide) Ext.out)
      have HP := Lib.hid hp
      by_cases hs : 16384 < n - 2
      · have hs' : (16384 : Int) < (n : Int) - 2 := by omega
        have HE : Hid (frE xs = 4) := by unfold Hid frE; rw [if_neg HQ.out, HFN.out, if_neg (by simp [hp]), HFK.out, Hn.out, if_pos hs]
        clear hp hs
        go_enter Try.func16, Try.ntmps16
        go_wp2_with fail
        refine (proto22_any N (by omega) (by omega) _).mono ?_
        rintro e w0 ⟨rfl, rfl⟩
        rw [HP.out]
        go_wp2
        exact bodyPost_ret (v := .tuple #[.agg #[.int .i64 0, .slice none 0 0], .int .i64 4]) (by simp [results, Try.results16, go_sem]) rfl (frameTells_no HE.out (by decide) Ext.out)
      have hs' : ¬ (16384 : Int) < (n : Int) - 2 := by omega
      have HE : Hid (frE xs = 0) := by unfold Hid frE; rw [if_neg HQ.out, HFN.out, if_neg (by simp [hp]), HFK.out, Hn.out, if_neg hs]
      have hy := fr_yes HE.out
      rw [HFN.out, HFK.out] at hy
      have HFP := Lib.hid hy.1
      have HFD := Lib.hid hy.2
      have HL : Hid ((xs.drop 2).length = n - 2) := by unfold Hid; rw [List.length_drop, Hn.out]
      have hkc : 2 ≤ c := by omega
      have hkcI : (2 : Int) ≤ (c : Int) := by omega
      have hkn : 2 ≤ n := by omega
      have hknI : (2 : Int) ≤ (n : Int) := by omega
      have HCD : Hid (Cells w (if c = 2 then some ad else (some ad).map (·.add (2 * 1))) (nums .u8 (xs.drop 2))) := by
        have h1 := HX.out.drop (n := n) (c := c) (size := 1) (by rw [nums_length, Hn.out, Nat.mul_one]) hnc 2 (by omega)
        rw [Nat.mul_one, ← nums_drop] at h1
        exact h1
      clear hp hy hs
      by_cases hck : c = 2
      · subst hck
        obtain rfl : n = 2 := by omega
        have HC : Hid (Cells w (some ad) (nums .u8 (xs.drop 2))) := by
          have h1 := HCD.out
          rw [if_pos rfl] at h1
          exact h1
        clear HCD
        go_enter Try.func16, Try.ntmps16
        go_wp2_with fail
        refine (proto22_any N (by omega) (by omega) _).mono ?_
        rintro e w0 ⟨rfl, rfl⟩
        rw [HP.out]
        go_wp2_with
          (at_builtin
           refine wp_append_cells (w0 := (w.alloc (.cells #[.int .i64 0, .slice none 0 0] 24))) (w.alloc (.cells #[.int .i64 0, .slice none 0 0] 24)).heap.size rfl (.const (.slice none 0 0)) (.tmp 51) 22 5 (.int .u8 0) 1 1 rfl Try.underlying22 info_u8 rfl (by decide) (by decide) (.slice none 0 0) 0 [] (some ad) (2 - 2) (2 - 2) (nums .u8 (xs.drop 2)) rfl rfl (by rw [nums_length, HL.out, Nat.mul_one]) (nums_one _ _) (own_nil _ _ _ _) (by exact HC.out.ext) Ext.out Ext.out.size (by omega) ?_
           intro v1 w1 ho1 hb1 hg1 hat1
           rw [List.nil_append, Nat.zero_add] at ho1
           obtain ⟨A1, c1, rfl, hc1⟩ := own_slice ho1
           have X1 : Ext (w.alloc (.cells #[.int .i64 0, .slice none 0 0] 24)) w1 := ⟨hb1⟩
           have Y1 : Ext w w1 := Ext.trans_ inferInstance X1
           have P0 := at_ext (w' := w1) (at_new w (.cells #[.int .i64 0, .slice none 0 0] 24))
           have f0 := at_frozen P0 0
           have f1 := at_frozen P0 1
           have r0 : w1.cell? ⟨w.heap.size, 0, none⟩ = some (.int .i64 0) := at_cell P0 0
           have r1 : w1.cell? ⟨w.heap.size, 1, none⟩ = some (.slice none 0 0) := at_cell P0 1
           have hd0 := at_cell (at_set2 (.int .i64 N) (.slice A1 ((2 - 2)) c1) P0) 0
           have hd1 := at_cell (at_set2 (.int .i64 N) (.slice A1 ((2 - 2)) c1) P0) 1
           have HD0 := Lib.hid hd0
           have HD1 := Lib.hid hd1
           have HO1 := Lib.hid (own_young (own_young (p := ⟨w.heap.size, 0, none⟩) (u := .int .i64 N) ho1 (by simp)) (p := ⟨w.heap.size, 1, none⟩) (u := .slice A1 ((2 - 2)) c1) (by simp))
           clear P0 ho1 hb1 hg1 hat1 hc1 hd0 hd1)
        have hd0 := HD0.out
        have hd1 := HD1.out
        simp only [List.getElem?_toArray, List.getElem?_cons_zero, List.getElem?_cons_succ] at hd0 hd1
        exact bodyPost_ret (v := .tuple #[.agg #[.int .i64 N, .slice A1 ((2 - 2)) c1], .int .i64 0]) (by simp [results, Try.results16, go_sem, hd0, hd1]) rfl ⟨A1, _, c1, by rw [HE.out, HFP.out], by rw [HFD.out]; exact HL.out, by rw [HFD.out]; exact own_weaken HO1.out (by simp), Ext.out⟩
      · have HC : Hid (Cells w (some (ad.add 2)) (nums .u8 (xs.drop 2))) := by
          have h1 := HCD.out
          rw [if_neg hck] at h1
          exact h1
        have hck' : ¬ (c : Int) = 2 := by omega
        clear HCD
        go_enter Try.func16, Try.ntmps16
        go_wp2_with fail
        refine (proto22_any N (by omega) (by omega) _).mono ?_
        rintro e w0 ⟨rfl, rfl⟩
        rw [HP.out]
        go_wp2_with
          (at_builtin
           refine wp_append_cells (w0 := (w.alloc (.cells #[.int .i64 0, .slice none 0 0] 24))) (w.alloc (.cells #[.int .i64 0, .slice none 0 0] 24)).heap.size rfl (.const (.slice none 0 0)) (.tmp 51) 22 5 (.int .u8 0) 1 1 rfl Try.underlying22 info_u8 rfl (by decide) (by decide) (.slice none 0 0) 0 [] (some (ad.add 2)) (n - 2) (c - 2) (nums .u8 (xs.drop 2)) rfl rfl (by rw [nums_length, HL.out, Nat.mul_one]) (nums_one _ _) (own_nil _ _ _ _) (by exact HC.out.ext) Ext.out Ext.out.size (by omega) ?_
           intro v1 w1 ho1 hb1 hg1 hat1
           rw [List.nil_append, Nat.zero_add] at ho1
           obtain ⟨A1, c1, rfl, hc1⟩ := own_slice ho1
           have X1 : Ext (w.alloc (.cells #[.int .i64 0, .slice none 0 0] 24)) w1 := ⟨hb1⟩
           have Y1 : Ext w w1 := Ext.trans_ inferInstance X1
           have P0 := at_ext (w' := w1) (at_new w (.cells #[.int .i64 0, .slice none 0 0] 24))
           have f0 := at_frozen P0 0
           have f1 := at_frozen P0 1
           have r0 : w1.cell? ⟨w.heap.size, 0, none⟩ = some (.int .i64 0) := at_cell P0 0
           have r1 : w1.cell? ⟨w.heap.size, 1, none⟩ = some (.slice none 0 0) := at_cell P0 1
           have hd0 := at_cell (at_set2 (.int .i64 N) (.slice A1 ((n - 2)) c1) P0) 0
           have hd1 := at_cell (at_set2 (.int .i64 N) (.slice A1 ((n - 2)) c1) P0) 1
           have HD0 := Lib.hid hd0
           have HD1 := Lib.hid hd1
           have HO1 := Lib.hid (own_young (own_young (p := ⟨w.heap.size, 0, none⟩) (u := .int .i64 N) ho1 (by simp)) (p := ⟨w.heap.size, 1, none⟩) (u := .slice A1 ((n - 2)) c1) (by simp))
           clear P0 ho1 hb1 hg1 hat1 hc1 hd0 hd1)
        have hd0 := HD0.out
        have hd1 := HD1.out
        simp only [List.getElem?_toArray, List.getElem?_cons_zero, List.getElem?_cons_succ] at hd0 hd1
        exact bodyPost_ret (v := .tuple #[.agg #[.int .i64 N, .slice A1 ((n - 2)) c1], .int .i64 0]) (by simp [results, Try.results16, go_sem, hd0, hd1]) rfl ⟨A1, _, c1, by rw [HE.out, HFP.out], by rw [HFD.out]; exact HL.out, by rw [HFD.out]; exact own_weaken HO1.out (by simp), Ext.out⟩
  · have he' : (bits .and .i64 a 1 == 0) = false := by rw [hand]; simpa using he
    have he2 : (bits .and .u8 a 1 == 0) = false := by rw [hand8]; simpa using he
    have HFN : Hid (frN xs = a) := by unfold Hid frN; rw [ha, if_neg he]
    have HFK : Hid (frK xs = 1) := by unfold Hid frK; rw [ha, if_neg he]
    have HQ : Hid (¬ (xs.length = 0 ∨ (xs.length = 1 ∧ xs.getD 0 0 % 2 = 0))) := by unfold Hid; rw [Hn.out, ha]; omega
    clear hand hand8 he ha h0 b1
    by_cases h1 : n = 1
    · have h1' : ((n : Int) == 1) = true := by rw [h1]; rfl
      clear h1
      rcases hp : protoB a with _ | _
      · have HP := Lib.hid hp
        have HE : Hid (frE xs = 30) := by unfold Hid frE; rw [if_neg HQ.out, HFN.out, if_pos hp]
        clear hp
        go_enter Try.func16, Try.ntmps16
        go_wp2_with fail
        refine (proto22_any a (by omega) (by omega) _).mono ?_
        rintro e w0 ⟨rfl, rfl⟩
        rw [HP.out]
        go_wp2
        exact bodyPost_ret (v := .tuple #[.agg #[.int .i64 0, .slice none 0 0], .int .i64 30]) (by simp [results, Try.results16, go_sem]) rfl (frameTells_no HE.out (by decide) Ext.out)
      have HP := Lib.hid hp
      by_cases hs : 16384 < n - 1
      · have hs' : (16384 : Int) < (n : Int) - 1 := by omega
        have HE : Hid (frE xs = 4) := by unfold Hid frE; rw [if_neg HQ.out, HFN.out, if_neg (by simp [hp]), HFK.out, Hn.out, if_pos hs]
        clear hp hs
        go_enter Try.func16, Try.ntmps16
        go_wp2_with fail
        refine (proto22_any a (by omega) (by omega) _).mono ?_
        rintro e w0 ⟨rfl, rfl⟩
        rw [HP.out]
        go_wp2
        exact bodyPost_ret (v := .tuple #[.agg #[.int .i64 0, .slice none 0 0], .int .i64 4]) (by simp [results, Try.results16, go_sem]) rfl (frameTells_no HE.out (by decide) Ext.out)
      have hs' : ¬ (16384 : Int) < (n : Int) - 1 := by omega
      have HE : Hid (frE xs = 0) := by unfold Hid frE; rw [if_neg HQ.out, HFN.out, if_neg (by simp [hp]), HFK.out, Hn.out, if_neg hs]
      have hy := fr_yes HE.out
      rw [HFN.out, HFK.out] at hy
      have HFP := Lib.hid hy.1
      have HFD := Lib.hid hy.2
      have HL : Hid ((xs.drop 1).length = n - 1) := by unfold Hid; rw [List.length_drop, Hn.out]
      have hkc : 1 ≤ c := by omega
      have hkcI : (1 : Int) ≤ (c : Int) := by omega
      have hkn : 1 ≤ n := by omega
      have hknI : (1 : Int) ≤ (n : Int) := by omega
      have HCD : Hid (Cells w (if c = 1 then some ad else (some ad).map (·.add (1 * 1))) (nums .u8 (xs.drop 1))) := by
        have h1 := HX.out.drop (n := n) (c := c) (size := 1) (by rw [nums_length, Hn.out, Nat.mul_one]) hnc 1 (by omega)
        rw [Nat.mul_one, ← nums_drop] at h1
        exact h1
      clear hp hy hs
      by_cases hck : c = 1
      · subst hck
        obtain rfl : n = 1 := by omega
        have HC : Hid (Cells w (some ad) (nums .u8 (xs.drop 1))) := by
          have h1 := HCD.out
          rw [if_pos rfl] at h1
          exact h1
        clear HCD
        go_enter Try.func16, Try.ntmps16
        go_wp2_with fail
        refine (proto22_any a (by omega) (by omega) _).mono ?_
        rintro e w0 ⟨rfl, rfl⟩
        rw [HP.out]
        go_wp2_with
          (at_builtin
           refine wp_append_cells (w0 := (w.alloc (.cells #[.int .i64 0, .slice none 0 0] 24))) (w.alloc (.cells #[.int .i64 0, .slice none 0 0] 24)).heap.size rfl (.const (.slice none 0 0)) (.tmp 51) 22 5 (.int .u8 0) 1 1 rfl Try.underlying22 info_u8 rfl (by decide) (by decide) (.slice none 0 0) 0 [] (some ad) (1 - 1) (1 - 1) (nums .u8 (xs.drop 1)) rfl rfl (by rw [nums_length, HL.out, Nat.mul_one]) (nums_one _ _) (own_nil _ _ _ _) (by exact HC.out.ext) Ext.out Ext.out.size (by omega) ?_
           intro v1 w1 ho1 hb1 hg1 hat1
           rw [List.nil_append, Nat.zero_add] at ho1
           obtain ⟨A1, c1, rfl, hc1⟩ := own_slice ho1
           have X1 : Ext (w.alloc (.cells #[.int .i64 0, .slice none 0 0] 24)) w1 := ⟨hb1⟩
           have Y1 : Ext w w1 := Ext.trans_ inferInstance X1
           have P0 := at_ext (w' := w1) (at_new w (.cells #[.int .i64 0, .slice none 0 0] 24))
           have f0 := at_frozen P0 0
           have f1 := at_frozen P0 1
           have r0 : w1.cell? ⟨w.heap.size, 0, none⟩ = some (.int .i64 0) := at_cell P0 0
           have r1 : w1.cell? ⟨w.heap.size, 1, none⟩ = some (.slice none 0 0) := at_cell P0 1
           have hd0 := at_cell (at_set2 (.int .i64 a) (.slice A1 ((1 - 1)) c1) P0) 0
           have hd1 := at_cell (at_set2 (.int .i64 a) (.slice A1 ((1 - 1)) c1) P0) 1
           have HD0 := Lib.hid hd0
           have HD1 := Lib.hid hd1
           have HO1 := Lib.hid (own_young (own_young (p := ⟨w.heap.size, 0, none⟩) (u := .int .i64 a) ho1 (by simp)) (p := ⟨w.heap.size, 1, none⟩) (u := .slice A1 ((1 - 1)) c1) (by simp))
           clear P0 ho1 hb1 hg1 hat1 hc1 hd0 hd1)
        have hd0 := HD0.out
        have hd1 := HD1.out
        simp only [List.getElem?_toArray, List.getElem?_cons_zero, List.getElem?_cons_succ] at hd0 hd1
        exact bodyPost_ret (v := .tuple #[.agg #[.int .i64 a, .slice A1 ((1 - 1)) c1], .int .i64 0]) (by simp [results, Try.results16, go_sem, hd0, hd1]) rfl ⟨A1, _, c1, by rw [HE.out, HFP.out], by rw [HFD.out]; exact HL.out, by rw [HFD.out]; exact own_weaken HO1.out (by simp), Ext.out⟩
      · have HC : Hid (Cells w (some (ad.add 1)) (nums .u8 (xs.drop 1))) := by
          have h1 := HCD.out
          rw [if_neg hck] at h1
          exact h1
        have hck' : ¬ (c : Int) = 1 := by omega
        clear HCD
        go_enter Try.func16, Try.ntmps16
        go_wp2_with fail
        refine (proto22_any a (by omega) (by omega) _).mono ?_
        rintro e w0 ⟨rfl, rfl⟩
        rw [HP.out]
        go_wp2_with
          (at_builtin
           refine wp_append_cells (w0 := (w.alloc (.cells #[.int .i64 0, .slice none 0 0] 24))) (w.alloc (.cells #[.int .i64 0, .slice none 0 0] 24)).heap.size rfl (.const (.slice none 0 0)) (.tmp 51) 22 5 (.int .u8 0) 1 1 rfl Try.underlying22 info_u8 rfl (by decide) (by decide) (.slice none 0 0) 0 [] (some (ad.add 1)) (n - 1) (c - 1) (nums .u8 (xs.drop 1)) rfl rfl (by rw [nums_length, HL.out, Nat.mul_one]) (nums_one _ _) (own_nil _ _ _ _) (by exact HC.out.ext) Ext.out Ext.out.size (by omega) ?_
           intro v1 w1 ho1 hb1 hg1 hat1
           rw [List.nil_append, Nat.zero_add] at ho1
           obtain ⟨A1, c1, rfl, hc1⟩ := own_slice ho1
           have X1 : Ext (w.alloc (.cells #[.int .i64 0, .slice none 0 0] 24)) w1 := ⟨hb1⟩
           have Y1 : Ext w w1 := Ext.trans_ inferInstance X1
           have P0 := at_ext (w' := w1) (at_new w (.cells #[.int .i64 0, .slice none 0 0] 24))
           have f0 := at_frozen P0 0
           have f1 := at_frozen P0 1
           have r0 : w1.cell? ⟨w.heap.size, 0, none⟩ = some (.int .i64 0) := at_cell P0 0
           have r1 : w1.cell? ⟨w.heap.size, 1, none⟩ = some (.slice none 0 0) := at_cell P0 1
           have hd0 := at_cell (at_set2 (.int .i64 a) (.slice A1 ((n - 1)) c1) P0) 0
           have hd1 := at_cell (at_set2 (.int .i64 a) (.slice A1 ((n - 1)) c1) P0) 1
           have HD0 := Lib.hid hd0
           have HD1 := Lib.hid hd1
           have HO1 := Lib.hid (own_young (own_young (p := ⟨w.heap.size, 0, none⟩) (u := .int .i64 a) ho1 (by simp)) (p := ⟨w.heap.size, 1, none⟩) (u := .slice A1 ((n - 1)) c1) (by simp))
           clear P0 ho1 hb1 hg1 hat1 hc1 hd0 hd1)
        have hd0 := HD0.out
        have hd1 := HD1.out
        simp only [List.getElem?_toArray, List.getElem?_cons_zero, List.getElem?_cons_succ] at hd0 hd1
        exact bodyPost_ret (v := .tuple #[.agg #[.int .i64 a, .slice A1 ((n - 1)) c1], .int .i64 0]) (by simp [results, Try.results16, go_sem, hd0, hd1]) rfl ⟨A1, _, c1, by rw [HE.out, HFP.out], by rw [HFD.out]; exact HL.out, by rw [HFD.out]; exact own_weaken HO1.out (by simp), Ext.out⟩
    · have h1' : ((n : Int) == 1) = false := by rw [beq_eq_false_iff_ne]; omega
      clear h1
      rcases hp : protoB a with _ | _
      · have HP := Lib.hid hp
        have HE : Hid (frE xs = 30) := by unfold Hid frE; rw [if_neg HQ.out, HFN.out, if_pos hp]
        clear hp
        go_enter Try.func16, Try.ntmps16
        go_wp2_with fail
        refine (proto22_any a (by omega) (by omega) _).mono ?_
        rintro e w0 ⟨rfl, rfl⟩
        rw [HP.out]
        go_wp2
        exact bodyPost_ret (v := .tuple #[.agg #[.int .i64 0, .slice none 0 0], .int .i64 30]) (by simp [results, Try.results16, go_sem]) rfl (frameTells_no HE.out (by decide) Ext.out)
      have HP := Lib.hid hp
      by_cases hs : 16384 < n - 1
      · have hs' : (16384 : Int) < (n : Int) - 1 := by omega
        have HE : Hid (frE xs = 4) := by unfold Hid frE; rw [if_neg HQ.out, HFN.out, if_neg (by simp [hp]), HFK.out, Hn.out, if_pos hs]
        clear hp hs
        go_enter Try.func16, Try.ntmps16
        go_wp2_with fail
        refine (proto22_any a (by omega) (by omega) _).mono ?_
        rintro e w0 ⟨rfl, rfl⟩
        rw [HP.out]
        go_wp2
        exact bodyPost_ret (v := .tuple #[.agg #[.int .i64 0, .slice none 0 0], .int .i64 4]) (by simp [results, Try.results16, go_sem]) rfl (frameTells_no HE.out (by decide) Ext.out)
      have hs' : ¬ (16384 : Int) < (n : Int) - 1 := by omega
      have HE : Hid (frE xs = 0) := by unfold Hid frE; rw [if_neg HQ.out, HFN.out, if_neg (by simp [hp]), HFK.out, Hn.out, if_neg hs]
      have hy := fr_yes HE.out
      rw [HFN.out, HFK.out] at hy
      have HFP := Lib.hid hy.1
      have HFD := Lib.hid hy.2
      have HL : Hid ((xs.drop 1).length = n - 1) := by unfold Hid; rw [List.length_drop, Hn.out]
      have hkc : 1 ≤ c := by omega
      have hkcI : (1 : Int) ≤ (c : Int) := by omega
      have hkn : 1 ≤ n := by omega
      have hknI : (1 : Int) ≤ (n : Int) := by omega
      have HCD : Hid (Cells w (if c = 1 then some ad else (some ad).map (·.add (1 * 1))) (nums .u8 (xs.drop 1))) := by
        have h1 := HX.out.drop (n := n) (c := c) (size := 1) (by rw [nums_length, Hn.out, Nat.mul_one]) hnc 1 (by omega)
        rw [Nat.mul_one, ← nums_drop] at h1
        exact h1
      clear hp hy hs
      by_cases hck : c = 1
      · subst hck
        obtain rfl : n = 1 := by omega
        have HC : Hid (Cells w (some ad) (nums .u8 (xs.drop 1))) := by
          have h1 := HCD.out
          rw [if_pos rfl] at h1
          exact h1
        clear HCD
        go_enter Try.func16, Try.ntmps16
        go_wp2_with fail
        refine (proto22_any a (by omega) (by omega) _).mono ?_
        rintro e w0 ⟨rfl, rfl⟩
        rw [HP.out]
        go_wp2_with
          (at_builtin
           refine wp_append_cells (w0 := (w.alloc (.cells #[.int .i64 0, .slice none 0 0] 24))) (w.alloc (.cells #[.int .i64 0, .slice none 0 0] 24)).heap.size rfl (.const (.slice none 0 0)) (.tmp 51) 22 5 (.int .u8 0) 1 1 rfl Try.underlying22 info_u8 rfl (by decide) (by decide) (.slice none 0 0) 0 [] (some ad) (1 - 1) (1 - 1) (nums .u8 (xs.drop 1)) rfl rfl (by rw [nums_length, HL.out, Nat.mul_one]) (nums_one _ _) (own_nil _ _ _ _) (by exact HC.out.ext) Ext.out Ext.out.size (by omega) ?_
           intro v1 w1 ho1 hb1 hg1 hat1
           rw [List.nil_append, Nat.zero_add] at ho1
           obtain ⟨A1, c1, rfl, hc1⟩ := own_slice ho1
           have X1 : Ext (w.alloc (.cells #[.int .i64 0, .slice none 0 0] 24)) w1 := ⟨hb1⟩
           have Y1 : Ext w w1 := Ext.trans_ inferInstance X1
           have P0 := at_ext (w' := w1) (at_new w (.cells #[.int .i64 0, .slice none 0 0] 24))
           have f0 := at_frozen P0 0
           have f1 := at_frozen P0 1
           have r0 : w1.cell? ⟨w.heap.size, 0, none⟩ = some (.int .i64 0) := at_cell P0 0
           have r1 : w1.cell? ⟨w.heap.size, 1, none⟩ = some (.slice none 0 0) := at_cell P0 1
           have hd0 := at_cell (at_set2 (.int .i64 a) (.slice A1 ((1 - 1)) c1) P0) 0
           have hd1 := at_cell (at_set2 (.int .i64 a) (.slice A1 ((1 - 1)) c1) P0) 1
           have HD0 := Lib.hid hd0
           have HD1 := Lib.hid hd1
           have HO1 := Lib.hid (own_young (own_young (p := ⟨w.heap.size, 0, none⟩) (u := .int .i64 a) ho1 (by simp)) (p := ⟨w.heap.size, 1, none⟩) (u := .slice A1 ((1 - 1)) c1) (by simp))
           clear P0 ho1 hb1 hg1 hat1 hc1 hd0 hd1)
        have hd0 := HD0.out
        have hd1 := HD1.out
        simp only [List.getElem?_toArray, List.getElem?_cons_zero, List.getElem?_cons_succ] at hd0 hd1
        exact bodyPost_ret (v := .tuple #[.agg #[.int .i64 a, .slice A1 ((1 - 1)) c1], .int .i64 0]) (by simp [results, Try.results16, go_sem, hd0, hd1]) rfl ⟨A1, _, c1, by rw [HE.out, HFP.out], by rw [HFD.out]; exact HL.out, by rw [HFD.out]; exact own_weaken HO1.out (by simp), Ext.out⟩
      · have HC : Hid (Cells w (some (ad.add 1)) (nums .u8 (xs.drop 1))) := by
          have h1 := HCD.out
          rw [if_neg hck] at h1
          exact h1
        have hck' : ¬ (c : Int) = 1 := by omega
        clear HCD
        go_enter Try.func16, Try.ntmps16
        go_wp2_with fail
        refine (proto22_any a (by omega) (by omega) _).mono ?_
        rintro e w0 ⟨rfl, rfl⟩
        rw [HP.out]
        go_wp2_with
          (at_builtin
           refine wp_append_cells (w0 := (w.alloc (.cells #[.int .i64 0, .slice none 0 0] 24))) (w.alloc (.cells #[.int .i64 0, .slice none 0 0] 24)).heap.size rfl (.const (.slice none 0 0)) (.tmp 51) 22 5 (.int .u8 0) 1 1 rfl Try.underlying22 info_u8 rfl (by decide) (by decide) (.slice none 0 0) 0 [] (some (ad.add 1)) (n - 1) (c - 1) (nums .u8 (xs.drop 1)) rfl rfl (by rw [nums_length, HL.out, Nat.mul_one]) (nums_one _ _) (own_nil _ _ _ _) (by exact HC.out.ext) Ext.out Ext.out.size (by omega) ?_
           intro v1 w1 ho1 hb1 hg1 hat1
           rw [List.nil_append, Nat.zero_add] at ho1
           obtain ⟨A1, c1, rfl, hc1⟩ := own_slice ho1
           have X1 : Ext (w.alloc (.cells #[.int .i64 0, .slice none 0 0] 24)) w1 := ⟨hb1⟩
           have Y1 : Ext w w1 := Ext.trans_ inferInstance X1
           have P0 := at_ext (w' := w1) (at_new w (.cells #[.int .i64 0, .slice none 0 0] 24))
           have f0 := at_frozen P0 0
           have f1 := at_frozen P0 1
           have r0 : w1.cell? ⟨w.heap.size, 0, none⟩ = some (.int .i64 0) := at_cell P0 0
           have r1 : w1.cell? ⟨w.heap.size, 1, none⟩ = some (.slice none 0 0) := at_cell P0 1
           have hd0 := at_cell (at_set2 (.int .i64 a) (.slice A1 ((n - 1)) c1) P0) 0
           have hd1 := at_cell (at_set2 (.int .i64 a) (.slice A1 ((n - 1)) c1) P0) 1
           have HD0 := Lib.hid hd0
           have HD1 := Lib.hid hd1
           have HO1 := Lib.hid (own_young (own_young (p := ⟨w.heap.size, 0, none⟩) (u := .int .i64 a) ho1 (by simp)) (p := ⟨w.heap.size, 1, none⟩) (u := .slice A1 ((n - 1)) c1) (by simp))
           clear P0 ho1 hb1 hg1 hat1 hc1 hd0 hd1)
        have hd0 := HD0.out
        have hd1 := HD1.out
        simp only [List.getElem?_toArray, List.getElem?_cons_zero, List.getElem?_cons_succ] at hd0 hd1
        exact bodyPost_ret (v := .tuple #[.agg #[.int .i64 a, .slice A1 ((n - 1)) c1], .int .i64 0]) (by simp [results, Try.results16, go_sem, hd0, hd1]) rfl ⟨A1, _, c1, by rw [HE.out, HFP.out], by rw [HFD.out]; exact HL.out, by rw [HFD.out]; exact own_weaken HO1.out (by simp), Ext.out⟩
end Go.Proofs.Ytnhmpmibkpoipaa
