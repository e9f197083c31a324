/-
  The reference's Frame and Bytes (ccp). Conditions: the list is no longer than the model's memory.
-/
import Derived.Test.YtnhmpmibkpoipaaCcH
namespace Go.Proofs.Ytnhmpmibkpoipaa
open Go.RowKit
set_option linter.unusedVariables false
set_option linter.unusedSimpArgs false

def RFrameTells (xs : List Int) (w : World) (e : Ending) (w' : World) : Prop :=
  ∃ A n c, e = .returned (.tuple #[.agg #[.int .i64 (frP xs), .slice A n c], .int .i64 (frE xs)]) ∧ (frD xs).length = n ∧ Cells w' A (nums .u8 (frD xs)) ∧ Below w.heap.size w w'
theorem rframeTells_no {xs : List Int} {k : Int} {w w' : World} (h : frE xs = k) (hk : k ≠ 0) (hb : Below w.heap.size w w') : RFrameTells xs w (.returned (.tuple #[.agg #[.int .i64 0, .slice none 0 0], .int .i64 k])) w' := by
  obtain ⟨h1, h2⟩ := fr_no h hk
  exact ⟨none, 0, 0, by rw [h1, h], by rw [h2]; rfl, by rw [h2]; exact Cells.nil_ _ _, hb⟩
set_option maxRecDepth 100000 in
set_option maxHeartbeats 8000000 in
theorem rframe22_any (A : Option Addr) (n c : Nat) (xs : List Int) (hn : xs.length = n) (hnc : n ≤ c) (hn' : n ≤ 140737488351232) (hb : Byt xs) (w : World) (hx : Cells w A (nums .u8 xs)) :
    Calls Try.prog 17 #[.slice A n c] w (RFrameTells xs w) := by
  have Hn := Lib.hid hn
  have HX := Lib.hid hx
  have b0 := hb.getD 0
  have b1 := hb.getD 1
  have HBY := Lib.hid hb
  clear hn hx hb
  by_cases h0 : n = 0
  · subst h0
    have HE : Hid (frE xs = 8) := by unfold Hid frE; rw [if_pos (.inl Hn.out)]
    clear b0 b1
    go_enter Try.func17, Try.ntmps17
    go_wp2
    exact bodyPost_ret (v := .tuple #[.agg #[.int .i64 0, .slice none 0 0], .int .i64 8]) (by simp [results, Try.results17, go_sem]) rfl (rframeTells_no HE.out (by decide) Ext.out)
  have h0' : ((n : Int) == 0) = false := by rw [beq_eq_false_iff_ne]; omega
  obtain ⟨ad, rfl, hc0⟩ := (HX.out.alloc (.cells #[.int .i64 0, .slice none 0 0] 24)).num (i := 0) (by rw [Hn.out]; omega)
  have hc0' : (w.alloc (.cells #[.int .i64 0, .slice none 0 0] 24)).cell? ad = some (.int .u8 (xs.getD 0 0)) := hc0
  have hnpos : 0 < n := by omega
  clear hc0
  obtain ⟨a, ha⟩ : ∃ a, xs.getD 0 0 = a := ⟨_, rfl⟩
  rw [ha] at hc0' b0
  obtain ⟨b00, b01⟩ := b0
  have hand := and1 (x := a) (by omega) (by omega)
  have hand8 := and1_u8 b00 b01
  by_cases he : a % 2 = 0
  · have he' : (bits .and .i64 a 1 == 0) = true := by rw [hand, he]; rfl
    have he2 : (a % 2 == 0) = true := by rw [he]; rfl
    by_cases h1 : n = 1
    · subst h1
      have HE : Hid (frE xs = 8) := by unfold Hid frE; rw [if_pos (.inr ⟨Hn.out, by rw [ha]; exact he⟩)]
      clear hand hand8 he ha
      go_enter Try.func17, Try.ntmps17
      go_wp2
      exact bodyPost_ret (v := .tuple #[.agg #[.int .i64 0, .slice none 0 0], .int .i64 8]) (by simp [results, Try.results17, go_sem]) rfl (rframeTells_no HE.out (by decide) Ext.out)
    · have h1' : ((n : Int) == 1) = false := by rw [beq_eq_false_iff_ne]; omega
      have hc1 : (w.alloc (.cells #[.int .i64 0, .slice none 0 0] 24)).cell? ⟨ad.block, ad.off + 1, none⟩ = some (.int .u8 (xs.getD 1 0)) := by
        obtain ⟨ad', he, hc1⟩ := (HX.out.alloc (.cells #[.int .i64 0, .slice none 0 0] 24)).num (i := 1) (by rw [Hn.out]; omega)
        injection he with he
        subst he
        exact hc1
      have hn2 : 1 < n := by omega
      have hn2I : (1 : Int) < (n : Int) := by omega
      obtain ⟨b, hb⟩ : ∃ b, xs.getD 1 0 = b := ⟨_, rfl⟩
      rw [hb] at hc1 b1
      obtain ⟨b10, b11⟩ := b1
      have HFN : Hid (frN xs = a * 256 + b) := by unfold Hid frN; rw [ha, hb, if_pos he]
      have HFK : Hid (frK xs = 2) := by unfold Hid frK; rw [ha, if_pos he]
      have HQ : Hid (¬ (xs.length = 0 ∨ (xs.length = 1 ∧ xs.getD 0 0 % 2 = 0))) := by unfold Hid; rw [Hn.out]; omega
      clear hand hand8 he ha hb h0 h1
      have hc1' : ¬ c = 1 := by omega
      have hc1I : ¬ (c : Int) = 1 := by omega
      have hc2 : 1 ≤ c := by omega
      have HCD : Hid (Cells w (if c = 2 then some ad else (some ad).map (·.add (2 * 1))) (nums .u8 (xs.drop 2))) := by
        have h1 := HX.out.drop (n := n) (c := c) (size := 1) (by rw [nums_length, Hn.out, Nat.mul_one]) hnc 2 (by omega)
        rw [Nat.mul_one, ← nums_drop] at h1
        exact h1
      by_cases hck : c = 2
      · have hnK : n = 2 := by omega
        subst hck
        have HC : Hid (Cells w (some ad) (nums .u8 (xs.drop 2))) := by
          have h1 := HCD.out
          rw [if_pos rfl] at h1
          exact h1
        have hknI : (n : Int) = 2 := by omega
        clear HCD
        subst hnK
        rcases hp : protoB (a * 256 + b) with _ | _
        · have HP := Lib.hid hp
          have HE : Hid (frE xs = 30) := by unfold Hid frE; rw [if_neg HQ.out, HFN.out, if_pos hp]
          clear hp
          go_enter Try.func17, Try.ntmps17
          go_wp2_with fail
          refine (rproto22_any (a * 256 + b) (by omega) (by omega) _).mono ?_
          rintro e w0 ⟨rfl, rfl⟩
          rw [HP.out]
          go_wp2
          exact bodyPost_ret (v := .tuple #[.agg #[.int .i64 0, .slice none 0 0], .int .i64 30]) (by simp [results, Try.results17, go_sem]) rfl (rframeTells_no HE.out (by decide) Ext.out)
        have HP := Lib.hid hp
        have hs : ¬ 16384 < 2 - 2 := by omega
        have HE : Hid (frE xs = 0) := by unfold Hid frE; rw [if_neg HQ.out, HFN.out, if_neg (by simp [hp]), HFK.out, Hn.out, if_neg hs]
        have hy := fr_yes HE.out
        rw [HFN.out, HFK.out] at hy
        have HFP := Lib.hid hy.1
        have HFD := Lib.hid hy.2
        have HL : Hid ((xs.drop 2).length = 2 - 2) := by unfold Hid; rw [List.length_drop, Hn.out]
        clear hp hy hs
        go_enter Try.func17, Try.ntmps17
        go_wp2_with fail
        refine (rproto22_any (a * 256 + b) (by omega) (by omega) _).mono ?_
        rintro e w0 ⟨rfl, rfl⟩
        rw [HP.out]
        go_wp2
        exact bodyPost_ret (v := .tuple #[.agg #[.int .i64 (a * 256 + b), .slice (some ad) (0) (0)], .int .i64 0]) (by simp [results, Try.results17, go_sem]) rfl ⟨(some ad), _, _, by rw [HE.out, HFP.out], by rw [HFD.out]; exact HL.out, by rw [HFD.out]; exact HC.out.ext, Ext.out⟩
      · have HC : Hid (Cells w (some (ad.add 2)) (nums .u8 (xs.drop 2))) := by
          have h1 := HCD.out
          rw [if_neg hck] at h1
          exact h1
        have hck' : ¬ (c : Int) = 2 := by omega
        have hkc : 2 ≤ c := by omega
        have hkcI : (2 : Int) ≤ (c : Int) := by omega
        have hkn : 2 ≤ n := by omega
        have hknI : (2 : Int) ≤ (n : Int) := by omega
        clear HCD
        rcases hp : protoB (a * 256 + b) with _ | _
        · have HP := Lib.hid hp
          have HE : Hid (frE xs = 30) := by unfold Hid frE; rw [if_neg HQ.out, HFN.out, if_pos hp]
          clear hp
          go_enter Try.func17, Try.ntmps17
          go_wp2_with fail
          refine (rproto22_any (a * 256 + b) (by omega) (by omega) _).mono ?_
          rintro e w0 ⟨rfl, rfl⟩
          rw [HP.out]
          go_wp2
          exact bodyPost_ret (v := .tuple #[.agg #[.int .i64 0, .slice none 0 0], .int .i64 30]) (by simp [results, Try.results17, go_sem]) rfl (rframeTells_no HE.out (by decide) Ext.out)
        have HP := Lib.hid hp
        by_cases hs : 16384 < n - 2
        · have hs' : (16384 : Int) < (n : Int) - 2 := by omega
          have hs2 : (16384 : Int) < ((n - 2 : Nat) : Int) := by omega
          have HE : Hid (frE xs = 4) := by unfold Hid frE; rw [if_neg HQ.out, HFN.out, if_neg (by simp [hp]), HFK.out, Hn.out, if_pos hs]
          clear hp hs
          go_enter Try.func17, Try.ntmps17
          go_wp2_with fail
          refine (rproto22_any (a * 256 + b) (by omega) (by omega) _).mono ?_
          rintro e w0 ⟨rfl, rfl⟩
          rw [HP.out]
          go_wp2
          exact bodyPost_ret (v := .tuple #[.agg #[.int .i64 0, .slice none 0 0], .int .i64 4]) (by simp [results, Try.results17, go_sem]) rfl (rframeTells_no HE.out (by decide) Ext.out)
        have hs' : ¬ (16384 : Int) < (n : Int) - 2 := by omega
        have hs2 : ¬ (16384 : Int) < ((n - 2 : Nat) : Int) := by omega
        have HE : Hid (frE xs = 0) := by unfold Hid frE; rw [if_neg HQ.out, HFN.out, if_neg (by simp [hp]), HFK.out, Hn.out, if_neg hs]
        have hy := fr_yes HE.out
        rw [HFN.out, HFK.out] at hy
        have HFP := Lib.hid hy.1
        have HFD := Lib.hid hy.2
        have HL : Hid ((xs.drop 2).length = n - 2) := by unfold Hid; rw [List.length_drop, Hn.out]
        clear hp hy hs
        go_enter Try.func17, Try.ntmps17
        go_wp2_with fail
        refine (rproto22_any (a * 256 + b) (by omega) (by omega) _).mono ?_
        rintro e w0 ⟨rfl, rfl⟩
        rw [HP.out]
        go_wp2
        exact bodyPost_ret (v := .tuple #[.agg #[.int .i64 (a * 256 + b), .slice (some (ad.add 2)) (n - 2) (c - 2)], .int .i64 0]) (by simp [results, Try.results17, go_sem]) rfl ⟨(some (ad.add 2)), _, _, by rw [HE.out, HFP.out], by rw [HFD.out]; exact HL.out, by rw [HFD.out]; exact HC.out.ext, Ext.out⟩
  · have he' : (bits .and .i64 a 1 == 0) = false := by rw [hand]; simpa using he
    have he2 : (a % 2 == 0) = false := by simpa using he
    have HFN : Hid (frN xs = a) := by unfold Hid frN; rw [ha, if_neg he]
    have HFK : Hid (frK xs = 1) := by unfold Hid frK; rw [ha, if_neg he]
    have HQ : Hid (¬ (xs.length = 0 ∨ (xs.length = 1 ∧ xs.getD 0 0 % 2 = 0))) := by unfold Hid; rw [Hn.out, ha]; omega
    clear hand hand8 he ha h0 b1
    by_cases h1 : n = 1
    · have h1' : ((n : Int) == 1) = true := by rw [h1]; rfl
      clear h1
      have HCD : Hid (Cells w (if c = 1 then some ad else (some ad).map (·.add (1 * 1))) (nums .u8 (xs.drop 1))) := by
        have h1 := HX.out.drop (n := n) (c := c) (size := 1) (by rw [nums_length, Hn.out, Nat.mul_one]) hnc 1 (by omega)
        rw [Nat.mul_one, ← nums_drop] at h1
        exact h1
      by_cases hck : c = 1
      · have hnK : n = 1 := by omega
        subst hck
        have HC : Hid (Cells w (some ad) (nums .u8 (xs.drop 1))) := by
          have h1 := HCD.out
          rw [if_pos rfl] at h1
          exact h1
        have hknI : (n : Int) = 1 := by omega
        clear HCD
        subst hnK
        rcases hp : protoB a with _ | _
        · have HP := Lib.hid hp
          have HE : Hid (frE xs = 30) := by unfold Hid frE; rw [if_neg HQ.out, HFN.out, if_pos hp]
          clear hp
          go_enter Try.func17, Try.ntmps17
          go_wp2_with fail
          refine (rproto22_any a (by omega) (by omega) _).mono ?_
          rintro e w0 ⟨rfl, rfl⟩
          rw [HP.out]
          go_wp2
          exact bodyPost_ret (v := .tuple #[.agg #[.int .i64 0, .slice none 0 0], .int .i64 30]) (by simp [results, Try.results17, go_sem]) rfl (rframeTells_no HE.out (by decide) Ext.out)
        have HP := Lib.hid hp
        have hs : ¬ 16384 < 1 - 1 := by omega
        have HE : Hid (frE xs = 0) := by unfold Hid frE; rw [if_neg HQ.out, HFN.out, if_neg (by simp [hp]), HFK.out, Hn.out, if_neg hs]
        have hy := fr_yes HE.out
        rw [HFN.out, HFK.out] at hy
        have HFP := Lib.hid hy.1
        have HFD := Lib.hid hy.2
        have HL : Hid ((xs.drop 1).length = 1 - 1) := by unfold Hid; rw [List.length_drop, Hn.out]
        clear hp hy hs
        go_enter Try.func17, Try.ntmps17
        go_wp2_with fail
        refine (rproto22_any a (by omega) (by omega) _).mono ?_
        rintro e w0 ⟨rfl, rfl⟩
        rw [HP.out]
        go_wp2
        exact bodyPost_ret (v := .tuple #[.agg #[.int .i64 a, .slice (some ad) (0) (0)], .int .i64 0]) (by simp [results, Try.results17, go_sem]) rfl ⟨(some ad), _, _, by rw [HE.out, HFP.out], by rw [HFD.out]; exact HL.out, by rw [HFD.out]; exact HC.out.ext, Ext.out⟩
      · have HC : Hid (Cells w (some (ad.add 1)) (nums .u8 (xs.drop 1))) := by
          have h1 := HCD.out
          rw [if_neg hck] at h1
          exact h1
        have hck' : ¬ (c : Int) = 1 := by omega
        have hkc : 1 ≤ c := by omega
        have hkcI : (1 : Int) ≤ (c : Int) := by omega
        have hkn : 1 ≤ n := by omega
        have hknI : (1 : Int) ≤ (n : Int) := by omega
        clear HCD
        rcases hp : protoB a with _ | _
        · have HP := Lib.hid hp
          have HE : Hid (frE xs = 30) := by unfold Hid frE; rw [if_neg HQ.out, HFN.out, if_pos hp]
          clear hp
          go_enter Try.func17, Try.ntmps17
          go_wp2_with fail
          refine (rproto22_any a (by omega) (by omega) _).mono ?_
          rintro e w0 ⟨rfl, rfl⟩
          rw [HP.out]
          go_wp2
          exact bodyPost_ret (v := .tuple #[.agg #[.int .i64 0, .slice none 0 0], .int .i64 30]) (by simp [results, Try.results17, go_sem]) rfl (rframeTells_no HE.out (by decide) Ext.out)
        have HP := Lib.hid hp
        by_cases hs : 16384 < n - 1
        · have hs' : (16384 : Int) < (n : Int) - 1 := by omega
          have hs2 : (16384 : Int) < ((n - 1 : Nat) : Int) := by omega
          have HE : Hid (frE xs = 4) := by unfold Hid frE; rw [if_neg HQ.out, HFN.out, if_neg (by simp [hp]), HFK.out, Hn.out, if_pos hs]
          clear hp hs
          go_enter Try.func17, Try.ntmps17
          go_wp2_with fail
          refine (rproto22_any a (by omega) (by omega) _).mono ?_
          rintro e w0 ⟨rfl, rfl⟩
          rw [HP.out]
          go_wp2
          exact bodyPost_ret (v := .tuple #[.agg #[.int .i64 0, .slice none 0 0], .int .i64 4]) (by simp [results, Try.results17, go_sem]) rfl (rframeTells_no HE.out (by decide) Ext.out)
        have hs' : ¬ (16384 : Int) < (n : Int) - 1 := by omega
        have hs2 : ¬ (16384 : Int) < ((n - 1 : Nat) : Int) := by omega
        have HE : Hid (frE xs = 0) := by unfold Hid frE; rw [if_neg HQ.out, HFN.out, if_neg (by simp [hp]), HFK.out, Hn.out, if_neg hs]
        have hy := fr_yes HE.out
        rw [HFN.out, HFK.out] at hy
        have HFP := Lib.hid hy.1
        have HFD := Lib.hid hy.2
        have HL : Hid ((xs.drop 1).length = n - 1) := by unfold Hid; rw [List.length_drop, Hn.out]
        clear hp hy hs
        go_enter Try.func17, Try.ntmps17
        go_wp2_with fail
        refine (rproto22_any a (by omega) (by omega) _).mono ?_
        rintro e w0 ⟨rfl, rfl⟩
        rw [HP.out]
        go_wp2
        exact bodyPost_ret (v := .tuple #[.agg #[.int .i64 a, .slice (some (ad.add 1)) (n - 1) (c - 1)], .int .i64 0]) (by simp [results, Try.results17, go_sem]) rfl ⟨(some (ad.add 1)), _, _, by rw [HE.out, HFP.out], by rw [HFD.out]; exact HL.out, by rw [HFD.out]; exact HC.out.ext, Ext.out⟩
    · have h1' : ((n : Int) == 1) = false := by rw [beq_eq_false_iff_ne]; omega
      clear h1
      have HCD : Hid (Cells w (if c = 1 then some ad else (some ad).map (·.add (1 * 1))) (nums .u8 (xs.drop 1))) := by
        have h1 := HX.out.drop (n := n) (c := c) (size := 1) (by rw [nums_length, Hn.out, Nat.mul_one]) hnc 1 (by omega)
        rw [Nat.mul_one, ← nums_drop] at h1
        exact h1
      by_cases hck : c = 1
      · have hnK : n = 1 := by omega
        subst hck
        have HC : Hid (Cells w (some ad) (nums .u8 (xs.drop 1))) := by
          have h1 := HCD.out
          rw [if_pos rfl] at h1
          exact h1
        have hknI : (n : Int) = 1 := by omega
        clear HCD
        subst hnK
        rcases hp : protoB a with _ | _
        · have HP := Lib.hid hp
          have HE : Hid (frE xs = 30) := by unfold Hid frE; rw [if_neg HQ.out, HFN.out, if_pos hp]
          clear hp
          go_enter Try.func17, Try.ntmps17
          go_wp2_with fail
          refine (rproto22_any a (by omega) (by omega) _).mono ?_
          rintro e w0 ⟨rfl, rfl⟩
          rw [HP.out]
          go_wp2
          exact bodyPost_ret (v := .tuple #[.agg #[.int .i64 0, .slice none 0 0], .int .i64 30]) (by simp [results, Try.results17, go_sem]) rfl (rframeTells_no HE.out (by decide) Ext.out)
        have HP := Lib.hid hp
        have hs : ¬ 16384 < 1 - 1 := by omega
        have HE : Hid (frE xs = 0) := by unfold Hid frE; rw [if_neg HQ.out, HFN.out, if_neg (by simp [hp]), HFK.out, Hn.out, if_neg hs]
        have hy := fr_yes HE.out
        rw [HFN.out, HFK.out] at hy
        have HFP := Lib.hid hy.1
        have HFD := Lib.hid hy.2
        have HL : Hid ((xs.drop 1).length = 1 - 1) := by unfold Hid; rw [List.length_drop, Hn.out]
        clear hp hy hs
        go_enter Try.func17, Try.ntmps17
        go_wp2_with fail
        refine (rproto22_any a (by omega) (by omega) _).mono ?_
        rintro e w0 ⟨rfl, rfl⟩
        rw [HP.out]
        go_wp2
        exact bodyPost_ret (v := .tuple #[.agg #[.int .i64 a, .slice (some ad) (0) (0)], .int .i64 0]) (by simp [results, Try.results17, go_sem]) rfl ⟨(some ad), _, _, by rw [HE.out, HFP.out], by rw [HFD.out]; exact HL.out, by rw [HFD.out]; exact HC.out.ext, Ext.out⟩
      · have HC : Hid (Cells w (some (ad.add 1)) (nums .u8 (xs.drop 1))) := by
          have h1 := HCD.out
          rw [if_neg hck] at h1
          exact h1
        have hck' : ¬ (c : Int) = 1 := by omega
        have hkc : 1 ≤ c := by omega
        have hkcI : (1 : Int) ≤ (c : Int) := by omega
        have hkn : 1 ≤ n := by omega
        have hknI : (1 : Int) ≤ (n : Int) := by omega
        clear HCD
        rcases hp : protoB a with _ | _
        · have HP := Lib.hid hp
          have HE : Hid (frE xs = 30) := by unfold Hid frE; rw [if_neg HQ.out, HFN.out, if_pos hp]
          clear hp
          go_enter Try.func17, Try.ntmps17
          go_wp2_with fail
          refine (rproto22_any a (by omega) (by omega) _).mono ?_
          rintro e w0 ⟨rfl, rfl⟩
          rw [HP.out]
          go_wp2
          exact bodyPost_ret (v := .tuple #[.agg #[.int .i64 0, .slice none 0 0], .int .i64 30]) (by simp [results, Try.results17, go_sem]) rfl (rframeTells_no HE.out (by decide) Ext.out)
        have HP := Lib.hid hp
        by_cases hs : 16384 < n - 1
        · have hs' : (16384 : Int) < (n : Int) - 1 := by omega
          have hs2 : (16384 : Int) < ((n - 1 : Nat) : Int) := by omega
          have HE : Hid (frE xs = 4) := by unfold Hid frE; rw [if_neg HQ.out, HFN.out, if_neg (by simp [hp]), HFK.out, Hn.out, if_pos hs]
          clear hp hs
          go_enter Try.func17, Try.ntmps17
          go_wp2_with fail
          refine (rproto22_any a (by omega) (by omega) _).mono ?_
          rintro e w0 ⟨rfl, rfl⟩
          rw [HP.out]
          go_wp2
          exact bodyPost_ret (v := .tuple #[.agg #[.int .i64 0, .slice none 0 0], .int .i64 4]) (by simp [results, Try.results17, go_sem]) rfl (rframeTells_no HE.out (by decide) Ext.out)
        have hs' : ¬ (16384 : Int) < (n : Int) - 1 := by omega
        have hs2 : ¬ (16384 : Int) < ((n - 1 : Nat) : Int) := by omega
        have HE : Hid (frE xs = 0) := by unfold Hid frE; rw [if_neg HQ.out, HFN.out, if_neg (by simp [hp]), HFK.out, Hn.out, if_neg hs]
        have hy := fr_yes HE.out
        rw [HFN.out, HFK.out] at hy
        have HFP := Lib.hid hy.1
        have HFD := Lib.hid hy.2
        have HL : Hid ((xs.drop 1).length = n - 1) := by unfold Hid; rw [List.length_drop, Hn.out]
        clear hp hy hs
        go_enter Try.func17, Try.ntmps17
        go_wp2_with fail
        refine (rproto22_any a (by omega) (by omega) _).mono ?_
        rintro e w0 ⟨rfl, rfl⟩
        rw [HP.out]
        go_wp2
        exact bodyPost_ret (v := .tuple #[.agg #[.int .i64 a, .slice (some (ad.add 1)) (n - 1) (c - 1)], .int .i64 0]) (by simp [results, Try.results17, go_sem]) rfl ⟨(some (ad.add 1)), _, _, by rw [HE.out, HFP.out], by rw [HFD.out]; exact HL.out, by rw [HFD.out]; exact HC.out.ext, Ext.out⟩
end Go.Proofs.Ytnhmpmibkpoipaa
