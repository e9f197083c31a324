/-
  octet.Hex, Unhex and the reference's. Conditions: what comes in is no longer than a part of the model's memory.
-/
import Derived.Test.YthlfdckcnpnemaaDoorDgA
import Derived.Test.YthlfdckcnpnemaaDoorReg
namespace Go.Proofs.YthlfdckcnpnemaaDoor
open Go.RowKit
set_option linter.unusedVariables false
set_option linter.unusedSimpArgs false

def worthU (c : Int) : Int := if digV c < 0 then 16 else digV c
set_option maxHeartbeats 1000000 in
theorem rdigit1_any (c : Int) (h0 : 0 ≤ c) (h1 : c < 256) (w : World) : Calls Tryd.prog 29 #[.int .u8 c] w fun e w' => e = .returned (.int .i64 (digV c)) ∧ w = w' := by
  by_cases p1 : 48 ≤ c <;> by_cases p2 : c ≤ 57 <;> by_cases p3 : 97 ≤ c <;> by_cases p4 : c ≤ 102 <;> by_cases p5 : 65 ≤ c <;> by_cases p6 : c ≤ 70
  all_goals first | (exfalso; omega) | skip
  all_goals
    go_enter Tryd.func29, Tryd.ntmps29
    go_wp2
    go_ret
    refine ⟨ret_int ?_, rfl⟩
    unfold digV
    repeat' split
    all_goals omega
set_option maxHeartbeats 1000000 in
theorem worth_any (c : Int) (h0 : 0 ≤ c) (h1 : c < 256) (w : World) : Calls Tryd.prog 28 #[.int .u8 c] w fun e w' => e = .returned (.int .u8 (worthU c)) ∧ w = w' := by
  by_cases p1 : 48 ≤ c <;> by_cases p2 : c ≤ 57 <;> by_cases p3 : 97 ≤ c <;> by_cases p4 : c ≤ 102 <;> by_cases p5 : 65 ≤ c <;> by_cases p6 : c ≤ 70
  all_goals first | (exfalso; omega) | skip
  all_goals
    go_enter Tryd.func28, Tryd.ntmps28
    go_wp2
    go_ret
    refine ⟨ret_int ?_, rfl⟩
    unfold worthU digV
    repeat' split
    all_goals omega
set_option maxRecDepth 100000 in
set_option maxHeartbeats 4000000 in
theorem unhex1_any (s : ByteArray) (hs : s.size ≤ 140737488355328) (w : World) : Calls Tryd.prog 6 #[.string s] w (UnTells (strB s) w) := by
  have HL := Lib.hid (strB_len s)
  by_cases hodd : s.size % 2 = 1
  · have HU : Hid (unhF (strB s) = none) := by unfold Hid unhF; rw [if_pos (by rw [HL.out]; exact hodd)]
    have h1 : ((s.size : Int) % 2 != 0) = true := by rw [bne_iff_ne]; omega
    clear hodd
    go_enter Tryd.func6, Tryd.ntmps6
    go_wp2
    go_ret2
    exact unTells_none HU.out (Below.refl _ _)
  · have h1 : ((s.size : Int) % 2 != 0) = false := by rw [bne_eq_false_iff_eq]; omega
    obtain ⟨N, hN⟩ : ∃ N, s.size = 2 * N := ⟨s.size / 2, by omega⟩
    have HN := Lib.hid hN
    have HF : Hid (unhF (strB s) = unhK (strB s) N) := by unfold Hid unhF; rw [if_neg (by rw [HL.out]; exact hodd), HL.out, hN]; congr 1; omega
    have HBY := Lib.hid (strB_byt s)
    clear hodd hN
    go_enter Tryd.func6, Tryd.ntmps6
    go_wp2
    clear h1
    go_loopw [4, 5] (fun v i wr => ∃ (k : Nat) (l : List Int) (L : Option Addr) (cl : Nat), i = .int .i64 (2 * (k : Int)) ∧ k ≤ N ∧ v = .slice L k cl ∧ Hid (unhK (strB s) k = some l) ∧ Hid (wr.ownsRow w.heap.size 5 1 (.slice L k cl) k (nums .u8 l)) ∧ Hid (Ext w wr)) (fun _ i _ => s.size + 1 - (intOf i).toNat)
    case atStart => exact ⟨0, [], none, 0, rfl, by omega, rfl, rfl, own_nil _ _ _ _, (inferInstance : Ext w w)⟩
    case round =>
      obtain ⟨k, l, L, cl, rfl, hk, rfl, HK, HO, HE⟩ := hrel
      have XE : Ext w wr := HE.out
      by_cases hlt : k < N
      · have hN := HN.out
        have c1 : 2 * (k : Int) < (s.size : Int) := by omega
        have c2 : 2 * (k : Int) + 1 < (s.size : Int) := by omega
        have c0 : 0 ≤ 2 * (k : Int) := by omega
        have c3 : 0 ≤ 2 * (k : Int) + 1 := by omega
        have g1 := str_get s (2 * k) (2 * (k : Int)) (by omega)
        have g2 := str_get s (2 * k + 1) (2 * (k : Int) + 1) (by omega)
        have HX := Lib.hid (HBY.out.getD (2 * k))
        have HY := Lib.hid (HBY.out.getD (2 * k + 1))
        obtain ⟨X, hX⟩ : ∃ X, (strB s).getD (2 * k) 0 = X := ⟨_, rfl⟩
        obtain ⟨Y, hY⟩ : ∃ Y, (strB s).getD (2 * k + 1) 0 = Y := ⟨_, rfl⟩
        rw [hX] at g1 HX
        rw [hY] at g2 HY
        have HXE := Lib.hid hX
        have HYE := Lib.hid hY
        clear hX hY hN
        have hwi : IntKind.i64.wrap (2 * (k : Int) + 1) = 2 * (k : Int) + 1 := by rw [IntKind.wrap_i64]; omega
        go_wp2_with fail
        refine wp_region_held_drew (S := fun W => Ext wr W) (by kernel_rfl) (by exact inferInstance) (fun hHeld => ?_)
        refine wpAnyH_take (i := 0) (v := ?_) rfl (by kernel_rfl) (by kernel_rfl) (by kernel_rfl) (fun _ _ _ h => h) (Yields.yieldsIf (Or.inl ⟨by rfl, ?_⟩)) hHeld ?_
        rotate_left
        · intro W
          go_simp
          try with_reducible rfl
        simp only [List.getElem_toArray, List.getElem_cons_succ, List.getElem_cons_zero, Act.put, List.setIfInBounds_toArray, List.set_cons_zero, List.set_cons_succ]
        refine wpAnyH_take (i := 1) (v := ?_) rfl (by kernel_rfl) (by kernel_rfl) (by kernel_rfl) (fun _ _ _ h => h) (Yields.yieldsIf (Or.inl ⟨by rfl, ?_⟩)) hHeld ?_
        rotate_left
        · intro W
          go_simp
          try with_reducible rfl
        simp only [List.getElem_toArray, List.getElem_cons_succ, List.getElem_cons_zero, Act.put, List.setIfInBounds_toArray, List.set_cons_zero, List.set_cons_succ]
        refine wpAnyH_take (i := 2) (v := ?_) rfl (by kernel_rfl) (by kernel_rfl) (by kernel_rfl) (fun _ _ _ h => h) (Yields.yieldsIf (Or.inl ⟨by rfl, ?_⟩)) hHeld ?_
        rotate_left
        · intro W
          go_simp
          try with_reducible rfl
        simp only [List.getElem_toArray, List.getElem_cons_succ, List.getElem_cons_zero, Act.put, List.setIfInBounds_toArray, List.set_cons_zero, List.set_cons_succ]
        refine wpAnyH_take (i := 4) (v := ?_) rfl (by kernel_rfl) (by kernel_rfl) (by kernel_rfl) (fun _ _ _ h => h) (Yields.yieldsIf (Or.inl ⟨by rfl, ?_⟩)) hHeld ?_
        rotate_left
        · intro W
          go_simp
          try with_reducible rfl
        simp only [List.getElem_toArray, List.getElem_cons_succ, List.getElem_cons_zero, Act.put, List.setIfInBounds_toArray, List.set_cons_zero, List.set_cons_succ]
        refine wpAnyH_take (i := 5) (v := ?_) rfl (by kernel_rfl) (by kernel_rfl) (by kernel_rfl) (fun _ _ _ h => h) (Yields.yieldsIf (Or.inl ⟨by rfl, ?_⟩)) hHeld ?_
        rotate_left
        · intro W
          go_simp
          try with_reducible rfl
        simp only [List.getElem_toArray, List.getElem_cons_succ, List.getElem_cons_zero, Act.put, List.setIfInBounds_toArray, List.set_cons_zero, List.set_cons_succ]
        refine wpAnyH_take (i := 6) (v := ?_) rfl (by kernel_rfl) (by kernel_rfl) (by kernel_rfl) (fun _ _ _ h => h) (Yields.yieldsIf (Or.inl ⟨by rfl, ?_⟩)) hHeld ?_
        rotate_left
        · intro W
          go_simp
          try with_reducible rfl
        simp only [List.getElem_toArray, List.getElem_cons_succ, List.getElem_cons_zero, Act.put, List.setIfInBounds_toArray, List.set_cons_zero, List.set_cons_succ]
        refine wpAnyH_take (i := 7) (v := ?_) rfl (by kernel_rfl) (by kernel_rfl) (by kernel_rfl) (fun _ _ _ h => h) (Yields.yieldsIf (Or.inl ⟨by rfl, ?_⟩)) hHeld ?_
        rotate_left
        · intro W
          go_simp
          try with_reducible rfl
        simp only [List.getElem_toArray, List.getElem_cons_succ, List.getElem_cons_zero, Act.put, List.setIfInBounds_toArray, List.set_cons_zero, List.set_cons_succ]
        refine wpAnyH_ready (rs := [3]) (by kernel_rfl) (by simp) ?_
        refine AllReadyH.cons rfl (fun K hK => ?_) AllReadyH.nil
        refine step_call_w (by rfl) Tryd.func28 (by kernel_rfl) (by kernel_rfl) #[.tmp 20] #[5] rfl #[.int .u8 X] ?hv (worth_any X HX.out.1 HX.out.2 _) ?_
        case hv => go_simp
        rintro e ww ⟨rfl, rfl⟩
        refine ⟨_, rfl, ?_⟩
        skip
        clear hHeld
        refine hK.out _ _ (by exact inferInstance) (fun hHeld => ?_)
        clear hK K
        simp only [List.getElem_toArray, List.getElem_cons_succ, List.getElem_cons_zero, Act.put, List.setIfInBounds_toArray, List.set_cons_zero, List.set_cons_succ]
        refine wpAnyH_ready (rs := [8]) (by kernel_rfl) (by simp) ?_
        refine AllReadyH.cons rfl (fun K hK => ?_) AllReadyH.nil
        refine step_call_w (by rfl) Tryd.func28 (by kernel_rfl) (by kernel_rfl) #[.tmp 25] #[5] rfl #[.int .u8 Y] ?hv (worth_any Y HY.out.1 HY.out.2 _) ?_
        case hv => go_simp
        rintro e ww ⟨rfl, rfl⟩
        refine ⟨_, rfl, ?_⟩
        skip
        clear hHeld
        refine hK.out _ _ (by exact inferInstance) (fun hHeld => ?_)
        clear hK K
        simp only [List.getElem_toArray, List.getElem_cons_succ, List.getElem_cons_zero, Act.put, List.setIfInBounds_toArray, List.set_cons_zero, List.set_cons_succ]
        refine wpAnyH_take (i := 9) (v := ?_) rfl (by kernel_rfl) (by kernel_rfl) (by kernel_rfl) (fun _ _ _ h => h) (Yields.yieldsIf (Or.inl ⟨by rfl, ?_⟩)) hHeld ?_
        rotate_left
        · intro W
          go_simp
          try with_reducible rfl
        simp only [List.getElem_toArray, List.getElem_cons_succ, List.getElem_cons_zero, Act.put, List.setIfInBounds_toArray, List.set_cons_zero, List.set_cons_succ]
        refine wpAnyH_take (i := 10) (v := ?_) rfl (by kernel_rfl) (by kernel_rfl) (by kernel_rfl) (fun _ _ _ h => h) (Yields.yieldsIf (Or.inl ⟨by rfl, ?_⟩)) hHeld ?_
        rotate_left
        · intro W
          go_simp
          try with_reducible rfl
        simp only [List.getElem_toArray, List.getElem_cons_succ, List.getElem_cons_zero, Act.put, List.setIfInBounds_toArray, List.set_cons_zero, List.set_cons_succ]
        refine wpAnyH_done (by kernel_rfl) ?_ _
        clear hHeld g1 g2 c1 c2 c0 c3
        obtain ⟨wd, hwd⟩ : ∃ wd, wr.drew = wd := ⟨_, rfl⟩
        have Sd : Step wd wr := ⟨by rw [← hwd]; exact Ext.out⟩
        rw [hwd]
        clear hwd
        have bx := digV_bd X
        have by' := digV_bd Y
        by_cases hx : digV X < 0
        · have HS : Hid (unhK (strB s) (k + 1) = none) := by unfold Hid; rw [unhK, HK.out]; simp only; rw [HXE.out, HYE.out, if_pos (by omega)]
          rw [show worthU X = 16 by unfold worthU; rw [if_pos hx]]
          obtain ⟨b, hb⟩ : ∃ b, worthU Y = b := ⟨_, rfl⟩
          rw [hb]
          clear hb
          go_wp2
          go_ret2
          exact unTells_none (by rw [HF.out]; have := unhK_none HS.out (N - (k + 1)); rwa [show k + 1 + (N - (k + 1)) = N by omega] at this) Ext.out
        · rw [show worthU X = digV X by unfold worthU; rw [if_neg hx]]
          obtain ⟨a, ha⟩ : ∃ a, digV X = a := ⟨_, rfl⟩
          have HA := Lib.hid ha
          rw [ha] at hx bx ⊢
          clear ha
          have hx0 : 0 ≤ a := by omega
          have hx15 : ¬ 15 < a := by omega
          by_cases hy : digV Y < 0
          · have HS : Hid (unhK (strB s) (k + 1) = none) := by unfold Hid; rw [unhK, HK.out]; simp only; rw [HXE.out, HYE.out, if_pos (by omega)]
            rw [show worthU Y = 16 by unfold worthU; rw [if_pos hy]]
            go_wp2
            go_ret2
            exact unTells_none (by rw [HF.out]; have := unhK_none HS.out (N - (k + 1)); rwa [show k + 1 + (N - (k + 1)) = N by omega] at this) Ext.out
          · have HS : Hid (unhK (strB s) (k + 1) = some (l ++ [16 * a + digV Y])) := by unfold Hid; rw [unhK, HK.out]; simp only; rw [HXE.out, HYE.out, HA.out, if_neg (by omega)]
            rw [show worthU Y = digV Y by unfold worthU; rw [if_neg hy]]
            obtain ⟨b, hb⟩ : ∃ b, digV Y = b := ⟨_, rfl⟩
            rw [hb] at hy by' HS ⊢
            clear hb
            have hy0 : 0 ≤ b := by omega
            have hy15 : ¬ 15 < b := by omega
            have HLL := Lib.hid (unhK_len _ _ _ HK.out)
            have ho := or_u8_nib hx0 (show a < 16 by omega) hy0 (show b < 16 by omega)
            have hw := wraps_u8 (a * 16) (by omega) (by omega)
            have hkb : k + 1 ≤ 140737488355328 := by have := HN.out; omega
            go_wp2_with
              (at_builtin
               go_loud (refine wp_append_box (w0 := w) w.heap.size rfl (.tmp 33) (.tmp 38) 22 5 (.int .u8 0) 1 1 1 rfl Tryd.underlying22 info_u8 rfl (by decide) (by decide) (.slice L k cl) k (nums .u8 l) [.int .u8 (a * 16 + b)] rfl rfl rfl (one_int _ _) (own_ext HO.out) Ext.out size_ext (by omega) ?_)
               intro v4 w4 ho4 hb4 hg4 hat4
               obtain ⟨L4, l4, rfl, hl4⟩ := own_slice ho4
               have HO4 := Lib.hid ho4
               have HX4 : Hid (Ext w w4) := ⟨hb4⟩
               clear ho4 hb4 hg4 hat4)
            go_roundw
            case rel =>
              refine ⟨k + 1, l ++ [16 * a + b], L4, l4, congrArg (Value.int .i64) (by omega), by omega, rfl, HS.out, ?_, HX4.out⟩
              show World.ownsRow _ _ _ _ _ _ _
              rw [nums_append, show 16 * a + b = a * 16 + b by omega]
              exact HO4.out
            case measure => have := HN.out; simp [intOf]; omega
      · obtain rfl : k = N := by omega
        have c1 : ¬ 2 * (k : Int) < (s.size : Int) := by have := HN.out; omega
        have HLL := Lib.hid (unhK_len _ _ _ HK.out)
        go_wp2
        go_ret2
        exact unTells_some (by rw [HF.out]; exact HK.out) (by rw [HLL.out]; exact HO.out) HE.out.out
set_option maxHeartbeats 4000000 in
theorem runhex1_any (s : ByteArray) (hs : s.size ≤ 140737488355328) (w : World) : Calls Tryd.prog 7 #[.string s] w (UnTells (strB s) w) := by
  have HL := Lib.hid (strB_len s)
  by_cases hodd : s.size % 2 = 1
  · have HU : Hid (unhF (strB s) = none) := by unfold Hid unhF; rw [if_pos (by rw [HL.out]; exact hodd)]
    have h1 : ((s.size : Int) % 2 != 0) = true := by rw [bne_iff_ne]; omega
    clear hodd
    go_enter Tryd.func7, Tryd.ntmps7
    go_wp2
    go_ret2
    exact unTells_none HU.out (Below.refl _ _)
  · have h1 : ((s.size : Int) % 2 != 0) = false := by rw [bne_eq_false_iff_eq]; omega
    obtain ⟨N, hN⟩ : ∃ N, s.size = 2 * N := ⟨s.size / 2, by omega⟩
    have HN := Lib.hid hN
    have HF : Hid (unhF (strB s) = unhK (strB s) N) := by unfold Hid unhF; rw [if_neg (by rw [HL.out]; exact hodd), HL.out, hN]; congr 1; omega
    have HBY := Lib.hid (strB_byt s)
    clear hodd hN
    go_enter Tryd.func7, Tryd.ntmps7
    go_wp2
    clear h1
    go_loopw [4, 5] (fun v i wr => ∃ (k : Nat) (l : List Int) (L : Option Addr) (cl : Nat), i = .int .i64 (2 * (k : Int)) ∧ k ≤ N ∧ v = .slice L k cl ∧ Hid (unhK (strB s) k = some l) ∧ Hid (wr.ownsRow w.heap.size 5 1 (.slice L k cl) k (nums .u8 l)) ∧ Hid (Ext w wr)) (fun _ i _ => s.size + 1 - (intOf i).toNat)
    case atStart => exact ⟨0, [], none, 0, rfl, by omega, rfl, rfl, own_nil _ _ _ _, (inferInstance : Ext w w)⟩
    case round =>
      obtain ⟨k, l, L, cl, rfl, hk, rfl, HK, HO, HE⟩ := hrel
      have XE : Ext w wr := HE.out
      by_cases hlt : k < N
      · have hN := HN.out
        have c1 : 2 * (k : Int) < (s.size : Int) := by omega
        have c2 : 2 * (k : Int) + 1 < (s.size : Int) := by omega
        have c0 : 0 ≤ 2 * (k : Int) := by omega
        have c3 : 0 ≤ 2 * (k : Int) + 1 := by omega
        have g1 := str_get s (2 * k) (2 * (k : Int)) (by omega)
        have g2 := str_get s (2 * k + 1) (2 * (k : Int) + 1) (by omega)
        have HX := Lib.hid (HBY.out.getD (2 * k))
        have HY := Lib.hid (HBY.out.getD (2 * k + 1))
        obtain ⟨X, hX⟩ : ∃ X, (strB s).getD (2 * k) 0 = X := ⟨_, rfl⟩
        obtain ⟨Y, hY⟩ : ∃ Y, (strB s).getD (2 * k + 1) 0 = Y := ⟨_, rfl⟩
        rw [hX] at g1 HX
        rw [hY] at g2 HY
        have HXE := Lib.hid hX
        have HYE := Lib.hid hY
        clear hX hY hN
        have bx := digV_bd X
        have by' := digV_bd Y
        go_wp2_with fail
        refine (rdigit1_any X HX.out.1 HX.out.2 _).mono ?_
        rintro e w1 ⟨rfl, rfl⟩
        go_wp2_with fail
        refine (rdigit1_any Y HY.out.1 HY.out.2 _).mono ?_
        rintro e w1 ⟨rfl, rfl⟩
        clear g1 g2 c1 c2 c0 c3
        by_cases hx : digV X < 0
        · have HS : Hid (unhK (strB s) (k + 1) = none) := by unfold Hid; rw [unhK, HK.out]; simp only; rw [HXE.out, HYE.out, if_pos (by omega)]
          obtain ⟨a, ha⟩ : ∃ a, digV X = a := ⟨_, rfl⟩
          obtain ⟨b, hb⟩ : ∃ b, digV Y = b := ⟨_, rfl⟩
          rw [ha] at hx ⊢
          rw [hb]
          clear ha hb
          go_wp2
          go_ret2
          exact unTells_none (by rw [HF.out]; have := unhK_none HS.out (N - (k + 1)); rwa [show k + 1 + (N - (k + 1)) = N by omega] at this) Ext.out
        · obtain ⟨a, ha⟩ : ∃ a, digV X = a := ⟨_, rfl⟩
          have HA := Lib.hid ha
          rw [ha] at hx bx ⊢
          clear ha
          by_cases hy : digV Y < 0
          · have HS : Hid (unhK (strB s) (k + 1) = none) := by unfold Hid; rw [unhK, HK.out]; simp only; rw [HXE.out, HYE.out, if_pos (by omega)]
            obtain ⟨b, hb⟩ : ∃ b, digV Y = b := ⟨_, rfl⟩
            rw [hb] at hy ⊢
            clear hb
            go_wp2
            go_ret2
            exact unTells_none (by rw [HF.out]; have := unhK_none HS.out (N - (k + 1)); rwa [show k + 1 + (N - (k + 1)) = N by omega] at this) Ext.out
          · have HS : Hid (unhK (strB s) (k + 1) = some (l ++ [16 * a + digV Y])) := by unfold Hid; rw [unhK, HK.out]; simp only; rw [HXE.out, HYE.out, HA.out, if_neg (by omega)]
            obtain ⟨b, hb⟩ : ∃ b, digV Y = b := ⟨_, rfl⟩
            rw [hb] at hy by' HS ⊢
            clear hb
            have hx0 : 0 ≤ a := by omega
            have hy0 : 0 ≤ b := by omega
            have HLL := Lib.hid (unhK_len _ _ _ HK.out)
            have hw : IntKind.u8.wrap (16 * a + b) = 16 * a + b := wraps_u8 _ (by omega) (by omega)
            have hw1 : IntKind.i64.wrap (16 * a) = 16 * a := by rw [IntKind.wrap_i64]; omega
            have hw2 : IntKind.i64.wrap (16 * a + b) = 16 * a + b := by rw [IntKind.wrap_i64]; omega
            have hkb : k + 1 ≤ 140737488355328 := by have := HN.out; omega
            go_wp2_with
              (at_builtin
               go_loud (refine wp_append_box (w0 := w) w.heap.size rfl (.tmp 33) (.tmp 39) 22 5 (.int .u8 0) 1 1 1 rfl Tryd.underlying22 info_u8 rfl (by decide) (by decide) (.slice L k cl) k (nums .u8 l) [.int .u8 (16 * a + b)] rfl rfl rfl (one_int _ _) (own_ext HO.out) Ext.out size_ext (by omega) ?_)
               intro v4 w4 ho4 hb4 hg4 hat4
               obtain ⟨L4, l4, rfl, hl4⟩ := own_slice ho4
               have HO4 := Lib.hid ho4
               have HX4 : Hid (Ext w w4) := ⟨hb4⟩
               clear ho4 hb4 hg4 hat4)
            go_roundw
            case rel =>
              refine ⟨k + 1, l ++ [16 * a + b], L4, l4, congrArg (Value.int .i64) (by omega), by omega, rfl, HS.out, ?_, HX4.out⟩
              show World.ownsRow _ _ _ _ _ _ _
              rw [nums_append]
              exact HO4.out
            case measure => have := HN.out; simp [intOf]; omega
      · obtain rfl : k = N := by omega
        have c1 : ¬ 2 * (k : Int) < (s.size : Int) := by have := HN.out; omega
        have HLL := Lib.hid (unhK_len _ _ _ HK.out)
        go_wp2
        go_ret2
        exact unTells_some (by rw [HF.out]; exact HK.out) (by rw [HLL.out]; exact HO.out) HE.out.out
end Go.Proofs.YthlfdckcnpnemaaDoor
