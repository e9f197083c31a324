/-
  md5: digits of text, Unhex and the reference's. Conditions: the text is no longer than the model's memory.
-/
import Derived.Test.YtmopdimokoogmaaMdP
import Derived.Test.YtmopdimokoogmaaMdM
namespace Go.Proofs.Ytmopdimokoogmaa
open Go.RowKit
set_option linter.unusedVariables false
set_option linter.unusedSimpArgs false

def digV (c : Int) : Int := if 48 ≤ c ∧ c ≤ 57 then c - 48 else if 97 ≤ c ∧ c ≤ 102 then c - 87 else if 65 ≤ c ∧ c ≤ 70 then c - 55 else -1
theorem digV_bd (c : Int) : -1 ≤ digV c ∧ digV c ≤ 15 := by
  unfold digV
  split
  · omega
  split
  · omega
  split
  · omega
  · omega
def digU (c : Int) : Int := if digV c < 0 then 0 else digV c
theorem ret_int {k : IntKind} {a b : Int} (h : a = b) : Ending.returned (.int k a) = .returned (.int k b) := by rw [h]
theorem ret_pair {k : IntKind} {a b : Int} {x y : Bool} (h : a = b) (g : x = y) : Ending.returned (.tuple #[.int k a, .bool x]) = .returned (.tuple #[.int k b, .bool y]) := by rw [h, g]
set_option maxHeartbeats 1000000 in
theorem rdigit4_any (c : Int) (h0 : 0 ≤ c) (h1 : c < 256) (w : World) : Calls Try.prog 76 #[.int .u8 c] w fun e w' => e = .returned (.int .i64 (digV c)) ∧ w = w' := by
  by_cases p1 : 48 ≤ c <;> by_cases p2 : c ≤ 57 <;> by_cases p3 : 97 ≤ c <;> by_cases p4 : c ≤ 102 <;> by_cases p5 : 65 ≤ c <;> by_cases p6 : c ≤ 70
  all_goals first | (exfalso; omega) | skip
  all_goals
    go_enter Try.func76, Try.ntmps76
    go_wp2
    go_ret
    refine ⟨ret_int ?_, rfl⟩
    unfold digV
    repeat' split
    all_goals omega
set_option maxHeartbeats 1000000 in
theorem digit4_any (c : Int) (h0 : 0 ≤ c) (h1 : c < 256) (w : World) : Calls Try.prog 75 #[.int .u8 c] w fun e w' => e = .returned (.tuple #[.int .u8 (digU c), .bool (decide (0 ≤ digV c))]) ∧ w = w' := by
  by_cases p1 : 48 ≤ c <;> by_cases p2 : c ≤ 57 <;> by_cases p3 : 97 ≤ c <;> by_cases p4 : c ≤ 102 <;> by_cases p5 : 65 ≤ c <;> by_cases p6 : c ≤ 70
  all_goals first | (exfalso; omega) | skip
  all_goals
    go_enter Try.func75, Try.ntmps75
    go_wp2
    go_ret2
    refine ⟨ret_pair ?_ ?_, rfl⟩
    · unfold digU digV
      repeat' split
      all_goals omega
    · symm
      first
        | (apply decide_eq_true; unfold digV; (repeat' split) <;> omega)
        | (apply decide_eq_false; unfold digV; (repeat' split) <;> omega)
/-- The bytes of the first k pairs of digits. -/
def unhK (xs : List Int) : Nat → Option (List Int)
  | 0 => some []
  | k + 1 => match unhK xs k with
    | none => none
    | some l => if digV (xs.getD (2 * k) 0) < 0 ∨ digV (xs.getD (2 * k + 1) 0) < 0 then none else some (l ++ [16 * digV (xs.getD (2 * k) 0) + digV (xs.getD (2 * k + 1) 0)])
theorem unhK_none {xs : List Int} {k : Nat} (h : unhK xs k = none) : ∀ j, unhK xs (k + j) = none
  | 0 => h
  | j + 1 => by rw [← Nat.add_assoc, unhK, unhK_none h j]
theorem unhK_len (xs : List Int) : ∀ (k : Nat) (l : List Int), unhK xs k = some l → l.length = k
  | 0, l, h => by
    rw [unhK] at h
    injection h with h
    rw [← h]
    rfl
  | k + 1, l, h => by
    rw [unhK] at h
    cases hq : unhK xs k with
    | none => rw [hq] at h; cases h
    | some l' =>
      rw [hq] at h
      simp only at h
      split at h
      · cases h
      · injection h with h
        rw [← h, List.length_append, unhK_len xs k l' hq]
        rfl
theorem unhK_byt (xs : List Int) : ∀ (k : Nat) (l : List Int), unhK xs k = some l → Byt l
  | 0, l, h => by
    rw [unhK] at h
    injection h with h
    rw [← h]
    exact Byt.nil_
  | k + 1, l, h => by
    rw [unhK] at h
    cases hq : unhK xs k with
    | none => rw [hq] at h; cases h
    | some l' =>
      rw [hq] at h
      simp only at h
      split at h
      · cases h
      · injection h with h
        rw [← h]
        have h1 := digV_bd (xs.getD (2 * k) 0)
        have h2 := digV_bd (xs.getD (2 * k + 1) 0)
        exact Byt.append (unhK_byt xs k l' hq) (Byt.one (by omega) (by omega))
/-- What a text of digits tells, or none. -/
def unhF (xs : List Int) : Option (List Int) := if xs.length % 2 = 1 then none else unhK xs (xs.length / 2)
def unE (xs : List Int) : Int := match unhF xs with | none => 3 | some _ => 0
def unL (xs : List Int) : List Int := match unhF xs with | none => [] | some l => l
def UnTells (xs : List Int) (w : World) (e : Ending) (w' : World) : Prop := ∃ v, e = .returned (.tuple #[v, .int .i64 (unE xs)]) ∧ w'.ownsRow w.heap.size 5 1 v (unL xs).length (nums .u8 (unL xs)) ∧ Below w.heap.size w w'
theorem unTells_none {xs : List Int} {w w' : World} (h : unhF xs = none) (hb : Below w.heap.size w w') : UnTells xs w (.returned (.tuple #[.slice none 0 0, .int .i64 3])) w' := by
  refine ⟨_, by rw [unE, h], ?_, hb⟩
  rw [unL, h]
  exact own_nil _ _ _ _
theorem unTells_some {xs l : List Int} {w w' : World} {v : Value} (h : unhF xs = some l) (ho : w'.ownsRow w.heap.size 5 1 v l.length (nums .u8 l)) (hb : Below w.heap.size w w') : UnTells xs w (.returned (.tuple #[v, .int .i64 0])) w' := by
  refine ⟨_, by rw [unE, h], ?_, hb⟩
  rw [unL, h]
  exact ho
theorem str_get (s : ByteArray) (k : Nat) (i : Int) (hi : i = (k : Int)) : ∀ h : i.toNat < s.size, ((s[i.toNat]'h).toNat : Int) = (strB s).getD k 0 := by
  subst hi
  intro h
  have h' : k < s.size := by simpa using h
  have h2 : k < s.data.toList.length := by rw [Array.length_toList]; exact h'
  simp only [strB, List.getD_eq_getElem?_getD, List.getElem?_map, List.getElem?_eq_getElem h2, Option.map_some, Option.getD_some, Int.toNat_natCast]
  rfl
set_option maxHeartbeats 4000000 in
theorem unhex4_any (s : ByteArray) (hs : s.size ≤ 140737488355328) (w : World) : Calls Try.prog 52 #[.string s] w (UnTells (strB s) w) := by
  have HL := Lib.hid (strB_len s)
  by_cases hodd : s.size % 2 = 1
  · have HU : Hid (unhF (strB s) = none) := by unfold Hid unhF; rw [if_pos (by rw [HL.out]; exact hodd)]
    have h1 : (s.size : Int) % 2 = 1 := by omega
    clear hodd
    go_enter Try.func52, Try.ntmps52
    go_wp2
    go_ret2
    exact unTells_none HU.out (Below.refl _ _)
  · have h1 : ¬ (s.size : Int) % 2 = 1 := by omega
    obtain ⟨N, hN⟩ : ∃ N, s.size = 2 * N := ⟨s.size / 2, by omega⟩
    have HN := Lib.hid hN
    have HF : Hid (unhF (strB s) = unhK (strB s) N) := by unfold Hid unhF; rw [if_neg (by rw [HL.out]; exact hodd), HL.out, hN]; congr 1; omega
    have HBY := Lib.hid (strB_byt s)
    clear hodd hN
    go_enter Try.func52, Try.ntmps52
    have h1b : ((s.size : Int) % 2 == 1) = false := by simpa using h1
    go_wp2
    try simp only [h1b]
    clear h1 h1b
    go_loopw [4, 5] (fun v i wr => ∃ (k : Nat) (l : List Int) (L : Option Addr) (cl : Nat), i = .int .i64 (2 * (k : Int)) ∧ k ≤ N ∧ v = .slice L k cl ∧ Hid (unhK (strB s) k = some l) ∧ Hid (wr.ownsRow w.heap.size 5 1 (.slice L k cl) k (nums .u8 l)) ∧ Hid (Ext w wr)) (fun _ i _ => s.size + 1 - (intOf i).toNat)
    case atStart => exact ⟨0, [], none, 0, rfl, by omega, rfl, rfl, own_nil _ _ _ _, (inferInstance : Ext w w)⟩
    case round =>
      obtain ⟨k, l, L, cl, rfl, hk, rfl, HK, HO, HE⟩ := hrel
      have XE : Ext w wr := HE.out
      by_cases hlt : k < N
      · have hN := HN.out
        have c1 : 2 * (k : Int) < (s.size : Int) := by omega
        have c2 : 2 * (k : Int) + 1 < (s.size : Int) := by omega
        have c0 : 0 ≤ 2 * (k : Int) := by omega
        have c3 : 0 ≤ 2 * (k : Int) + 1 := by omega
        have g1 := str_get s (2 * k) (2 * (k : Int)) (by omega)
        have g2 := str_get s (2 * k + 1) (2 * (k : Int) + 1) (by omega)
        have HX := Lib.hid (HBY.out.getD (2 * k))
        have HY := Lib.hid (HBY.out.getD (2 * k + 1))
        obtain ⟨X, hX⟩ : ∃ X, (strB s).getD (2 * k) 0 = X := ⟨_, rfl⟩
        obtain ⟨Y, hY⟩ : ∃ Y, (strB s).getD (2 * k + 1) 0 = Y := ⟨_, rfl⟩
        rw [hX] at g1 HX
        rw [hY] at g2 HY
        have HXE := Lib.hid hX
        have HYE := Lib.hid hY
        clear hX hY hN
        go_wp2_with fail
        refine (digit4_any X HX.out.1 HX.out.2 _).mono ?_
        rintro e w1 ⟨rfl, rfl⟩
        go_wp2_with fail
        refine (digit4_any Y HY.out.1 HY.out.2 _).mono ?_
        rintro e w1 ⟨rfl, rfl⟩
        have bx := digV_bd X
        have by' := digV_bd Y
        by_cases hx : 0 ≤ digV X
        · by_cases hy : 0 ≤ digV Y
          · have HS : Hid (unhK (strB s) (k + 1) = some (l ++ [16 * digV X + digV Y])) := by unfold Hid; rw [unhK, HK.out]; simp only; rw [HXE.out, HYE.out, if_neg (by omega)]
            have HLL := Lib.hid (unhK_len _ _ _ HK.out)
            rw [decide_eq_true hx, decide_eq_true hy, show digU X = digV X by unfold digU; rw [if_neg (by omega)], show digU Y = digV Y by unfold digU; rw [if_neg (by omega)]]
            obtain ⟨a, ha⟩ : ∃ a, digV X = a := ⟨_, rfl⟩
            obtain ⟨b, hb⟩ : ∃ b, digV Y = b := ⟨_, rfl⟩
            rw [ha, hb] at HS
            rw [ha] at hx bx ⊢
            rw [hb] at hy by' ⊢
            have ho := or_u8_nib hx (show a < 16 by omega) hy (show b < 16 by omega)
            have hw := wraps_u8 (a * 16) (by omega) (by omega)
            have hz := HE.out.out.size
            clear ha hb
            go_wp2_with
              (at_builtin
               go_loud (refine wp_append_box (w0 := w) w.heap.size rfl (.tmp 41) (.tmp 46) 42 5 (.int .u8 0) 1 1 1 rfl Try.underlying42 info_u8 rfl (by decide) (by decide) (.slice L k cl) k (nums .u8 l) [.int .u8 (a * 16 + b)] rfl rfl rfl (one_int _ _) HO.out HE.out.out hz (by omega) ?_)
               intro v4 w4 ho4 hb4 hg4 hat4
               obtain ⟨L4, l4, rfl, hl4⟩ := own_slice ho4
               have HO4 := Lib.hid ho4
               have HX4 : Hid (Ext w w4) := ⟨hb4⟩
               clear ho4 hb4 hg4 hat4)
            go_roundw
            case rel =>
              refine ⟨k + 1, l ++ [16 * a + b], L4, l4, congrArg (Value.int .i64) (by omega), by omega, rfl, HS.out, ?_, HX4.out⟩
              show World.ownsRow _ _ _ _ _ _ _
              rw [nums_append, show 16 * a + b = a * 16 + b by omega]
              exact HO4.out
            case measure => simp [intOf]; omega
          · have HS : Hid (unhK (strB s) (k + 1) = none) := by unfold Hid; rw [unhK, HK.out]; simp only; rw [HXE.out, HYE.out, if_pos (by omega)]
            rw [decide_eq_true hx, decide_eq_false hy]
            go_wp2
            go_ret2
            exact unTells_none (by rw [HF.out]; have := unhK_none HS.out (N - (k + 1)); rwa [show k + 1 + (N - (k + 1)) = N by omega] at this) HE.out.out
        · have HS : Hid (unhK (strB s) (k + 1) = none) := by unfold Hid; rw [unhK, HK.out]; simp only; rw [HXE.out, HYE.out, if_pos (by omega)]
          by_cases hy : 0 ≤ digV Y
          · rw [decide_eq_false hx, decide_eq_true hy]
            go_wp2
            go_ret2
            exact unTells_none (by rw [HF.out]; have := unhK_none HS.out (N - (k + 1)); rwa [show k + 1 + (N - (k + 1)) = N by omega] at this) HE.out.out
          · rw [decide_eq_false hx, decide_eq_false hy]
            go_wp2
            go_ret2
            exact unTells_none (by rw [HF.out]; have := unhK_none HS.out (N - (k + 1)); rwa [show k + 1 + (N - (k + 1)) = N by omega] at this) HE.out.out
      · obtain rfl : k = N := by omega
        have c1 : ¬ 2 * (k : Int) < (s.size : Int) := by have := HN.out; omega
        have HLL := Lib.hid (unhK_len _ _ _ HK.out)
        go_wp2
        go_ret2
        exact unTells_some (by rw [HF.out]; exact HK.out) (by rw [HLL.out]; exact HO.out) HE.out.out
set_option maxHeartbeats 4000000 in
theorem runhex4_any (s : ByteArray) (hs : s.size ≤ 140737488355328) (w : World) : Calls Try.prog 53 #[.string s] w (UnTells (strB s) w) := by
  have HL := Lib.hid (strB_len s)
  by_cases hodd : s.size % 2 = 1
  · have HU : Hid (unhF (strB s) = none) := by unfold Hid unhF; rw [if_pos (by rw [HL.out]; exact hodd)]
    have h1 : ((s.size : Int) % 2 != 0) = true := by rw [bne_iff_ne]; omega
    clear hodd
    go_enter Try.func53, Try.ntmps53
    go_wp2
    go_ret2
    exact unTells_none HU.out (Below.refl _ _)
  · have h1 : ((s.size : Int) % 2 != 0) = false := by rw [bne_eq_false_iff_eq]; omega
    obtain ⟨N, hN⟩ : ∃ N, s.size = 2 * N := ⟨s.size / 2, by omega⟩
    have HN := Lib.hid hN
    have HF : Hid (unhF (strB s) = unhK (strB s) N) := by unfold Hid unhF; rw [if_neg (by rw [HL.out]; exact hodd), HL.out, hN]; congr 1; omega
    have HBY := Lib.hid (strB_byt s)
    clear hodd hN
    go_enter Try.func53, Try.ntmps53
    go_wp2
    clear h1
    go_loopw [4, 5] (fun v i wr => ∃ (k : Nat) (l : List Int) (L : Option Addr) (cl : Nat), i = .int .i64 (2 * (k : Int)) ∧ k ≤ N ∧ v = .slice L k cl ∧ Hid (unhK (strB s) k = some l) ∧ Hid (wr.ownsRow w.heap.size 5 1 (.slice L k cl) k (nums .u8 l)) ∧ Hid (Ext w wr)) (fun _ i _ => s.size + 1 - (intOf i).toNat)
    case atStart => exact ⟨0, [], none, 0, rfl, by omega, rfl, rfl, own_nil _ _ _ _, (inferInstance : Ext w w)⟩
    case round =>
      obtain ⟨k, l, L, cl, rfl, hk, rfl, HK, HO, HE⟩ := hrel
      have XE : Ext w wr := HE.out
      by_cases hlt : k < N
      · have hN := HN.out
        have c1 : 2 * (k : Int) < (s.size : Int) := by omega
        have c2 : 2 * (k : Int) + 1 < (s.size : Int) := by omega
        have c0 : 0 ≤ 2 * (k : Int) := by omega
        have c3 : 0 ≤ 2 * (k : Int) + 1 := by omega
        have g1 := str_get s (2 * k) (2 * (k : Int)) (by omega)
        have g2 := str_get s (2 * k + 1) (2 * (k : Int) + 1) (by omega)
        have HX := Lib.hid (HBY.out.getD (2 * k))
        have HY := Lib.hid (HBY.out.getD (2 * k + 1))
        obtain ⟨X, hX⟩ : ∃ X, (strB s).getD (2 * k) 0 = X := ⟨_, rfl⟩
        obtain ⟨Y, hY⟩ : ∃ Y, (strB s).getD (2 * k + 1) 0 = Y := ⟨_, rfl⟩
        rw [hX] at g1 HX
        rw [hY] at g2 HY
        have HXE := Lib.hid hX
        have HYE := Lib.hid hY
        clear hX hY hN
        have bx := digV_bd X
        have by' := digV_bd Y
        go_wp2_with fail
        refine (rdigit4_any X HX.out.1 HX.out.2 _).mono ?_
        rintro e w1 ⟨rfl, rfl⟩
        by_cases hx : digV X < 0
        · have HS : Hid (unhK (strB s) (k + 1) = none) := by unfold Hid; rw [unhK, HK.out]; simp only; rw [HXE.out, HYE.out, if_pos (by omega)]
          obtain ⟨a, ha⟩ : ∃ a, digV X = a := ⟨_, rfl⟩
          rw [ha] at hx ⊢
          clear ha
          go_wp2
          go_ret2
          exact unTells_none (by rw [HF.out]; have := unhK_none HS.out (N - (k + 1)); rwa [show k + 1 + (N - (k + 1)) = N by omega] at this) HE.out.out
        · have hx0 : 0 ≤ digV X := by omega
          obtain ⟨a, ha⟩ : ∃ a, digV X = a := ⟨_, rfl⟩
          have HA := Lib.hid ha
          rw [ha] at hx hx0 bx ⊢
          clear ha
          go_wp2_with fail
          refine (rdigit4_any Y HY.out.1 HY.out.2 _).mono ?_
          rintro e w1 ⟨rfl, rfl⟩
          by_cases hy : digV Y < 0
          · have HS : Hid (unhK (strB s) (k + 1) = none) := by unfold Hid; rw [unhK, HK.out]; simp only; rw [HXE.out, HYE.out, if_pos (by omega)]
            obtain ⟨b, hb⟩ : ∃ b, digV Y = b := ⟨_, rfl⟩
            rw [hb] at hy ⊢
            clear hb
            go_wp2
            go_ret2
            exact unTells_none (by rw [HF.out]; have := unhK_none HS.out (N - (k + 1)); rwa [show k + 1 + (N - (k + 1)) = N by omega] at this) HE.out.out
          · have hy0 : 0 ≤ digV Y := by omega
            have HS : Hid (unhK (strB s) (k + 1) = some (l ++ [16 * a + digV Y])) := by unfold Hid; rw [unhK, HK.out]; simp only; rw [HXE.out, HYE.out, HA.out, if_neg (by omega)]
            obtain ⟨b, hb⟩ : ∃ b, digV Y = b := ⟨_, rfl⟩
            have HBE := Lib.hid hb
            rw [hb] at hy hy0 by' HS ⊢
            clear hb
            have HLL := Lib.hid (unhK_len _ _ _ HK.out)
            have hz := HE.out.out.size
            have hw : IntKind.u8.wrap (16 * a + b) = 16 * a + b := wraps_u8 _ (by omega) (by omega)
            have HWW : Hid (IntKind.u8.wrap (IntKind.i64.wrap (IntKind.i64.wrap (16 * a) + b)) = 16 * a + b) := by
              unfold Hid
              rw [IntKind.wrap_i64, IntKind.wrap_i64, IntKind.wrap_u8]
              omega
            have hwi : IntKind.i64.wrap (2 * (k : Int) + 1) = 2 * (k : Int) + 1 := by rw [IntKind.wrap_i64]; omega
            go_wp2
            go_region_law
              (first
               | (refine step_call ?hg Try.func76 (by kernel_rfl) (by kernel_rfl) #[.tmp 32] #[5] ?ho #[.int .u8 X] ?hv (rdigit4_any X HX.out.1 HX.out.2 _) ?_
                  (case hg => rfl)
                  (case ho => rfl)
                  (case hv => go_simp)
                  rintro e w1 ⟨rfl, rfl⟩
                  refine ⟨_, rfl, ?_⟩
                  rw [HA.out])
               | (refine step_call ?hg Try.func76 (by kernel_rfl) (by kernel_rfl) #[.tmp 38] #[5] ?ho #[.int .u8 Y] ?hv (rdigit4_any Y HY.out.1 HY.out.2 _) ?_
                  (case hg => rfl)
                  (case ho => rfl)
                  (case hv => go_simp)
                  rintro e w1 ⟨rfl, rfl⟩
                  refine ⟨_, rfl, ?_⟩
                  rw [HBE.out])
               | (refine step_append w.heap.size rfl (.tmp 29) (.tmp 42) 42 5 (.int .u8 0) 1 1 rfl Try.underlying42 info_u8 rfl (by decide) (by decide) (.slice L k cl) k (nums .u8 l) _ 1 1 [.int .u8 (16 * a + b)] rfl rfl rfl ?d1 ?d0 ?d2 ?d3 ?d4 ?_
                  (case d1 => exact one_int _ _)
                  (case d0 => exact own_ext HO.out)
                  (case d2 => rw [HWW.out]; exact (cells_box wr _ rfl [.int .u8 (16 * a + b)] 5).ext)
                  (case d3 => first | omega | (simp; omega))
                  (case d4 => omega)
                  intro v4 w4 ho4 hg4 hat4
                  obtain ⟨L4, l4, rfl, hl4⟩ := own_slice ho4
                  have HO4 := Lib.hid ho4
                  have HX4 : Hid (Ext w w4) := ⟨below_grown (Ext.out (w := w) (w' := World.drew _)) (Ext.out (w := w) (w' := World.drew _)).size hg4 (own_base HO.out)⟩
                  clear ho4 hg4 hat4))
            all_goals go_wp2
            all_goals
              refine ⟨⟨k + 1, l ++ [16 * a + b], L4, l4, congrArg (Value.int .i64) (by omega), by omega, rfl, HS.out, ?_, HX4.out⟩, by simp [intOf]; omega⟩
              show World.ownsRow _ _ _ _ _ _ _
              rw [nums_append]
              exact HO4.out
      · obtain rfl : k = N := by omega
        have c1 : ¬ 2 * (k : Int) < (s.size : Int) := by have := HN.out; omega
        have HLL := Lib.hid (unhK_len _ _ _ HK.out)
        go_wp2
        go_ret2
        exact unTells_some (by rw [HF.out]; exact HK.out) (by rw [HLL.out]; exact HO.out) HE.out.out
end Go.Proofs.Ytmopdimokoogmaa
