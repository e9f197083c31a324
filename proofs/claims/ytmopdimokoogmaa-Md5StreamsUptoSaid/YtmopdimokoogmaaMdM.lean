/-
  md5.Equal, md5.Hex, the law's lent, same, kept, awake. Conditions: the lists are no longer than the model's memory.
-/
import Derived.Test.YtmopdimokoogmaaMdL
import Derived.Lib.SlBytesConst
namespace Go.Proofs.Ytmopdimokoogmaa
open Go.RowKit
set_option linter.unusedVariables false
set_option linter.unusedSimpArgs false

def hexD (d : Int) : Int := if d < 10 then 48 + d else 87 + d
def hexL (xs : List Int) : List Int := xs.flatMap fun x => [hexD (x / 16), hexD (x % 16)]
set_option maxRecDepth 100000 in
theorem digest_nil : hexL (digest []) = [100, 52, 49, 100, 56, 99, 100, 57, 56, 102, 48, 48, 98, 50, 48, 52, 101, 57, 56, 48, 48, 57, 57, 56, 101, 99, 102, 56, 52, 50, 55, 101] := by decide +kernel
set_option maxRecDepth 100000 in
theorem digest_abc : hexL (digest [97, 98, 99]) = [57, 48, 48, 49, 53, 48, 57, 56, 51, 99, 100, 50, 52, 102, 98, 48, 100, 54, 57, 54, 51, 102, 55, 100, 50, 56, 101, 49, 55, 102, 55, 50] := by decide +kernel
theorem told_byt (s : W4) : ∀ k, Byt (toldS s k)
  | 0 => by
    intro x hx
    rw [List.eq_of_mem_replicate (show x ∈ List.replicate 16 0 from hx)]
    omega
  | k + 1 => by
    intro x hx
    rw [toldS] at hx
    rcases List.mem_or_eq_of_mem_set hx with h | rfl
    · exact told_byt s k x h
    · exact ⟨Int.emod_nonneg _ (by decide), Int.emod_lt_of_pos _ (by decide)⟩
theorem digest_byt (xs : List Int) : Byt (digest xs) := told_byt _ _
theorem or_xor_zero {D X Y : Int} (h0 : 0 ≤ D) (h1 : D < 256) (k0 : 0 ≤ X) (k1 : X < 256) (l0 : 0 ≤ Y) (l1 : Y < 256) :
    (bits .or .u8 D (bits .xor .u8 X Y) = 0 ↔ D = 0 ∧ X = Y) ∧ 0 ≤ bits .or .u8 D (bits .xor .u8 X Y) ∧ bits .or .u8 D (bits .xor .u8 X Y) < 256 := by
  obtain ⟨d, rfl⟩ := Int.eq_ofNat_of_zero_le h0
  obtain ⟨x, rfl⟩ := Int.eq_ofNat_of_zero_le k0
  obtain ⟨y, rfl⟩ := Int.eq_ofNat_of_zero_le l0
  have hx : bits .xor .u8 (x : Int) (y : Int) = ((x ^^^ y : Nat) : Int) := by
    have hlt : x ^^^ y < 2 ^ 8 := Nat.xor_lt_two_pow (by omega) (by omega)
    simp only [bits, BitVec.ofInt_natCast, BitVec.toNat_xor, BitVec.toNat_ofNat]
    rw [show IntKind.u8.bits = 8 from rfl, Nat.mod_eq_of_lt (show x < 2 ^ 8 by omega), Nat.mod_eq_of_lt (show y < 2 ^ 8 by omega)]
    exact wraps_u8 _ (by omega) (by exact_mod_cast hlt)
  have hlt : x ^^^ y < 2 ^ 8 := Nat.xor_lt_two_pow (by omega) (by omega)
  rw [hx, (bits_nat .u8 8 (by decide) wraps_u8 d (x ^^^ y) (by omega) hlt).2]
  have ho : d ||| (x ^^^ y) < 2 ^ 8 := Nat.or_lt_two_pow (by omega) hlt
  refine ⟨?_, by omega, by omega⟩
  have hxy : x ^^^ y = 0 ↔ x = y := by
    constructor
    · intro h
      have h2 : (x ^^^ y) ^^^ y = x := by rw [Nat.xor_assoc, Nat.xor_self, Nat.xor_zero]
      rw [h, Nat.zero_xor] at h2
      exact h2.symm
    · rintro rfl
      exact Nat.xor_self _
  rw [Int.natCast_eq_zero, Nat.or_eq_zero_iff, hxy]
  omega
set_option maxHeartbeats 1000000 in
theorem equal4_any (A B : Option Addr) (n m c d : Nat) (xs ys : List Int) (hn : xs.length = n) (hm : ys.length = m) (hn' : n ≤ 9223372036854775807) (hm' : m ≤ 9223372036854775807) (hbx : Byt xs) (hby : Byt ys)
    (w : World) (hx : Cells w A (nums .u8 xs)) (hy : Cells w B (nums .u8 ys)) :
    Calls Try.prog 57 #[.slice A n c, .slice B m d] w fun e w' => e = .returned (.bool (decide (xs = ys))) ∧ Drawn w w' := by
  by_cases h : n = m
  · subst h
    have Hn := Lib.hid hn
    have Hm := Lib.hid hm
    have HBX := Lib.hid hbx
    have HBY := Lib.hid hby
    clear hn hm hbx hby
    go_enter Try.func57, Try.ntmps57
    go_wp2
    go_loopw [5, 14] (fun v i wr => ∃ (k : Nat) (D : Int), i = .int .i64 k ∧ v = .int .u8 D ∧ k ≤ n ∧ 0 ≤ D ∧ D < 256 ∧ Hid (D = 0 ↔ xs.take k = ys.take k) ∧ Hid (Drawn w wr)) (fun _ i _ => n - (intOf i).toNat)
    case atStart => exact ⟨0, 0, rfl, rfl, by omega, by omega, by omega, (by unfold Hid; simp), Drawn.refl _⟩
    case round =>
      obtain ⟨k, D, rfl, rfl, hk, hD0, hD1, hT, hD⟩ := hrel
      by_cases hlt : k < n
      · obtain ⟨ad, rfl, hc⟩ := (hx.drawn hD.out).num (by rw [Hn.out]; exact hlt)
        obtain ⟨bd, rfl, hd⟩ := (hy.drawn hD.out).num (by rw [Hm.out]; exact hlt)
        have HX0 := HBX.out.getD k
        have HY0 := HBY.out.getD k
        generalize hX : xs.getD k 0 = X at *
        generalize hY : ys.getD k 0 = Y at *
        have HX := Lib.hid hX
        have HY := Lib.hid hY
        have HZ := Lib.hid (or_xor_zero hD0 hD1 HX0.1 HX0.2 HY0.1 HY0.2)
        clear hX hY HX0 HY0
        go_wp2
        go_quiet (fail)
        go_wp2
        go_roundw
        case rel =>
          refine ⟨k + 1, _, by go_num, rfl, by omega, HZ.out.2.1, HZ.out.2.2, ?_, hD.out.drewN _⟩
          unfold Hid
          rw [HZ.out.1, hT.out]
          constructor
          · rintro ⟨h1, h2⟩
            exact take_eq_succ h1 (by rw [Hn.out]; exact hlt) (by rw [Hm.out]; exact hlt) (by rw [HX.out, HY.out, h2])
          · intro h1
            have h2 := congrArg (List.take k) h1
            rw [List.take_take, List.take_take, Nat.min_eq_left (Nat.le_succ k)] at h2
            refine ⟨h2, ?_⟩
            have h3 := congrArg (fun l => l.getD k 0) h1
            simp only [List.getD_eq_getElem?_getD, List.getElem?_take, Nat.lt_succ_self, if_true] at h3
            rw [← HX.out, ← HY.out, List.getD_eq_getElem?_getD, List.getD_eq_getElem?_getD]
            exact h3
        case measure => simp [intOf]; omega
      · obtain rfl : k = n := by omega
        have hT := hT.out
        rw [List.take_of_length_le (by rw [Hn.out]; omega), List.take_of_length_le (by rw [Hm.out]; omega)] at hT
        have HT := Lib.hid hT
        clear hT
        go_wp2
        go_ret
        refine ⟨ret_bool ?_, hD.out⟩
        by_cases h : D = 0
        · rw [decide_eq_true (HT.out.1 h)]
          simp [h]
        · rw [decide_eq_false (fun e => h (HT.out.2 e))]
          simp [h]
  · have hne : ((n : Int) != (m : Int)) = true := by simp only [bne_iff_ne, ne_eq]; omega
    go_enter Try.func57, Try.ntmps57
    go_wp2
    go_ret
    refine ⟨?_, 0, rfl⟩
    rw [decide_eq_false]
    · rfl
    rintro rfl
    omega
theorem hexL_append (xs ys : List Int) : hexL (xs ++ ys) = hexL xs ++ hexL ys := by simp [hexL]
theorem hexL_succ {xs : List Int} {k : Nat} (hk : k < xs.length) : hexL (xs.take (k + 1)) = hexL (xs.take k) ++ [hexD (xs.getD k 0 / 16), hexD (xs.getD k 0 % 16)] := by
  rw [List.take_add_one, hexL_append, List.getD_eq_getElem?_getD, List.getElem?_eq_getElem hk]
  simp [hexL]
theorem hexL_len (xs : List Int) : (hexL xs).length = 2 * xs.length := by
  induction xs with
  | nil => rfl
  | cons x xs ih =>
    rw [show hexL (x :: xs) = hexL [x] ++ hexL xs from hexL_append [x] xs, List.length_append, ih, List.length_cons]
    simp [hexL]
    omega
theorem conv4 {w : World} {A : Option Addr} {n c : Nat} {xs : List Int} {s : ByteArray} (hn : xs.length = n) (hx : Cells w A (nums .u8 xs)) (hs : strOfNums xs = s) : (convert 42 9 (.slice A n c)).run Try.prog w = .ok (.string s) w := by
  rw [← hs]
  exact conv_cells (P := Try.prog) (c := c) 42 5 9 Try.underlying42 Try.underlying5 Try.underlying9 hn hx
theorem dig_get {d : Int} (h0 : 0 ≤ d) (h1 : d < 16) : ∀ h : d.toNat < (⟨#[48, 49, 50, 51, 52, 53, 54, 55, 56, 57, 97, 98, 99, 100, 101, 102]⟩ : ByteArray).size,
    (((⟨#[48, 49, 50, 51, 52, 53, 54, 55, 56, 57, 97, 98, 99, 100, 101, 102]⟩ : ByteArray)[d.toNat]'h).toNat : Int) = hexD d := by
  obtain ⟨n, rfl⟩ := Int.eq_ofNat_of_zero_le h0
  intro h
  have hn : n < 16 := by omega
  have key : ∀ n : Fin 16, (((⟨#[48, 49, 50, 51, 52, 53, 54, 55, 56, 57, 97, 98, 99, 100, 101, 102]⟩ : ByteArray)[n.val]'n.isLt).toNat : Int) = hexD (n.val : Int) := by decide
  exact key ⟨n, hn⟩
set_option maxHeartbeats 1000000 in
theorem hex4_any (A : Option Addr) (n c : Nat) (xs : List Int) (hn : xs.length = n) (hn' : n ≤ 70368744177664) (hbx : Byt xs) (w : World) (hx : Cells w A (nums .u8 xs)) :
    Calls Try.prog 54 #[.slice A n c] w fun e w' => e = .returned (.string (strOfNums (hexL xs))) ∧ Below w.heap.size w w' := by
  have Hn := Lib.hid hn
  have HBX := Lib.hid hbx
  have HX := Lib.hid hx
  clear hn hbx hx
  go_enter Try.func54, Try.ntmps54
  go_wp2
  go_loopw [3, 8] (fun v i wr => ∃ (k : Nat) (L : Option Addr) (cl : Nat), i = .int .i64 k ∧ k ≤ n ∧ v = .slice L (2 * k) cl ∧ Hid (wr.ownsRow w.heap.size 5 1 (.slice L (2 * k) cl) (2 * k) (nums .u8 (hexL (xs.take k)))) ∧ Hid (Ext w wr)) (fun _ i _ => n - (intOf i).toNat)
  case atStart => exact ⟨0, none, 0, rfl, by omega, rfl, own_nil _ _ _ _, (inferInstance : Ext w w)⟩
  case round =>
    obtain ⟨k, L, cl, rfl, hk, rfl, HO, HE⟩ := hrel
    have XE : Ext w wr := HE.out
    by_cases hlt : k < n
    · have HC : Hid (Cells wr A (nums .u8 xs)) := HX.out.ext
      obtain ⟨ad, rfl, hc⟩ := HC.out.num (by rw [Hn.out]; exact hlt)
      have HX0 := HBX.out.getD k
      have HS := Lib.hid (hexL_succ (xs := xs) (k := k) (by rw [Hn.out]; exact hlt))
      generalize hX : xs.getD k 0 = X at *
      have hx0 := HX0.1
      have hx1 := HX0.2
      have hq0 : 0 ≤ X / 16 := by omega
      have hq1 : X / 16 < 16 := by omega
      have hr0 : 0 ≤ X % 16 := by omega
      have hr1 : X % 16 < 16 := by omega
      clear hX HX0
      have hms : bits .and .u8 X 15 = X % 16 := bits_mask .u8 8 (by decide) wraps_u8 4 (by decide) X hx0 (by omega)
      have g1 := dig_get hq0 hq1
      have g2 := dig_get hr0 hr1
      go_wp2
      go_region_law
        (refine step_append w.heap.size rfl (.tmp 12) (.tmp 19) 42 5 (.int .u8 0) 1 1 rfl Try.underlying42 info_u8 rfl (by decide) (by decide) (.slice L (2 * k) cl) (2 * k) (nums .u8 (hexL (xs.take k))) _ 2 2 [.int .u8 (hexD (X / 16)), .int .u8 (hexD (X % 16))] rfl rfl rfl ?d1 ?d0 ?d2 ?d3 ?d4 ?_
         (case d1 => intro u hu; simp at hu; rcases hu with rfl | rfl <;> rfl)
         (case d0 => exact own_ext HO.out)
         (case d2 => exact cells_box _ _ (by simp) [.int .u8 (hexD (X / 16)), .int .u8 (hexD (X % 16))] _)
         (case d3 => have := XE.out.size; simp; omega)
         (case d4 => omega)
         intro v1 w1 ho1 hg1 hat1
         obtain ⟨A1, c1, rfl, hc1⟩ := own_slice ho1
         have HO1 := Lib.hid ho1
         have HB1 : Hid (Ext w w1) := ⟨below_grown (Ext.out (w := w) (w' := World.drew _)) (Ext.out (w := w) (w' := World.drew _)).size hg1 (own_base HO.out)⟩
         clear ho1 hg1 hat1)
      all_goals go_wp2
      all_goals
        refine ⟨⟨k + 1, A1, c1, by go_num, by omega, rfl, ?_, ?_⟩, by simp [intOf]; omega⟩
        · show World.ownsRow _ _ _ _ _ _ _
          rw [HS.out, nums_append]
          exact HO1.out
        · exact HB1.out
    · obtain rfl : k = n := by omega
      have HO2 := HO
      rw [List.take_of_length_le (by rw [Hn.out]; exact Nat.le_refl _)] at HO2
      have k1 : (convert 42 9 (.slice L (2 * k) cl)).run Try.prog wr = .ok (.string (strOfNums (hexL xs))) wr := conv4 (by rw [hexL_len, Hn.out]) (own_cells HO2.out) rfl
      go_wp2
      go_ret
      exact ⟨rfl, Ext.out⟩
set_option maxHeartbeats 400000 in
/-- Lent: a copy, with 77 behind it. -/
theorem lent4_any (A : Option Addr) (n c : Nat) (xs : List Int) (hn : xs.length = n) (hn' : n ≤ 140737488351232) (w : World) (hx : Cells w A (nums .u8 xs)) :
    Calls Try.prog 26 #[.slice A n c] w fun e w' => ∃ g cap, e = .returned (.slice (some ⟨g, 0, none⟩) n cap) ∧ n < cap ∧
      w'.ownsRow w.heap.size 5 1 (.slice (some ⟨g, 0, none⟩) (n + 1) cap) (n + 1) (nums .u8 (xs ++ [77])) ∧ Below w.heap.size w w' := by
  have Hn := Lib.hid hn
  clear hn
  go_enter Try.func26, Try.ntmps26
  go_wp2_with (first
    | (at_builtin
       refine wp_append_cells (w0 := w) w.heap.size rfl (.tmp 4) (.tmp 5) 42 5 (.int .u8 0) 1 1 rfl Try.underlying42 info_u8 rfl (by decide) (by decide) (.slice none 0 0) 0 [] A n c (nums .u8 xs) rfl rfl ?_ (nums_one _ _) (own_nil _ _ _ _) hx (Below.refl _ _) (Nat.le_refl _) ?_ ?_
       · rw [nums_length, Hn.out, Nat.mul_one]
       · omega
       intro v1 w1 ho1 hb1 hg1 hat1
       rw [List.nil_append, Nat.zero_add] at ho1
       have HO1 := Lib.hid ho1
       clear ho1 hg1 hat1 hx
       have hs1 := hb1.size)
    | (at_builtin
       refine wp_append_box (w0 := w) w.heap.size rfl (.tmp 7) (.tmp 8) 42 5 (.int .u8 0) 1 1 1 rfl Try.underlying42 info_u8 rfl (by decide) (by decide) v1 n (nums .u8 xs) [.int .u8 77] rfl rfl rfl ?_ HO1.out hb1 hb1.size ?_ ?_
       · intro u hu
         simp at hu
         subst hu
         rfl
       · omega
       intro v2 w2 ho2 hb2 hg2 hat2
       obtain ⟨g, cap, rfl, hbg, hgl, hcap⟩ := own_form ho2 (by omega)
       have HO2 := Lib.hid ho2
       clear ho2 hg2 hat2 HO1 hb1))
  go_ret
  exact ⟨g, cap, rfl, by omega, by rw [nums_append]; exact HO2.out, hb2⟩
set_option maxHeartbeats 400000 in
theorem same4_any (A B : Option Addr) (n m c d : Nat) (xs ys : List Int) (hn : xs.length = n) (hm : ys.length = m) (hbx : Byt xs) (hby : Byt ys) (w : World) (hx : Cells w A (nums .u8 xs)) (hy : Cells w B (nums .u8 ys)) :
    Calls Try.prog 55 #[.slice A n c, .slice B m d] w fun e w' => e = .returned (.bool (decide (xs = ys))) ∧ w = w' := by
  have k1 := conv4 (c := c) hn hx rfl
  have k2 := conv4 (c := d) hm hy rfl
  have HE := Lib.hid (str_eq hbx hby)
  clear hn hm hx hy hbx hby
  generalize strOfNums xs = s at *
  generalize strOfNums ys = t at *
  go_enter Try.func55, Try.ntmps55
  go_wp2
  go_ret
  exact ⟨ret_bool HE.out, rfl⟩
set_option maxHeartbeats 400000 in
/-- Kept: it is, where the copy is as it was lent. -/
theorem kept4_true (g cap n m d base : Nat) (B : Option Addr) (xs : List Int) (hn : xs.length = n) (hbx : Byt xs) (hm : n = m) (hc : n < cap) (hn' : n ≤ 140737488351232) (w : World)
    (ho : w.ownsRow base 5 1 (.slice (some ⟨g, 0, none⟩) (n + 1) cap) (n + 1) (nums .u8 (xs ++ [77]))) (hx : Cells w B (nums .u8 xs)) :
    Calls Try.prog 29 #[.slice (some ⟨g, 0, none⟩) n cap, .slice B m d] w fun e w' => e = .returned (.bool true) ∧ w = w' := by
  subst hm
  have hcs : Cells w (some ⟨g, 0, none⟩) (nums .u8 xs) := by
    have := own_cells ho
    rw [nums_append] at this
    exact this.left
  have hcell : w.cell? ⟨g, n, none⟩ = some (.int .u8 77) := by
    have := ho.cellAt n (by omega)
    rw [this, nums_get _ _ _ (by simp [hn]), List.getD_eq_getElem?_getD, List.getElem?_append_right (by omega), hn]
    simp
  have HO := Lib.hid ho
  have Hn := Lib.hid hn
  have HBX := Lib.hid hbx
  clear ho hn hbx
  go_enter Try.func29, Try.ntmps29
  go_wp2_with fail
  refine (same4_any _ _ _ _ _ _ xs xs Hn.out Hn.out HBX.out HBX.out w hcs hx).mono ?_
  rintro e w' ⟨rfl, rfl⟩
  simp only [decide_true]
  go_wp2
  go_ret
  exact ⟨rfl, rfl⟩
set_option maxRecDepth 100000 in
set_option maxHeartbeats 4000000 in
theorem awake4_any (w : World) : Calls Try.prog 30 #[] w fun e w' => e = .returned (.bool true) ∧ Below w.heap.size w w' := by
  go_enter Try.func30, Try.ntmps30
  go_wp2_with fail
  refine (sum4_any none 0 0 [] rfl (by omega) Byt.nil_ _ (Cells.nil_ _ _)).mono ?_
  rintro e w1 ⟨rfl, hb1⟩
  have S1 : Step w1 _ := ⟨hb1⟩
  have hl1 := digest_len []
  have HD1 := Lib.hid digest_nil
  have HB1 := Lib.hid (digest_byt [])
  obtain ⟨d1, hd1⟩ : ∃ d, digest [] = d := ⟨_, rfl⟩
  rw [hd1] at hl1 HD1 HB1 ⊢
  have HL1 := Lib.hid hl1
  clear hb1 hd1
  have kc := Lib.run_convert_bytes_const (P := Try.prog) w1 42 5 #[.int .u8 97, .int .u8 98, .int .u8 99] 3 3 Try.underlying42 Try.underlying5
  go_wp2_with fail
  refine (sum4_any (some ⟨w1.heap.size, 0, none⟩) 3 3 [97, 98, 99] rfl (by omega) (by intro x hx; simp at hx; omega) _ (fun _ => ⟨_, rfl, fun j u hu => by rw [add_plain, World.cell?_alloc_mark]; simpa [nums] using hu⟩)).mono ?_
  rintro e w2 ⟨rfl, hb2⟩
  have S2 : Step w2 _ := ⟨hb2⟩
  have hl2 := digest_len [97, 98, 99]
  have HD2 := Lib.hid digest_abc
  have HB2 := Lib.hid (digest_byt [97, 98, 99])
  obtain ⟨d2, hd2⟩ : ∃ d, digest [97, 98, 99] = d := ⟨_, rfl⟩
  rw [hd2] at hl2 HD2 HB2 ⊢
  have HL2 := Lib.hid hl2
  clear hb2 hd2 kc
  have HI1 : Hid ((Try.prog.info? 44).map (·.size) = some (nums .u8 d1).toArray.size) := by
    unfold Hid
    rw [List.size_toArray, nums_length, hl1]
    kernel_rfl
  have HZ1 : Hid ((nums .u8 (List.replicate 16 0)).toArray.size = (nums .u8 d1).toArray.size) := by
    unfold Hid
    rw [List.size_toArray, List.size_toArray, nums_length, nums_length, hl1]
    rfl
  have HI2 : Hid ((Try.prog.info? 44).map (·.size) = some (nums .u8 d2).toArray.size) := by
    unfold Hid
    rw [List.size_toArray, nums_length, hl2]
    kernel_rfl
  have HZ2 : Hid ((nums .u8 (List.replicate 16 0)).toArray.size = (nums .u8 d2).toArray.size) := by
    unfold Hid
    rw [List.size_toArray, List.size_toArray, nums_length, nums_length, hl2]
    rfl
  have HA0 : Hid (((w2.alloc zB16).alloc zB16).heap[w2.heap.size]? = some zB16) := at_ext (at_new w2 _)
  have HA1 : Hid (((w2.alloc zB16).alloc zB16).heap[w2.heap.size + 1]? = some zB16) := at_new1 (by simp)
  clear hl1 hl2
  go_wp2_with
    (first
     | (refine wpList_store_row_o rfl 44 (.tmp 1) (.tmp 3) rfl w2.heap.size (nums .u8 d1).toArray rfl rfl 44 (nums .u8 (List.replicate 16 0)).toArray HA0.out HI1.out HZ1.out (one_all _ _) ?_
        intro w3 h3 ho3 hs3 hb3
        have HE3 : Hid (Ext w w3) := ⟨hb3 w.heap.size w (Ext.out (w := w) (w' := (w2.alloc zB16).alloc zB16)) (Ext.out (w := w) (w' := w2)).size⟩
        have HD3 := Lib.hid h3
        have HA3 : Hid (w3.heap[w2.heap.size + 1]? = some zB16) := (ho3 _ (by simp)).trans HA1.out
        have HS3 : Hid (w.heap.size ≤ w2.heap.size) := (Ext.out (w := w) (w' := w2)).size
        clear h3 ho3 hs3 hb3)
     | (refine wpList_store_row_o rfl 44 (.tmp 2) (.tmp 6) rfl (w2.heap.size + 1) (nums .u8 d2).toArray rfl rfl 44 (nums .u8 (List.replicate 16 0)).toArray HA3.out HI2.out HZ2.out (one_all _ _) ?_
        intro w4 h4 ho4 hs4 hb4
        have HE4 : Hid (Ext w w4) := ⟨hb4 w.heap.size w HE3.out.out (by have := HS3.out; omega)⟩
        have HD4 := Lib.hid h4
        have HD3 : Hid (w4.heap[w2.heap.size]? = _) := (ho4 _ (by simp)).trans HD3.out
        clear h4 ho4 hs4 hb4))
  have XE : Ext w w4 := HE4.out
  have HC1 : Hid (Cells w4 (some ⟨w2.heap.size, 0, none⟩) (nums .u8 d1)) := fun _ => ⟨_, rfl, fun j u hu => by rw [add_plain, at_cell HD3.out]; simpa using hu⟩
  have HC2 : Hid (Cells w4 (some ⟨w2.heap.size + 1, 0, none⟩) (nums .u8 d2)) := fun _ => ⟨_, rfl, fun j u hu => by rw [add_plain, at_cell HD4.out]; simpa using hu⟩
  refine (hex4_any _ 16 16 d1 HL1.out (by omega) HB1.out _ (by exact HC1.out.ext)).mono ?_
  rintro e w5 ⟨rfl, hb5⟩
  have S5 : Step w5 _ := ⟨hb5⟩
  clear hb5
  rw [HD1.out, show strOfNums [100, 52, 49, 100, 56, 99, 100, 57, 56, 102, 48, 48, 98, 50, 48, 52, 101, 57, 56, 48, 48, 57, 57, 56, 101, 99, 102, 56, 52, 50, 55, 101] = ⟨#[100, 52, 49, 100, 56, 99, 100, 57, 56, 102, 48, 48, 98, 50, 48, 52, 101, 57, 56, 48, 48, 57, 57, 56, 101, 99, 102, 56, 52, 50, 55, 101]⟩ from rfl]
  go_wp2_with fail
  refine (hex4_any _ 16 16 d2 HL2.out (by omega) HB2.out _ (by exact HC2.out.ext)).mono ?_
  rintro e w6 ⟨rfl, hb6⟩
  have S6 : Step w6 _ := ⟨hb6⟩
  clear hb6
  rw [HD2.out, show strOfNums [57, 48, 48, 49, 53, 48, 57, 56, 51, 99, 100, 50, 52, 102, 98, 48, 100, 54, 57, 54, 51, 102, 55, 100, 50, 56, 101, 49, 55, 102, 55, 50] = ⟨#[57, 48, 48, 49, 53, 48, 57, 56, 51, 99, 100, 50, 52, 102, 98, 48, 100, 54, 57, 54, 51, 102, 55, 100, 50, 56, 101, 49, 55, 102, 55, 50]⟩ from rfl]
  go_wp2_with fail
  refine (equal4_any none _ 0 0 _ _ [] [] rfl rfl (by omega) (by omega) Byt.nil_ Byt.nil_ _ (Cells.nil_ _ _) (Cells.nil_ _ _)).mono ?_
  rintro e w7 ⟨rfl, q7, rfl⟩
  simp only [decide_true]
  go_wp2
  go_ret
  exact ⟨rfl, Ext.out⟩
end Go.Proofs.Ytmopdimokoogmaa
