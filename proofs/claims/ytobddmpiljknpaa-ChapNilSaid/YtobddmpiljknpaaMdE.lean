/-
  md5: the digest of a stream. Conditions: what is held is no longer than the model's memory.
-/
import Derived.Test.YtobddmpiljknpaaMdD
namespace Go.Proofs.Ytobddmpiljknpaa
open Go.RowKit
set_option linter.unusedVariables false
set_option linter.unusedSimpArgs false

/-- How many zeros are put behind so many bytes and the 0x80. -/
def padZ (l : Nat) : Nat := (119 - l % 64) % 64
theorem padZ_ok (l : Nat) : (l + 1 + padZ l) % 64 = 56 ∧ padZ l ≤ 63 := by unfold padZ; omega
theorem padZ_no {l k : Nat} (h : k < padZ l) : (l + 1 + k) % 64 ≠ 56 := by unfold padZ at h; omega
def le8 (v : Int) (k : Nat) : List Int := (List.range k).map fun i => v / 2 ^ (8 * i) % 256
theorem le8_succ (v : Int) (k : Nat) : le8 v (k + 1) = le8 v k ++ [v / 2 ^ (8 * k) % 256] := by simp [le8, List.range_succ]
def padL (xs : List Int) (n : Int) : List Int := xs ++ [128] ++ List.replicate (padZ xs.length) 0 ++ le8 (n * 8) 8
theorem padL_len (xs : List Int) (n : Int) : (padL xs n).length = xs.length + 1 + padZ xs.length + 8 := by simp [padL, le8]; omega
theorem padL_mod (xs : List Int) (n : Int) : (padL xs n).length % 64 = 0 := by
  rw [padL_len]
  have := padZ_ok xs.length
  omega
def sumS (s : W4) (xs : List Int) (n : Int) : List Int := toldS (mdN s (padL xs n) ((padL xs n).length / 64)) 16
theorem padL_byt {xs : List Int} {n : Int} (h : Byt xs) : Byt (padL xs n) := by
  unfold padL
  refine Byt.append (Byt.append (Byt.append h (Byt.one (by omega) (by omega))) ?_) ?_
  · intro x hx
    rw [List.eq_of_mem_replicate hx]
    omega
  · intro x hx
    simp only [le8, List.mem_map] at hx
    obtain ⟨i, _, rfl⟩ := hx
    have h0 := Int.emod_nonneg (n * 8 / 2 ^ (8 * i)) (show (256 : Int) ≠ 0 by decide)
    have h1 := Int.emod_lt_of_pos (n * 8 / 2 ^ (8 * i)) (show (0 : Int) < 256 by decide)
    omega
set_option maxRecDepth 100000 in
set_option maxHeartbeats 8000000 in
theorem ssum4_any (g base : Nat) (s : W4) (ps : List W4) (xs : List Int) (n : Int) (pv lv : Value) (w : World) (hbx : Byt xs) (hn0 : 0 ≤ n) (hn1 : n ≤ 140737488355328) (hlen : xs.length ≤ 63) (hs : StreamAt w base g s ps xs n pv lv) (hw : ∀ L j, WOk (mdN s L j)) :
    Calls Try.prog 86 #[.pointer (some ⟨g, 0, none⟩)] w fun e w' => e = .returned (.agg (nums .u8 (sumS s xs n)).toArray) ∧ Below w.heap.size w w' := by
  have HS := Lib.hid hs
  have HBX := Lib.hid hbx
  have HWO := Lib.hid hw
  have HAT := Lib.hid (at_ext (w' := w.alloc zB16) hs.at_)
  obtain ⟨a, b, cc, d⟩ := s
  obtain ⟨LA, lc, rfl, hlc⟩ := hs.left.slice
  have HCL := Lib.hid (Tail.cells hs.left)
  obtain ⟨xl, hxl⟩ : ∃ xl, xs.length = xl := ⟨_, rfl⟩
  have HXL := Lib.hid hxl
  rw [hxl] at hlc hlen HAT HS
  have c5 : (w.alloc zB16).cell? ⟨g, 5, none⟩ = some (.slice LA xl lc) := at_cell HAT.out 5
  clear hs hbx hw hxl
  go_enter Try.func86, Try.ntmps86
  go_wp2_with
    (first
     | (at_builtin
        refine wp_append_cells (w0 := w.alloc zB16) (w.alloc zB16).heap.size rfl (.const (.slice none 0 0)) (.tmp 13) 22 5 (.int .u8 0) 1 1 rfl Try.underlying22 info_u8 rfl (by decide) (by decide) (.slice none 0 0) 0 [] LA xl lc (nums .u8 xs) rfl rfl (by rw [nums_length, HXL.out, Nat.mul_one]) (nums_one _ _) (own_nil _ _ _ _) (by exact HCL.out.ext) (Below.refl _ _) (Nat.le_refl _) (by omega) ?_
        intro v2 w2 ho2 hb2 hg2 hat2
        rw [List.nil_append, Nat.zero_add] at ho2
        obtain ⟨L2, l2, rfl, hl2⟩ := own_slice ho2
        have HO2 := Lib.hid ho2
        have X2 : Ext (w.alloc zB16) w2 := ⟨hb2⟩
        have HX2 := Lib.hid X2
        clear ho2 hb2 hg2 hat2)
     | (at_builtin
        refine wp_append_box (w0 := w.alloc zB16) (w.alloc zB16).heap.size rfl (.tmp 14) (.tmp 15) 22 5 (.int .u8 0) 1 1 1 rfl Try.underlying22 info_u8 rfl (by decide) (by decide) (.slice L2 xl l2) xl (nums .u8 xs) [.int .u8 128] rfl rfl rfl (one_int _ _) HO2.out HX2.out.out size_ext (by omega) ?_
        intro v3 w3 ho3 hb3 hg3 hat3
        obtain ⟨L3, l3, rfl, hl3⟩ := own_slice ho3
        have HO3 := Lib.hid ho3
        have HX3 : Hid (Ext (w.alloc zB16) w3) := ⟨hb3⟩
        clear ho3 hb3 hg3 hat3))
  clear c5
  go_loopw [3] (fun v wr => ∃ (k : Nat) (A : Option Addr) (c : Nat), k ≤ padZ xl ∧ v = .slice A (xl + 1 + k) c ∧ Hid (wr.ownsRow (w.alloc zB16).heap.size 5 1 (.slice A (xl + 1 + k) c) (xl + 1 + k) (nums .u8 (xs ++ [128] ++ List.replicate k 0))) ∧ Hid (Ext (w.alloc zB16) wr)) (fun v _ => match v with | .slice _ n _ => 200 - n | _ => 0)
  case atStart => exact ⟨0, L3, l3, by omega, rfl, (show World.ownsRow _ _ _ _ _ _ _ by simpa [nums] using HO3.out), HX3.out⟩
  case round =>
    obtain ⟨k, A3, c3, hk, rfl, HO, HX⟩ := hrel
    have hpz := padZ_ok xl
    have XR : Ext (w.alloc zB16) wr := HX.out
    by_cases hlt : k < padZ xl
    · have hne := padZ_no hlt
      have hk63 : k ≤ 63 := by omega
      have hneI : (((xl : Int) + 1 + (k : Int)) % 64 != 56) = true := by rw [bne_iff_ne]; omega
      clear hpz hne
      go_wp2_with
        (at_builtin
         refine wp_append_box (w0 := w.alloc zB16) (w.alloc zB16).heap.size rfl (.tmp 21) (.tmp 22) 22 5 (.int .u8 0) 1 1 1 rfl Try.underlying22 info_u8 rfl (by decide) (by decide) (.slice A3 (xl + 1 + k) c3) (xl + 1 + k) (nums .u8 (xs ++ [128] ++ List.replicate k 0)) [.int .u8 0] rfl rfl rfl (one_int _ _) HO.out HX.out.out size_ext (by omega) ?_
         intro v4 w4 ho4 hb4 hg4 hat4
         obtain ⟨L4, l4, rfl, hl4⟩ := own_slice ho4
         have HO4 := Lib.hid ho4
         have HX4 : Hid (Ext (w.alloc zB16) w4) := ⟨hb4⟩
         clear ho4 hb4 hg4 hat4)
      go_roundw
      case rel =>
        refine ⟨k + 1, L4, l4, by omega, rfl, ?_, HX4.out⟩
        show World.ownsRow _ _ _ _ _ _ _
        rw [List.replicate_succ', ← List.append_assoc, nums_append (ys := [0])]
        exact HO4.out
      case measure => show 200 - (xl + 1 + k + 1) < 200 - (xl + 1 + k); omega
    · obtain rfl : k = padZ xl := by omega
      obtain ⟨z, hz⟩ : ∃ z, padZ xl = z := ⟨_, rfl⟩
      have HPZ := Lib.hid hz
      rw [hz] at hpz HO hk
      have heq : (((xl : Int) + 1 + (z : Int)) % 64 != 56) = false := by rw [bne_eq_false_iff_eq]; omega
      have c6 : wr.cell? ⟨g, 6, none⟩ = some (.int .i64 n) := at_cell (at_ext HAT.out) 6
      rw [hz]
      clear hlt hz
      obtain ⟨zs, hzs⟩ : ∃ zs, xs ++ [128] ++ List.replicate z 0 = zs := ⟨_, rfl⟩
      have HZS := Lib.hid hzs
      rw [hzs] at HO
      clear hzs
      go_wp2
      have hzl : zs.length = xl + 1 + z := by rw [← HZS.out]; simp [HXL.out]; try omega
      have HZL := Lib.hid hzl
      clear hzl heq c6 hpz
      have hz63 : z ≤ 63 := by have := padZ_ok xl; have := HPZ.out; omega
      go_loopw [3, 30] (fun v i wr => ∃ (k : Nat) (A : Option Addr) (c : Nat), i = .int .i64 k ∧ k ≤ 8 ∧ v = .slice A (xl + 1 + z + k) c ∧ Hid (wr.ownsRow (w.alloc zB16).heap.size 5 1 (.slice A (xl + 1 + z + k) c) (xl + 1 + z + k) (nums .u8 (zs ++ le8 (n * 8) k))) ∧ Hid (Ext (w.alloc zB16) wr)) (fun _ i _ => 8 - (intOf i).toNat)
      case atStart => exact ⟨0, A3, c3, rfl, by omega, rfl, (show World.ownsRow _ _ _ _ _ _ _ by simpa [le8] using HO.out), HX.out⟩
      case round =>
        obtain ⟨k, A5, c5, rfl, hk8, rfl, HO5, HX5⟩ := hrel
        have XR5 : Ext (w.alloc zB16) wr := HX5.out
        by_cases hlt8 : k < 8
        · have hk0 : (0 : Int) ≤ (k : Int) := by omega
          have hkI : (k : Int) < 8 := by omega
          have hn8 : 0 ≤ n * 8 := by omega
          have hn9 : n * 8 < 18446744073709551616 := by omega
          go_wp2_with
            (at_builtin
             refine wp_append_box (w0 := w.alloc zB16) (w.alloc zB16).heap.size rfl (.tmp 33) (.tmp 39) 22 5 (.int .u8 0) 1 1 1 rfl Try.underlying22 info_u8 rfl (by decide) (by decide) (.slice A5 (xl + 1 + z + k) c5) (xl + 1 + z + k) (nums .u8 (zs ++ le8 (n * 8) k)) [.int .u8 (n * 8 / 2 ^ (8 * k) % 256)] rfl rfl rfl (one_int _ _) HO5.out HX5.out.out size_ext (by omega) ?_
             intro v4 w4 ho4 hb4 hg4 hat4
             obtain ⟨L4, l4, rfl, hl4⟩ := own_slice ho4
             have HO4 := Lib.hid ho4
             have HX4 : Hid (Ext (w.alloc zB16) w4) := ⟨hb4⟩
             clear ho4 hb4 hg4 hat4)
          go_roundw
          case rel =>
            refine ⟨k + 1, L4, l4, by go_num, by omega, rfl, ?_, HX4.out⟩
            show World.ownsRow _ _ _ _ _ _ _
            rw [le8_succ, ← List.append_assoc, nums_append (ys := [_])]
            exact HO4.out
          case measure => simp [intOf]; omega
        · obtain rfl : k = 8 := by omega
          have HPL : Hid (padL xs n = zs ++ le8 (n * 8) 8) := by
            unfold Hid padL
            rw [HXL.out, HPZ.out, HZS.out]
          obtain ⟨P, hP⟩ : ∃ P, padL xs n = P := ⟨_, rfl⟩
          have HPP := Lib.hid hP
          have hpm := padL_mod xs n
          rw [hP] at HPL hpm
          rw [← HPL.out] at HO5
          have hpl : P.length = xl + 1 + z + 8 := by rw [← hP, padL_len, HXL.out, HPZ.out]
          have HPLN := Lib.hid hpl
          have HPM := Lib.hid hpm
          have HW0 := Lib.hid (at_ext (w' := wr) HAT.out)
          have c0 : wr.cell? ⟨g, 0, none⟩ = some (.int .u32 a) := at_cell HW0.out 0
          have c1 : wr.cell? ⟨g, 1, none⟩ = some (.int .u32 b) := at_cell HW0.out 1
          have c2 : wr.cell? ⟨g, 2, none⟩ = some (.int .u32 cc) := at_cell HW0.out 2
          have c3' : wr.cell? ⟨g, 3, none⟩ = some (.int .u32 d) := at_cell HW0.out 3
          clear hP hpm hpl
          have HBP : Hid (Byt P) := by
            unfold Hid
            rw [← HPP.out]
            exact padL_byt HBX.out
          have HCP := Lib.hid (own_cells HO5.out)
          have hc5 : xl + 1 + z + 8 ≤ c5 := by
            obtain ⟨_, _, he, h⟩ := own_slice HO5.out
            injection he with _ _ he
            omega
          rw [← HPLN.out] at hc5
          have hgoalN : xl + 1 + z + 8 = P.length := HPLN.out.symm
          go_wp2
          rw [hgoalN]
          have HNEW := Lib.hid (at_new wr (cW (a, b, cc, d)))
          have HXW : Hid (Ext w wr) := Ext.trans_ inferInstance XR5
          have HZ0 : Hid ((w.alloc zB16).heap[w.heap.size]? = some zB16) := at_new w _
          have HZR := Lib.hid (at_ext (w' := wr) HZ0.out)
          clear c0 c1 c2 c3' hgoalN
          have HBK : Hid (∀ ad, A5 = some ad → ad.block < wr.heap.size) := fun ad ha => own_lt HO5.out ad.block (by rw [ha]; rfl)
          obtain ⟨w9, rfl⟩ : ∃ w9, w9 = wr := ⟨wr, rfl⟩
          go_loopw [3] (fun v wr' => ∃ (j : Nat) (A : Option Addr) (c : Nat), 64 * j ≤ P.length ∧ v = .slice A (P.length - 64 * j) c ∧ P.length - 64 * j ≤ c ∧ Hid (Cells wr' A (nums .u8 (P.drop (64 * j)))) ∧ Hid (∀ ad, A = some ad → ad.block < w9.heap.size) ∧ Hid (wr'.heap[w9.heap.size]? = some (cW (mdN (a, b, cc, d) P j))) ∧ Hid (Ext w9 wr')) (fun v _ => match v with | .slice _ n _ => n | _ => 0)
          case atStart => exact ⟨0, A5, c5, by omega, rfl, hc5, (show Cells _ _ _ by rw [Nat.mul_zero, List.drop_zero]; exact HCP.out.ext), HBK.out, HNEW.out, (inferInstance : Ext w9 (World.alloc _ _))⟩
          case round =>
            obtain ⟨j, A6, c6, hj, rfl, hc6, HC6, HA6, HK6, HX6⟩ := hrel
            have XW9 : Ext w w9 := HXW.out
            have X9 : Ext w9 wr := HX6.out
            have YW : Ext w wr := Ext.trans_ XW9 X9
            obtain ⟨N, hN⟩ : ∃ N, P.length - 64 * j = N := ⟨_, rfl⟩
            rw [hN] at hc6 ⊢
            obtain ⟨bs, hbs⟩ : ∃ bs, P.drop (64 * j) = bs := ⟨_, rfl⟩
            rw [hbs] at HC6
            have hbl : bs.length = N := by rw [← hbs, List.length_drop, hN]
            have hbb : Byt bs := by rw [← hbs]; exact HBP.out.drop _
            have hmod : N % 64 = 0 := by have := HPM.out; omega
            obtain ⟨⟨a1, b1, c1, d1⟩, hq⟩ : ∃ q, mdN (a, b, cc, d) P j = q := ⟨_, rfl⟩
            rw [hq] at HK6
            have c0 : wr.cell? ⟨w9.heap.size, 0, none⟩ = some (.int .u32 a1) := at_cell HK6.out 0
            have c1' : wr.cell? ⟨w9.heap.size, 1, none⟩ = some (.int .u32 b1) := at_cell HK6.out 1
            have c2 : wr.cell? ⟨w9.heap.size, 2, none⟩ = some (.int .u32 c1) := at_cell HK6.out 2
            have c3' : wr.cell? ⟨w9.heap.size, 3, none⟩ = some (.int .u32 d1) := at_cell HK6.out 3
            have z9 : w9.heap.size < wr.heap.size := at_lt HK6.out
            by_cases hpos : 0 < N
            · have h64 : 64 ≤ N := by omega
              have hposI : (0 : Int) < (N : Int) := by omega
              obtain ⟨⟨a2, b2, c2', d2⟩, hq2⟩ : ∃ q, mdBlock (a1, b1, c1, d1) bs = q := ⟨_, rfl⟩
              have HQ2 := Lib.hid hq2
              have HNX : Hid (mdN (a, b, cc, d) P (j + 1) = (a2, b2, c2', d2)) := by
                unfold Hid
                rw [mdN, hq, hbs]
                exact hq2
              have HBL := Lib.hid hbl
              have HBB := Lib.hid hbb
              have HND : Hid (N = P.length - 64 * j) := hN.symm
              have HDR : Hid (P.drop (64 * (j + 1)) = bs.drop 64) := by
                unfold Hid
                rw [show 64 * (j + 1) = 64 * j + 64 by omega, ← List.drop_drop, hbs]
              obtain ⟨ad, rfl, _⟩ := HC6.out (by rw [nums_length, hbl]; exact hpos)
              clear hq hq2 hbl hbb hmod hN hbs
              go_wp2_with fail
              refine (block4_any a1 b1 c1 d1 (some ad) N c6 bs HBL.out h64 hc6 HBB.out _ (by exact HC6.out.ext)).mono ?_
              rintro e w5 ⟨rfl, hb5⟩
              rw [HQ2.out]
              simp only
              have S5 : Step w5 _ := ⟨hb5⟩
              have HK5 := Lib.hid (at_ext (w' := w5) HK6.out)
              clear hb5 c0 c1' c2 c3'
              have c0 : w5.cell? ⟨w9.heap.size, 0, none⟩ = some (.int .u32 a1) := at_cell HK5.out 0
              have c1' : w5.cell? ⟨w9.heap.size, 1, none⟩ = some (.int .u32 b1) := at_cell HK5.out 1
              have c2 : w5.cell? ⟨w9.heap.size, 2, none⟩ = some (.int .u32 c1) := at_cell HK5.out 2
              have c3' : w5.cell? ⟨w9.heap.size, 3, none⟩ = some (.int .u32 d1) := at_cell HK5.out 3
              have f0 := at_frozen HK5.out 0
              have f1 := at_frozen HK5.out 1
              have f2 := at_frozen HK5.out 2
              have f3 := at_frozen HK5.out 3
              have hS6 := at_set (at_set (at_set (at_set HK5.out 0 (.int .u32 a2)) 1 (.int .u32 b2)) 2 (.int .u32 c2')) 3 (.int .u32 d2)
              have HS6 := Lib.hid hS6
              clear hS6
              have X5 : Ext w9 w5 := inferInstance
              by_cases hck : c6 = 64
              · have hN64 : N = 64 := by omega
                subst hck
                subst hN64
                go_wp2
                go_roundw
                case rel =>
                  refine ⟨j + 1, some ad, 64 - 64, by have := HND.out; omega, by have := HND.out; rw [show P.length - 64 * (j + 1) = 64 - 64 by omega], by have := HND.out; omega, ?_, ?_, ?_, Ext.setg (Ext.setg (Ext.setg (Ext.setg X5 _ _ _ (Nat.le_refl _)) _ _ _ (Nat.le_refl _)) _ _ _ (Nat.le_refl _)) _ _ _ (Nat.le_refl _)⟩
                  · show Cells _ _ _
                    rw [HDR.out, List.drop_of_length_le (by rw [HBL.out]; exact Nat.le_refl _)]
                    exact Cells.nil_ _ _
                  · exact HA6.out
                  · show _ = _
                    rw [HNX.out]
                    exact HS6.out
                case measure => exact Nat.zero_lt_succ _
              · have hck' : ¬ (c6 : Int) = 64 := by omega
                have hcc1 : 64 ≤ c6 := by omega
                have hcc2 : (64 : Int) ≤ (c6 : Int) := by omega
                have h64I : (64 : Int) ≤ (N : Int) := by omega
                have HC7 : Hid (Cells wr (some (ad.add 64)) (nums .u8 (bs.drop 64))) := by
                  have h1 := HC6.out.drop (n := N) (c := c6) (size := 1) (by rw [nums_length, HBL.out, Nat.mul_one]) hc6 64 h64
                  rw [if_neg hck, Nat.mul_one, ← nums_drop] at h1
                  exact h1
                have hne : ∀ x, some (ad.add 64) = some x → x.block ≠ w9.heap.size := by
                  intro x hx
                  injection hx with hx
                  rw [← hx, block_of_add]
                  exact Nat.ne_of_lt (HA6.out ad rfl)
                go_wp2
                go_roundw
                case rel =>
                  refine ⟨j + 1, some (ad.add 64), c6 - 64, by have := HND.out; omega, by have := HND.out; rw [show P.length - 64 * (j + 1) = N - 64 by omega]; first | rfl | simp [Addr.add], by have := HND.out; omega, ?_, ?_, ?_, Ext.setg (Ext.setg (Ext.setg (Ext.setg X5 _ _ _ (Nat.le_refl _)) _ _ _ (Nat.le_refl _)) _ _ _ (Nat.le_refl _)) _ _ _ (Nat.le_refl _)⟩
                  · show Cells _ _ _
                    rw [HDR.out]
                    exact (((HC7.out.ext (w' := w5)).setOther hne _).setOther hne _ |>.setOther hne _).setOther hne _
                  · intro x hx
                    injection hx with hx
                    rw [← hx, block_of_add]
                    exact HA6.out ad rfl
                  · show _ = _
                    rw [HNX.out]
                    exact HS6.out
                case measure => show N - 64 < N; omega
            · have hN0 : ¬ (0 : Int) < (N : Int) := by omega
              have hjq : j = P.length / 64 := by omega
              have HSS : Hid (sumS (a, b, cc, d) xs n = toldS (a1, b1, c1, d1) 16) := by
                unfold Hid sumS
                rw [HPP.out, ← hjq, hq]
              have HWK : Hid (WOk (a1, b1, c1, d1)) := by
                unfold Hid
                rw [← hq]
                exact HWO.out P j
              have HZW := Lib.hid (at_ext (w' := wr) HZR.out)
              clear hN hbs hbl hbb hmod hq hjq
              go_wp2_with fail
              refine (bytes4_any (a1, b1, c1, d1) HWK.out _).mono ?_
              rintro e w5 ⟨rfl, hb5⟩
              have S5 : Step w5 _ := ⟨hb5⟩
              have HZ5 := Lib.hid (at_ext (w' := w5) HZW.out)
              have hl := toldS_len (a1, b1, c1, d1) 16
              obtain ⟨ts, hts⟩ : ∃ ts, toldS (a1, b1, c1, d1) 16 = ts := ⟨_, rfl⟩
              rw [hts] at hl HSS ⊢
              have HI16 : Hid ((Try.prog.info? 47).map (·.size) = some (nums .u8 ts).toArray.size) := by
                unfold Hid
                rw [List.size_toArray, nums_length, hl]
                kernel_rfl
              have HZ16 : Hid ((nums .u8 (List.replicate 16 0)).toArray.size = (nums .u8 ts).toArray.size) := by
                unfold Hid
                rw [List.size_toArray, List.size_toArray, nums_length, nums_length, hl]
                rfl
              clear hts hl hb5
              go_wp2_with
                (refine wpList_store_row rfl 47 (.tmp 2) (.tmp 55) rfl w.heap.size (nums .u8 ts).toArray rfl rfl 47 (nums .u8 (List.replicate 16 0)).toArray HZ5.out HI16.out HZ16.out (one_all _ _) ?_)
              exact bodyPost_ret (results_cell_row Try.results86 _ _ w.heap.size 47 _ (0, 0) _ rfl (setRow_heap _ _ _ _ _ _ HZ5.out) Try.underlying47 rfl HI16.out) rfl ⟨by rw [HSS.out], (Ext.setRow_ (inferInstance : Ext w w5) (Nat.le_refl _) _).out⟩
end Go.Proofs.Ytobddmpiljknpaa
