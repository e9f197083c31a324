/-
  tetherlaw01.OctetBack: what is put is read again, what is read is put so: for every input the call answers true. No condition.
-/
import Derived.Test.YthlfdckcnpnemaaLawNumbers
namespace Go.Proofs.Ythlfdckcnpnemaa
open Go.RowKit
set_option linter.unusedVariables false
set_option linter.unusedSimpArgs false

theorem pow_div_zero {n : Int} {s : Nat} (h0 : 0 ≤ n) (hs : s ≤ 8) (h : n < 18446744073709551616) (hg : (s : Int) < 8 → n / 256 ^ s = 0) : n % 256 ^ s = n := by
  obtain rfl | hlt : s = 8 ∨ s < 8 := by omega
  · exact Int.emod_eq_of_lt h0 (by omega)
  · have := hg (by omega)
    have hp : (0 : Int) < 256 ^ s := Int.pow_pos (by decide)
    have h1 := Int.emod_add_mul_ediv n (256 ^ s)
    rw [this, Int.mul_zero, Int.add_zero] at h1
    exact h1
theorem get_put {xs : List Int} {n size : Int} (h0 : 0 ≤ n) (h : n < 18446744073709551616) (hp : ¬ putBad n size) : getF (putL xs n size) xs.length size = (n, 0) := by
  have hp' := hp
  unfold putBad at hp'
  obtain ⟨s, rfl⟩ := Int.eq_ofNat_of_zero_le (show 0 ≤ size by omega)
  rw [putL_ok hp, Int.toNat_natCast]
  rw [Int.toNat_natCast] at hp'
  rw [getF_ok (by rw [List.length_append, be_length]; omega) (by rw [List.length_append, be_length]; omega)]
  rw [Int.toNat_natCast, Int.toNat_natCast, List.drop_left, List.take_of_length_le (by rw [be_length]; omega), getN_be _ _ h0, pow_div_zero h0 (by omega) h (by omega)]
theorem put_get {xs : List Int} {i size : Int} (hb : Byt xs) (h : (getF xs i size).2 = 0) :
    1 ≤ size ∧ size ≤ 8 ∧ 0 ≤ i ∧ i + size ≤ xs.length ∧ 0 ≤ (getF xs i size).1 ∧ (getF xs i size).1 < 18446744073709551616 ∧ ¬ putBad (getF xs i size).1 size ∧ putL [] (getF xs i size).1 size = (xs.drop i.toNat).take size.toNat := by
  by_cases h1 : size < 1 ∨ 8 < size ∨ i < 0 ∨ (xs.length : Int) < i
  · rw [getF_arg h1] at h; cases h
  by_cases h2 : (xs.length : Int) - i < size
  · rw [getF_short h1 h2] at h; cases h
  rw [getF_ok h1 h2]
  obtain ⟨s, rfl⟩ := Int.eq_ofNat_of_zero_le (show 0 ≤ size by omega)
  obtain ⟨i, rfl⟩ := Int.eq_ofNat_of_zero_le (show 0 ≤ i by omega)
  simp only [Int.toNat_natCast]
  have hl : ((xs.drop i).take s).length = s := by simp; omega
  have hby : Byt ((xs.drop i).take s) := (hb.drop _).take _
  have hg := getN_bound s _ hby (by omega)
  have h8 := getN_bound 8 _ hby (by omega)
  have hbe := be_getN _ hby
  rw [hl] at hbe
  generalize (xs.drop i).take s = ys at *
  have hnb : ¬ putBad (getN ys) s := by
    unfold putBad
    rw [Int.toNat_natCast]
    rintro (h | h | ⟨_, h⟩)
    · omega
    · omega
    · exact h (Int.ediv_eq_zero_of_lt hg.1 hg.2)
  refine ⟨by omega, by omega, by omega, by omega, hg.1, by omega, hnb, ?_⟩
  rw [putL_ok hnb, Int.toNat_natCast, hbe]
  rfl

theorem back_any (A : Option Addr) (m c : Nat) (n size i : Int) (xs : List Int) (hm : xs.length = m) (hm' : m ≤ 140737488351232) (hc : m ≤ c) (h0 : 0 ≤ n) (h0' : n < 18446744073709551616)
    (hs : -9223372036854775808 ≤ size) (hs' : size ≤ 9223372036854775807) (hi : -9223372036854775808 ≤ i) (hi' : i ≤ 9223372036854775807) (w : World) (hx : Cells w A (nums .u8 xs)) (hb : Byt xs) :
    Calls Try.prog 4 #[.slice A m c, .int .u64 n, .int .i64 size, .int .i64 i] w fun e w' => e = .returned (.bool true) ∧ Below w.heap.size w w' := by
  have Hm := Lib.hid hm
  have HX := Lib.hid hx
  have hLl : (putL xs n size).length ≤ m + 8 := by have := putL_length_le xs n size; rwa [hm] at this
  have HLb := Lib.hid (putL_byt (xs := xs) n size hb)
  have HPG := Lib.hid (get_put (xs := xs) (size := size) h0 h0')
  have HLen : Hid (¬ putBad n size → ((putL xs n size).length : Int) = m + size) := fun h => by
    rw [putL_ok h, List.length_append, be_length, hm]
    unfold putBad at h
    omega
  have HE1 := Lib.hid (@putE_bad n size)
  have HE0 := Lib.hid (@putE_ok n size)
  clear hx hm
  go_enter Try.func4, Try.ntmps4
  go_wp2_with fail
  refine (put_any A m c n size xs Hm.out (by omega) h0 h0' hs hs' w HX.out).mono ?_
  rintro e w1 ⟨v1, rfl, ho1, hb1⟩
  obtain ⟨k, hk⟩ : ∃ k, k = (putL xs n size).length := ⟨_, rfl⟩
  rw [← hk] at ho1 hLl HLen
  obtain ⟨A1, c1, rfl, hc1⟩ := own_slice ho1
  have HK := Lib.hid hk
  clear hk
  have HC1 := Lib.hid (own_cells ho1)
  have HB1 := Lib.hid hb1
  clear ho1 hb1
  generalize putL xs n size = L at *
  by_cases hp : putBad n size
  · have hE := HE1.out hp
    rw [hE]
    clear hE HE1 HE0 HPG HLen hp
    go_wp2_with fail
    have HBc := HB1
    have HG := Lib.hid (put_get (i := i) (size := size) hb)
    refine (get_any A m c i size xs Hm.out (by omega) hc hi hi' hs hs' _ (HX.out.below HBc.out) hb).mono ?_
    rintro e w3 ⟨rfl, hd3⟩
    have HB3 := Lib.hid (below_drawn HBc.out hd3)
    clear hd3
    generalize getF xs i size = G at *
    obtain ⟨G1, G2⟩ := G
    by_cases hg : G2 = 0
    · subst hg
      obtain ⟨g1, g2, g3, g4, g5, g6, g7, g8⟩ := HG.out rfl
      simp only at g5 g6 g7 g8
      obtain ⟨s, rfl⟩ := Int.eq_ofNat_of_zero_le (show 0 ≤ size by omega)
      obtain ⟨i, rfl⟩ := Int.eq_ofNat_of_zero_le g3
      simp only [Int.toNat_natCast] at g8
      obtain ⟨ys, hys⟩ : ∃ ys, ys = (xs.drop i).take s := ⟨_, rfl⟩
      rw [← hys] at g8
      have hm8 := Hm.out
      have hyl : ys.length = s := by rw [hys]; simp; omega
      have HYC : Hid (Cells w (A.map (·.add i)) (nums .u8 ys)) := by
        have h1 := HX.out.drop (size := 1) (n := m) (c := c) (by rw [nums_length, Nat.mul_one]; exact Hm.out) hc i (by omega)
        rw [if_neg (by omega), Nat.mul_one] at h1
        have h2 := h1.take s
        rwa [← nums_drop, ← nums_take, ← hys] at h2
      clear hys
      have HYL := Lib.hid hyl
      clear hyl
      have H8 := Lib.hid g8
      have HE := Lib.hid (putE_ok g7)
      clear g7 g8 HG
      have hl : s ≤ m - i := by omega
      have hl2 : i ≤ m := by omega
      clear hm8
      go_wp2_with fail
      refine (put_any none 0 0 G1 s [] rfl (by omega) g5 g6 (by omega) (by omega) _ (Cells.nil_ _ _)).mono ?_
      rintro e w4 ⟨v4, rfl, ho4, hb4⟩
      rw [HE.out]
      rw [H8.out, HYL.out] at ho4
      obtain ⟨A4, c4, rfl, hc4⟩ := own_slice ho4
      have HC4 := Lib.hid (own_cells ho4)
      have HB4 := Lib.hid (below_then HB3.out HB3.out.size hb4)
      clear ho4 hb4
      go_wp2_with fail
      refine (same_any A4 (A.map (·.add i)) s s c4 (c - i) ys ys HYL.out HYL.out (by omega) (by omega) w4 HC4.out (HYC.out.below HB4.out)).mono ?_
      rintro e w5 ⟨rfl, q5, rfl⟩
      simp only [decide_true]
      have HB5 := Lib.hid (below_drewN HB4.out q5)
      go_wp2_with fail
      refine (known01_any _).mono ?_
      rintro e w6 ⟨rfl, hb6⟩
      have HB6 := Lib.hid (below_then HB5.out HB5.out.size hb6)
      clear hb6
      go_wp2_with fail
      go_ret
      exact ⟨rfl, HB6.out⟩
    · have hg2 : (G2 == 0) = false := by simpa using hg
      go_wp2_with fail
      refine (known01_any _).mono ?_
      rintro e w4 ⟨rfl, hb4⟩
      have HB4 := Lib.hid (below_then HB3.out HB3.out.size hb4)
      clear hb4
      go_wp2_with fail
      go_ret
      exact ⟨rfl, HB4.out⟩
  · rw [HE0.out hp]
    have hPG := HPG.out hp
    have hLen := HLen.out hp
    have HPG' := Lib.hid hPG
    have HLn := Lib.hid hLen
    have hz1 : 1 ≤ size ∧ size ≤ 8 := by
      unfold putBad at hp
      omega
    clear HE1 HE0 HPG HLen hp hPG
    go_wp2_with fail
    refine (get_any A1 k c1 m size L HK.out.symm (by omega) hc1 (by omega) (by omega) (by omega) (by omega) w1 HC1.out HLb.out).mono ?_
    rintro e w2 ⟨rfl, q, rfl⟩
    have hPG := HPG'.out
    rw [Hm.out] at hPG
    rw [hPG]
    have HBc := Lib.hid (below_drewN HB1.out q)
    have hkne : ((k : Int) != (m : Int) + size) = false := by rw [hLen]; simp
    clear HLn HPG' hPG hLen
    go_wp2_with fail
    have HG := Lib.hid (put_get (i := i) (size := size) hb)
    refine (get_any A m c i size xs Hm.out (by omega) hc hi hi' hs hs' _ (HX.out.below HBc.out) hb).mono ?_
    rintro e w3 ⟨rfl, hd3⟩
    have HB3 := Lib.hid (below_drawn HBc.out hd3)
    clear hd3
    generalize getF xs i size = G at *
    obtain ⟨G1, G2⟩ := G
    by_cases hg : G2 = 0
    · subst hg
      obtain ⟨g1, g2, g3, g4, g5, g6, g7, g8⟩ := HG.out rfl
      simp only at g5 g6 g7 g8
      obtain ⟨s, rfl⟩ := Int.eq_ofNat_of_zero_le (show 0 ≤ size by omega)
      obtain ⟨i, rfl⟩ := Int.eq_ofNat_of_zero_le g3
      simp only [Int.toNat_natCast] at g8
      obtain ⟨ys, hys⟩ : ∃ ys, ys = (xs.drop i).take s := ⟨_, rfl⟩
      rw [← hys] at g8
      have hm8 := Hm.out
      have hyl : ys.length = s := by rw [hys]; simp; omega
      have HYC : Hid (Cells w (A.map (·.add i)) (nums .u8 ys)) := by
        have h1 := HX.out.drop (size := 1) (n := m) (c := c) (by rw [nums_length, Nat.mul_one]; exact Hm.out) hc i (by omega)
        rw [if_neg (by omega), Nat.mul_one] at h1
        have h2 := h1.take s
        rwa [← nums_drop, ← nums_take, ← hys] at h2
      clear hys
      have HYL := Lib.hid hyl
      clear hyl
      have H8 := Lib.hid g8
      have HE := Lib.hid (putE_ok g7)
      clear g7 g8 HG
      have hl : s ≤ m - i := by omega
      have hl2 : i ≤ m := by omega
      clear hm8
      go_wp2_with fail
      refine (put_any none 0 0 G1 s [] rfl (by omega) g5 g6 (by omega) (by omega) _ (Cells.nil_ _ _)).mono ?_
      rintro e w4 ⟨v4, rfl, ho4, hb4⟩
      rw [HE.out]
      rw [H8.out, HYL.out] at ho4
      obtain ⟨A4, c4, rfl, hc4⟩ := own_slice ho4
      have HC4 := Lib.hid (own_cells ho4)
      have HB4 := Lib.hid (below_then HB3.out HB3.out.size hb4)
      clear ho4 hb4
      go_wp2_with fail
      refine (same_any A4 (A.map (·.add i)) s s c4 (c - i) ys ys HYL.out HYL.out (by omega) (by omega) w4 HC4.out (HYC.out.below HB4.out)).mono ?_
      rintro e w5 ⟨rfl, q5, rfl⟩
      simp only [decide_true]
      have HB5 := Lib.hid (below_drewN HB4.out q5)
      go_wp2_with fail
      refine (known01_any _).mono ?_
      rintro e w6 ⟨rfl, hb6⟩
      have HB6 := Lib.hid (below_then HB5.out HB5.out.size hb6)
      clear hb6
      go_wp2_with fail
      go_ret
      exact ⟨rfl, HB6.out⟩
    · have hg2 : (G2 == 0) = false := by simpa using hg
      go_wp2_with fail
      refine (known01_any _).mono ?_
      rintro e w4 ⟨rfl, hb4⟩
      have HB4 := Lib.hid (below_then HB3.out HB3.out.size hb4)
      clear hb4
      go_wp2_with fail
      go_ret
      exact ⟨rfl, HB4.out⟩

namespace OctetBack
theorem walk (W : World) (vs : List Value) (h : Args Try.prog W Try.f4.params.toList vs) : Calls Try.prog 4 vs.toArray W fun e W' => e = .returned (.bool true) ∧ Below W.heap.size W W' := by
  rw [Try.params4] at h
  match vs, h with
  | [v0, v1, v2, v3], ⟨h0, h1, h2, h3, _⟩ =>
    obtain ⟨A, n, c, xs, rfl, hl, hnc, hn, hC, hB⟩ := h0.bytes Try.underlying22 Try.underlying5 cells_u8 bytes_u8
    obtain ⟨a1, rfl, w1⟩ := h1.int Try.underlying23
    obtain ⟨a2, rfl, w2⟩ := h2.int Try.underlying3
    obtain ⟨a3, rfl, w3⟩ := h3.int Try.underlying3
    exact back_any A n c a1 a2 a3 xs hl hn hnc (wf_u64 w1).1 (wf_u64 w1).2 (wf_i64 w2).1 (wf_i64 w2).2 (wf_i64 w3).1 (wf_i64 w3).2 W hC hB

set_option maxRecDepth 100000 in
theorem lifted (os : Os) (started : os.Started) (H : Type) (enc : TypeId × Value → H) :
    ReturnsInHanded {} Try.checked os 4 .any (Rows.octetBackSpec.pre6 enc Try.prog Try.f4 Rows.octetBackRow.domain false) (Rows.octetBackSpec.post enc Try.prog Try.f4 false true false false) :=
  law_lifted (C := Try.checked) laid_out own_knob started (by kernel_rfl) Try.func4 H enc rfl
    (fun ds hd => by
      have : ds.length = 4 := hd
      match ds, this with
      | [_, _, _, _], _ => exact ⟨rfl, rfl, rfl⟩) rfl Try.underlying4 (by
      have : (Try.f4.params.toList.all fun t => Try.prog.readableRec t && decide (t < Try.prog.types.size)) = true := by kernel_rfl
      intro t ht
      have h := List.all_eq_true.1 this t ht
      rw [Bool.and_eq_true, decide_eq_true_eq] at h
      exact h)
    (ChangeSpec.witness6 (enc := enc) (C := Try.checked) false ⟨#[], #[.slice none 0 0, .int .u64 0, .int .i64 0, .int .i64 0], []⟩ 8 (by kernel_rfl) (by kernel_rfl) (by kernel_rfl) (by kernel_rfl)) walk

theorem over : Rows.octetBackRow.holds Try.pinned (OpenSpec.ofChange Rows.octetBackSpec) :=
  OpenClaim.holds_of_wide 4 Try.f4 rfl rfl rfl rfl rfl rfl rfl ⟨rfl, rfl, rfl, rfl, rfl⟩ rfl rfl rfl rfl rfl (by kernel_rfl) Try.func4 (by kernel_rfl)
    (of_decide_eq_true (by kernel_rfl)) (by unfold Func.isWrapper; first | (rw [if_pos (by decide +kernel)]; kernel_rfl) | (rw [if_neg (by decide +kernel)]; exact ⟨rfl, rfl⟩))
    (fun os started H enc _ => lifted os started H enc)

/-- The statement. -/
theorem proved : Rows.OctetBackSaid := over
#print axioms proved
end OctetBack
end Go.Proofs.Ythlfdckcnpnemaa
