/-
  tetherlaw04.Md5Texts: digests as text, there and back: for every input of bulk at most 1048576 the call answers true. No condition.
-/
import Derived.Test.YtmopdimokoogmaaMdR
import Derived.Test.YtmopdimokoogmaaSeat
import Derived.Test.YtmopdimokoogmaaArgs
namespace Go.Proofs.Ytmopdimokoogmaa
open Go.RowKit
set_option linter.unusedVariables false
set_option linter.unusedSimpArgs false

set_option maxHeartbeats 1000000 in
theorem rhex4_any (A : Option Addr) (n c : Nat) (xs : List Int) (hn : xs.length = n) (hn' : n ≤ 70368744177664) (hbx : Byt xs) (w : World) (hx : Cells w A (nums .u8 xs)) :
    Calls Try.prog 56 #[.slice A n c] w fun e w' => e = .returned (.string (strOfNums (hexL xs))) ∧ Below w.heap.size w w' := by
  have Hn := Lib.hid hn
  have HBX := Lib.hid hbx
  have HX := Lib.hid hx
  clear hn hbx hx
  go_enter Try.func56, Try.ntmps56
  go_wp2
  go_loopw [3, 8] (fun v i wr => ∃ (k : Nat) (L : Option Addr) (cl : Nat), i = .int .i64 k ∧ k ≤ n ∧ v = .slice L (2 * k) cl ∧ Hid (wr.ownsRow w.heap.size 5 1 (.slice L (2 * k) cl) (2 * k) (nums .u8 (hexL (xs.take k)))) ∧ Hid (Ext w wr)) (fun _ i _ => n - (intOf i).toNat)
  case atStart => exact ⟨0, none, 0, rfl, by omega, rfl, own_nil _ _ _ _, (inferInstance : Ext w w)⟩
  case round =>
    obtain ⟨k, L, cl, rfl, hk, rfl, HO, HE⟩ := hrel
    have XE : Ext w wr := HE.out
    by_cases hlt : k < n
    · have HC : Hid (Cells wr A (nums .u8 xs)) := HX.out.ext
      obtain ⟨ad, rfl, hc⟩ := HC.out.num (by rw [Hn.out]; exact hlt)
      have HX0 := HBX.out.getD k
      have HS := Lib.hid (hexL_succ (xs := xs) (k := k) (by rw [Hn.out]; exact hlt))
      generalize hX : xs.getD k 0 = X at *
      have hx0 := HX0.1
      have hx1 := HX0.2
      have hq0 : 0 ≤ X / 16 := by omega
      have hq1 : X / 16 < 16 := by omega
      have hr0 : 0 ≤ X % 16 := by omega
      have hr1 : X % 16 < 16 := by omega
      clear hX HX0
      have hms : bits .and .u8 X 15 = X % 16 := bits_mask .u8 8 (by decide) wraps_u8 4 (by decide) X hx0 (by omega)
      have hqd : IntKind.u8.wrap (X.tdiv 16) = X / 16 := by rw [Int.tdiv_eq_ediv_of_nonneg hx0]; exact wraps_u8 _ (by omega) (by omega)
      have hrm : X.tmod 16 = X % 16 := Int.tmod_eq_emod_of_nonneg hx0
      have g1 := dig_get hq0 hq1
      have g2 := dig_get hr0 hr1
      go_wp2
      go_region_law
        (refine step_append w.heap.size rfl (.tmp 12) (.tmp 19) 42 5 (.int .u8 0) 1 1 rfl Try.underlying42 info_u8 rfl (by decide) (by decide) (.slice L (2 * k) cl) (2 * k) (nums .u8 (hexL (xs.take k))) _ 2 2 [.int .u8 (hexD (X / 16)), .int .u8 (hexD (X % 16))] rfl rfl rfl ?d1 ?d0 ?d2 ?d3 ?d4 ?_
         (case d1 => intro u hu; simp at hu; rcases hu with rfl | rfl <;> rfl)
         (case d0 => exact own_ext HO.out)
         (case d2 => exact cells_box _ _ (by simp) [.int .u8 (hexD (X / 16)), .int .u8 (hexD (X % 16))] _)
         (case d3 => have := XE.out.size; simp; omega)
         (case d4 => omega)
         intro v1 w1 ho1 hg1 hat1
         obtain ⟨A1, c1, rfl, hc1⟩ := own_slice ho1
         have HO1 := Lib.hid ho1
         have HB1 : Hid (Ext w w1) := ⟨below_grown (Ext.out (w := w) (w' := World.drew _)) (Ext.out (w := w) (w' := World.drew _)).size hg1 (own_base HO.out)⟩
         clear ho1 hg1 hat1)
      all_goals go_wp2
      all_goals
        refine ⟨⟨k + 1, A1, c1, by go_num, by omega, rfl, ?_, ?_⟩, by simp [intOf]; omega⟩
        · show World.ownsRow _ _ _ _ _ _ _
          rw [HS.out, nums_append]
          exact HO1.out
        · exact HB1.out
    · obtain rfl : k = n := by omega
      have HO2 := HO
      rw [List.take_of_length_le (by rw [Hn.out]; exact Nat.le_refl _)] at HO2
      have k1 : (convert 42 9 (.slice L (2 * k) cl)).run Try.prog wr = .ok (.string (strOfNums (hexL xs))) wr := conv4 (by rw [hexL_len, Hn.out]) (own_cells HO2.out) rfl
      go_wp2
      go_ret
      exact ⟨rfl, Ext.out⟩
theorem hexD_byt {d : Int} (h0 : 0 ≤ d) (h1 : d < 16) : 0 ≤ hexD d ∧ hexD d < 256 := by unfold hexD; split <;> omega
theorem digV_hexD {d : Int} (h0 : 0 ≤ d) (h1 : d < 16) : digV (hexD d) = d := by
  unfold digV hexD
  split
  · rw [if_pos (by omega)]; omega
  · rw [if_neg (by omega), if_pos (by omega)]; omega
theorem hexL_byt {xs : List Int} (h : Byt xs) : Byt (hexL xs) := by
  intro y hy
  simp only [hexL, List.mem_flatMap] at hy
  obtain ⟨x, hx, hy⟩ := hy
  have := h x hx
  simp at hy
  rcases hy with rfl | rfl
  · exact hexD_byt (by omega) (by omega)
  · exact hexD_byt (by omega) (by omega)
theorem hexL_get : ∀ (xs : List Int) (k : Nat), k < xs.length → (hexL xs).getD (2 * k) 0 = hexD (xs.getD k 0 / 16) ∧ (hexL xs).getD (2 * k + 1) 0 = hexD (xs.getD k 0 % 16)
  | [], k, h => by simp at h
  | x :: xs, 0, h => ⟨rfl, rfl⟩
  | x :: xs, k + 1, h => by
    have ih := hexL_get xs k (by simpa using h)
    rw [show hexL (x :: xs) = hexD (x / 16) :: hexD (x % 16) :: hexL xs from rfl, show 2 * (k + 1) = 2 * k + 1 + 1 by omega]
    simp only [List.getD_cons_succ]
    exact ih
theorem unhK_hexL {xs : List Int} (h : Byt xs) : ∀ k, k ≤ xs.length → unhK (hexL xs) k = some (xs.take k)
  | 0, _ => rfl
  | k + 1, hk => by
    have hg := hexL_get xs k (by omega)
    have hx := h.getD k
    rw [unhK, unhK_hexL h k (by omega)]
    simp only
    rw [hg.1, hg.2, digV_hexD (by omega) (by omega), digV_hexD (by omega) (by omega), if_neg (by omega), List.take_add_one, List.getElem?_eq_getElem (by omega)]
    congr 2
    rw [List.getD_eq_getElem?_getD, List.getElem?_eq_getElem (by omega), Option.getD_some]
    simp
    omega
theorem unhF_hexL {xs : List Int} (h : Byt xs) : unhF (strB (strOfNums (hexL xs))) = some xs := by
  rw [strB_str _ (hexL_byt h)]
  unfold unhF
  rw [if_neg (by rw [hexL_len]; omega), hexL_len, show 2 * xs.length / 2 = xs.length by omega, unhK_hexL h _ (Nat.le_refl _), List.take_length]
theorem unL_byt (xs : List Int) : Byt (unL xs) := by
  unfold unL unhF
  split
  · exact Byt.nil_
  · rename_i l h
    split at h
    · cases h
    · exact unhK_byt _ _ _ h
theorem unL_len (xs : List Int) : (unL xs).length ≤ xs.length := by
  unfold unL unhF
  split
  · exact Nat.zero_le _
  · rename_i l h
    split at h
    · cases h
    · rw [unhK_len _ _ _ h]
      omega
set_option maxRecDepth 100000 in
set_option maxHeartbeats 4000000 in
theorem texts_any (s : ByteArray) (A B : Option Addr) (n c m d : Nat) (xs ys : List Int) (hn : xs.length = n) (hm : ys.length = m) (hs' : s.size ≤ 70368744177664) (hn' : n ≤ 35184372088832) (hm' : m ≤ 70368744177664) (hb : Byt xs) (hby : Byt ys) (w : World) (hx : Cells w A (nums .u8 xs)) (hy : Cells w B (nums .u8 ys)) :
    Calls Try.prog 11 #[.slice A n c, .slice B m d, .string s] w fun e w' => e = .returned (.bool true) ∧ Below w.heap.size w w' := by
  have Hn := Lib.hid hn
  have Hm := Lib.hid hm
  have HX := Lib.hid hx
  have HY := Lib.hid hy
  have HB := Lib.hid hb
  have HBY := Lib.hid hby
  clear hn hx hb hm hy hby
  go_enter Try.func11, Try.ntmps11
  go_wp2_with fail
  refine (unhex4_any s (by omega) _).mono ?_
  rintro e w1 ⟨v1, rfl, ho1, hb1⟩
  have S1 : Step w1 _ := ⟨hb1⟩
  have HUB := Lib.hid (unL_byt (strB s))
  obtain ⟨us, hus⟩ : ∃ us, unL (strB s) = us := ⟨_, rfl⟩
  obtain ⟨ue, hue⟩ : ∃ ue, unE (strB s) = ue := ⟨_, rfl⟩
  have HUS := Lib.hid hus
  have HUE := Lib.hid hue
  rw [hus] at ho1 HUB
  rw [hue]
  obtain ⟨A1, c1, rfl, hc1⟩ := own_slice ho1
  have HO1 := Lib.hid ho1
  clear ho1 hb1 hus hue hc1
  go_wp2_with fail
  refine (runhex4_any s (by omega) _).mono ?_
  rintro e w2 ⟨v2, rfl, ho2, hb2⟩
  have S2 : Step w2 _ := ⟨hb2⟩
  rw [HUS.out] at ho2
  rw [HUE.out]
  obtain ⟨A2, c2, rfl, hc2⟩ := own_slice ho2
  have HO2 := Lib.hid ho2
  clear ho2 hb2 hc2
  go_wp2_with fail
  refine (hex4_any A n c xs Hn.out (by omega) HB.out _ (by exact HX.out.ext)).mono ?_
  rintro e w3 ⟨rfl, hb3⟩
  have S3 : Step w3 _ := ⟨hb3⟩
  have HHE : Hid (unE (strB (strOfNums (hexL xs))) = 0) := by unfold Hid unE; rw [unhF_hexL HB.out]
  have HHL : Hid (unL (strB (strOfNums (hexL xs))) = xs) := by unfold Hid unL; rw [unhF_hexL HB.out]
  have HHS : Hid ((strOfNums (hexL xs)).size = 2 * n) := by unfold Hid; rw [strOfNums_size, hexL_len, Hn.out]
  obtain ⟨hs, hhs⟩ : ∃ hs, strOfNums (hexL xs) = hs := ⟨_, rfl⟩
  have HHH := Lib.hid hhs
  rw [hhs] at HHE HHL HHS ⊢
  clear hb3 hhs
  go_wp2_with fail
  refine (unhex4_any hs (by rw [HHS.out]; omega) _).mono ?_
  rintro e w4 ⟨v4, rfl, ho4, hb4⟩
  have S4 : Step w4 _ := ⟨hb4⟩
  rw [HHL.out, Hn.out] at ho4
  rw [HHE.out]
  obtain ⟨A4, c4, rfl, hc4⟩ := own_slice ho4
  have HO4 := Lib.hid ho4
  clear ho4 hb4 hc4
  go_wp2_with fail
  refine (same4_any A1 A2 us.length us.length c1 c2 us us rfl rfl HUB.out HUB.out w4 (by exact own_cells (own_ext HO1.out)) (by exact own_cells (own_ext HO2.out))).mono ?_
  rintro e w5 ⟨rfl, rfl⟩
  simp only [decide_true]
  go_wp2_with fail
  refine (rhex4_any A n c xs Hn.out (by omega) HB.out _ (by exact HX.out.ext)).mono ?_
  rintro e w6 ⟨rfl, hb6⟩
  have S6 : Step w6 _ := ⟨hb6⟩
  rw [HHH.out]
  clear hb6
  go_wp2_with fail
  refine (same4_any A4 A n n c4 c xs xs Hn.out Hn.out HB.out HB.out w6 (by exact own_cells (own_ext HO4.out)) (by exact HX.out.ext)).mono ?_
  rintro e w7 ⟨rfl, rfl⟩
  simp only [decide_true]
  go_wp2_with fail
  refine (equal4_any A B n m c d xs ys Hn.out Hm.out (by omega) (by omega) HB.out HBY.out _ (by exact HX.out.ext) (by exact HY.out.ext)).mono ?_
  rintro e w8 ⟨rfl, q8, rfl⟩
  obtain ⟨bb, hbb⟩ : ∃ b, decide (xs = ys) = b := ⟨_, rfl⟩
  have HBB := Lib.hid hbb
  rw [hbb]
  clear hbb
  go_wp2_with fail
  refine (same4_any A B n m c d xs ys Hn.out Hm.out HB.out HBY.out _ (by exact HX.out.ext) (by exact HY.out.ext)).mono ?_
  rintro e w9 ⟨rfl, rfl⟩
  rw [HBB.out]
  go_wp2_with fail
  refine (lent4_any A n c xs Hn.out (by omega) _ (by exact HX.out.ext)).mono ?_
  rintro e w10 ⟨g, cap, rfl, hcap, ho10, hb10⟩
  have HC10 := Lib.hid (show Cells w10 (some ⟨g, 0, none⟩) (nums .u8 xs) from by have := own_cells ho10; rw [nums_append] at this; exact this.left)
  have S10 : Step w10 _ := ⟨hb10⟩
  clear ho10 hb10
  go_wp2_with fail
  refine (equal4_any A _ n n c cap xs xs Hn.out Hn.out (by omega) (by omega) HB.out HB.out _ (by exact HX.out.ext) (by exact HC10.out.ext)).mono ?_
  rintro e w11 ⟨rfl, q11, rfl⟩
  simp only [decide_true]
  go_wp2_with fail
  refine (awake4_any _).mono ?_
  rintro e w12 ⟨rfl, hb12⟩
  have S12 : Step w12 _ := ⟨hb12⟩
  clear hb12
  go_wp2
  go_ret
  exact ⟨rfl, Ext.out⟩

namespace Md5Texts
set_option maxRecDepth 100000 in
theorem walk (W : World) (vs : List Value) (h : Args 1048576 Try.prog W Try.f11.params.toList vs) : Calls Try.prog 11 vs.toArray W fun e W' => e = .returned (.bool true) ∧ Below W.heap.size W W' := by
  rw [Try.params11] at h
  match vs, h with
  | [v0, v1, v2], ⟨h0, h1, h2, _⟩ =>
    obtain ⟨A, n, c, xs, rfl, hl, hnc, hn, hC, hB⟩ := h0.bytes Try.underlying42 Try.underlying5 cells_u8 bytes_u8
    obtain ⟨B, m, d, ys, rfl, hly, hmd, hm, hCy, hBy⟩ := h1.bytes Try.underlying42 Try.underlying5 cells_u8 bytes_u8
    obtain ⟨s, rfl, _⟩ := h2.str Try.underlying9
    have hr := h0.room Try.underlying42
    have hr1 := h1.room Try.underlying42
    have hs := h2.letters Try.underlying9
    exact texts_any s A B n c m d xs ys hl hly (by omega) (by omega) (by omega) hB hBy W hC hCy

set_option maxRecDepth 100000 in
theorem lifted (os : Os) (started : os.Started) (H : Type) (enc : TypeId × Value → H) (F : Stop.Interp) :
    ReturnsInHanded {} Try.checked os 11 .any ((Rows.OpenSpec.upto Rows.md5TextsSpec).pre6 enc Try.prog Try.f11 Rows.md5TextsUptoRow.domain false) (((Rows.OpenSpec.upto Rows.md5TextsSpec).at F).post enc Try.prog Try.f11 false true false false) :=
  law_lifted_upto (C := Try.checked) laid_out own_knob started (by kernel_rfl) Try.func11 H enc F rfl
    (fun ds hd => by
      have : ds.length = 3 := hd
      match ds, this with
      | [_, _, _], _ => exact ⟨rfl, rfl, rfl⟩) rfl Try.underlying4 (by
      have : (Try.f11.params.toList.all fun t => Try.prog.readableRec t && decide (t < Try.prog.types.size)) = true := by kernel_rfl
      intro t ht
      have h := List.all_eq_true.1 this t ht
      rw [Bool.and_eq_true, decide_eq_true_eq] at h
      exact h)
    (OpenSpec.witness (enc := enc) (C := Try.checked) (s := Rows.OpenSpec.upto Rows.md5TextsSpec) (k := Rows.uptoSmall) rfl false ⟨#[], #[.slice none 0 0, .slice none 0 0, .string ⟨#[]⟩], []⟩ 8 (by kernel_rfl) (by kernel_rfl) (by kernel_rfl)
      (x := ([.nil, .nil, .lit (.string [])], [], [])) (by kernel_rfl) rfl (by kernel_rfl)) walk

theorem over : Rows.md5TextsUptoRow.holds Try.pinned (Rows.OpenSpec.upto Rows.md5TextsSpec) :=
  OpenClaim.holds_of_cond 11 Try.f11 rfl rfl rfl rfl rfl rfl rfl ⟨rfl, rfl, rfl, rfl, rfl⟩ rfl rfl rfl rfl rfl (by kernel_rfl) Try.func11 (by kernel_rfl)
    (of_decide_eq_true (by kernel_rfl)) (by unfold Func.isWrapper; first | (rw [if_pos (by decide +kernel)]; kernel_rfl) | (rw [if_neg (by decide +kernel)]; exact ⟨rfl, rfl⟩))
    (fun os started H enc _ F => lifted os started H enc F)

/-- The statement. -/
theorem proved : Rows.Md5TextsUptoSaid := over
#print axioms proved
end Md5Texts
end Go.Proofs.Ytmopdimokoogmaa
