/-
  tetherlaw01.OctetNumbers: for every input the call answers true. No condition.
-/
import Derived.Test.YthlfdckcnpnemaaPut
import Derived.Test.YthlfdckcnpnemaaSeat
namespace Go.Proofs.Ythlfdckcnpnemaa
open Go.RowKit
set_option linter.unusedVariables false
set_option linter.unusedSimpArgs false

set_option maxHeartbeats 1000000 in
theorem known01_any (w : World) : Calls Try.prog 19 #[] w fun e w' => e = .returned (.bool true) ∧ Below w.heap.size w w' := by
  go_enter Try.func19, Try.ntmps19
  go_wp2_with fail
  refine (put_any none 0 0 4660 2 [] rfl (by omega) (by omega) (by omega) (by omega) (by omega) w (Cells.nil_ _ _)).mono ?_
  rintro e w1 ⟨v1, rfl, ho1, hb1⟩
  rw [show putE 4660 2 = 0 from by decide]
  rw [show putL [] 4660 2 = [18, 52] from by decide] at ho1
  obtain ⟨g1, c1, rfl, hg1, hl1, hc1⟩ := own_form ho1 (by decide)
  have HO1 := Lib.hid ho1
  clear ho1
  simp only [List.length_cons, List.length_nil, Nat.zero_add, Nat.reduceAdd] at hc1 ⊢
  go_wp2_with fail
  refine (put_any none 0 0 256 1 [] rfl (by omega) (by omega) (by omega) (by omega) (by omega) w1 (Cells.nil_ _ _)).mono ?_
  rintro e w2 ⟨v2, rfl, ho2, hb2⟩
  rw [show putE 256 1 = 1 from by decide]
  have HO2 := Lib.hid (own_below HO1.out hb2)
  clear HO1 ho2
  go_wp2_with fail
  refine (get_any (some ⟨w2.heap.size, 0, none⟩) 3 3 1 2 [18, 52, 86] rfl (by omega) (by omega) (by omega) (by omega) (by omega) (by omega) _ ?_ ?_).mono ?_
  · intro _
    exact ⟨_, rfl, World.news_of_block (cs := #[.int .u8 18, .int .u8 52, .int .u8 86]) (t := 5) (fr := (0, 0)) (heap_alloc_new _ _)⟩
  · exact Byt.cons (by omega) (by omega) (Byt.cons (by omega) (by omega) (Byt.one (by omega) (by omega)))
  rintro e w3 ⟨rfl, q, rfl⟩
  rw [show getF [18, 52, 86] 1 2 = (13398, 0) from by decide]
  have hcell := ((HO2.out.alloc (.cells #[.int .u8 18, .int .u8 52, .int .u8 86] 5)).cellAt 0 (by decide))
  have hcell' : ((w2.alloc (.cells #[.int .u8 18, .int .u8 52, .int .u8 86] 5)).drewN q).cell? ⟨g1, 0, none⟩ = some (.int .u8 18) := hcell
  clear hcell
  have HB := Lib.hid (below_drewN (((hb1.trans (hb2.mono hb1.size))).alloc (Nat.le_trans hb1.size hb2.size) (.cells #[.int .u8 18, .int .u8 52, .int .u8 86] 5)) q)
  go_wp2
  go_ret
  exact ⟨rfl, HB.out⟩

set_option maxHeartbeats 1000000 in
theorem numbers_any (A : Option Addr) (m c : Nat) (n size i : Int) (xs : List Int) (hm : xs.length = m) (hm' : m ≤ 140737488351232) (hc : m ≤ c) (h0 : 0 ≤ n) (h0' : n < 18446744073709551616)
    (hs : -9223372036854775808 ≤ size) (hs' : size ≤ 9223372036854775807) (hi : -9223372036854775808 ≤ i) (hi' : i ≤ 9223372036854775807) (w : World) (hx : Cells w A (nums .u8 xs)) (hb : Byt xs) :
    Calls Try.prog 3 #[.slice A m c, .int .u64 n, .int .i64 size, .int .i64 i] w fun e w' => e = .returned (.bool true) ∧ Below w.heap.size w w' := by
  have Hm := Lib.hid hm
  clear hm
  go_enter Try.func3, Try.ntmps3
  go_wp2_with fail
  refine (lent_any A m c xs Hm.out hm' w hx).mono ?_
  rintro e w1 ⟨g, cap, rfl, hcap, ho1, hb1⟩
  have HX := Lib.hid hx
  have HO := Lib.hid ho1
  have HC := Lib.hid (show Cells w1 (some ⟨g, 0, none⟩) (nums .u8 xs) from by have := own_cells ho1; rw [nums_append] at this; exact this.left)
  have HB := Lib.hid hb1
  clear hx ho1 hb1
  go_wp2_with fail
  refine (put_any (some ⟨g, 0, none⟩) m cap n size xs Hm.out (by omega) h0 h0' hs hs' w1 HC.out).mono ?_
  rintro e w2 ⟨v2, rfl, ho2, hb2⟩
  obtain ⟨A2, c2, rfl, hc2⟩ := own_slice ho2
  have HOx := Lib.hid ho2
  have H2 := Lib.hid hb2
  clear ho2 hb2
  have HL : Hid ((putL xs n size).length ≤ m + 8) := by have := putL_length_le xs n size; rwa [Hm.out] at this
  generalize hL : putL xs n size = L at *
  have HLL := Lib.hid hL
  clear hL
  go_wp2_with fail
  refine (rput_any A m c n size xs Hm.out (by omega) h0 h0' hs hs' w2 (HX.out.below (below_then HB.out HB.out.size H2.out))).mono ?_
  rintro e w3 ⟨v3, rfl, ho3, hb3⟩
  rw [HLL.out] at ho3
  obtain ⟨A3, c3, rfl, hc3⟩ := own_slice ho3
  have H3 := Lib.hid (below_then H2.out H2.out.size hb3)
  have HOx3 := Lib.hid (own_below HOx.out hb3)
  have HOy := Lib.hid ho3
  clear ho3 hb3 HOx
  generalize hE : putE n size = E at *
  clear hE
  have hLm := HL.out
  go_wp2_with fail
  refine (same_any A2 A3 L.length L.length c2 c3 L L rfl rfl (by omega) (by omega) w3 (own_cells HOx3.out) (own_cells HOy.out)).mono ?_
  rintro e w4 ⟨rfl, q, rfl⟩
  simp only [decide_true]
  go_wp2_with fail
  refine (spoil_any A2 L.length c2 w1.heap.size L _ (by omega) (own_drewN HOx3.out q)).mono ?_
  rintro e w5 ⟨rfl, hg5⟩
  have H5 := Lib.hid (below_grown (below_drewN H3.out q) H3.out.size hg5 (own_base HOx3.out))
  clear hg5 HOx3 HOy H3 H2
  go_wp2_with fail
  refine (get_any (some ⟨g, 0, none⟩) m cap i size xs Hm.out (by omega) (by omega) hi hi' hs hs' w5 (HC.out.below H5.out) hb).mono ?_
  rintro e w6 ⟨rfl, q6, rfl⟩
  go_wp2_with fail
  refine (rget_any A m c i size xs Hm.out (by omega) (by omega) hi hi' hs hs' _ (HX.out.below (below_then HB.out HB.out.size (below_drewN H5.out q6))) hb).mono ?_
  rintro e w7 ⟨rfl, q7, rfl⟩
  generalize hG : getF xs i size = G at *
  clear hG
  go_wp2_with fail
  refine (kept_true g cap m m c w.heap.size A xs Hm.out rfl hcap hm' _ (own_below HO.out (below_drewN H5.out _)) (HX.out.below (below_then HB.out HB.out.size (below_drewN H5.out _)))).mono ?_
  rintro e w8 ⟨rfl, q8, rfl⟩
  go_wp2_with fail
  refine (known01_any _).mono ?_
  rintro e w9 ⟨rfl, hb9⟩
  have H9 := Lib.hid (below_then (below_then HB.out HB.out.size (below_drewN H5.out _)) (Nat.le_trans HB.out.size H5.out.size) hb9)
  clear hb9
  go_wp2_with fail
  go_ret
  exact ⟨rfl, H9.out⟩

namespace OctetNumbers
theorem walk (W : World) (vs : List Value) (h : Args Try.prog W Try.f3.params.toList vs) : Calls Try.prog 3 vs.toArray W fun e W' => e = .returned (.bool true) ∧ Below W.heap.size W W' := by
  rw [Try.params3] at h
  match vs, h with
  | [v0, v1, v2, v3], ⟨h0, h1, h2, h3, _⟩ =>
    obtain ⟨A, n, c, xs, rfl, hl, hnc, hn, hC, hB⟩ := h0.bytes Try.underlying22 Try.underlying5 cells_u8 bytes_u8
    obtain ⟨a1, rfl, w1⟩ := h1.int Try.underlying23
    obtain ⟨a2, rfl, w2⟩ := h2.int Try.underlying3
    obtain ⟨a3, rfl, w3⟩ := h3.int Try.underlying3
    exact numbers_any A n c a1 a2 a3 xs hl hn hnc (wf_u64 w1).1 (wf_u64 w1).2 (wf_i64 w2).1 (wf_i64 w2).2 (wf_i64 w3).1 (wf_i64 w3).2 W hC hB

set_option maxRecDepth 100000 in
theorem lifted (os : Os) (started : os.Started) (H : Type) (enc : TypeId × Value → H) :
    ReturnsInHanded {} Try.checked os 3 .any (Rows.octetNumbersSpec.pre6 enc Try.prog Try.f3 Rows.octetNumbersRow.domain false) (Rows.octetNumbersSpec.post enc Try.prog Try.f3 false true false false) :=
  law_lifted (C := Try.checked) laid_out own_knob started (by kernel_rfl) Try.func3 H enc rfl
    (fun ds hd => by
      have : ds.length = 4 := hd
      match ds, this with
      | [_, _, _, _], _ => exact ⟨rfl, rfl, rfl⟩) rfl Try.underlying4 (by
      have : (Try.f3.params.toList.all fun t => Try.prog.readableRec t && decide (t < Try.prog.types.size)) = true := by kernel_rfl
      intro t ht
      have h := List.all_eq_true.1 this t ht
      rw [Bool.and_eq_true, decide_eq_true_eq] at h
      exact h)
    (ChangeSpec.witness6 (enc := enc) (C := Try.checked) false ⟨#[], #[.slice none 0 0, .int .u64 0, .int .i64 0, .int .i64 0], []⟩ 8 (by kernel_rfl) (by kernel_rfl) (by kernel_rfl) (by kernel_rfl)) walk

theorem over : Rows.octetNumbersRow.holds Try.pinned (OpenSpec.ofChange Rows.octetNumbersSpec) :=
  OpenClaim.holds_of_wide 3 Try.f3 rfl rfl rfl rfl rfl rfl rfl ⟨rfl, rfl, rfl, rfl, rfl⟩ rfl rfl rfl rfl rfl (by kernel_rfl) Try.func3 (by kernel_rfl)
    (of_decide_eq_true (by kernel_rfl)) (by unfold Func.isWrapper; first | (rw [if_pos (by decide +kernel)]; kernel_rfl) | (rw [if_neg (by decide +kernel)]; exact ⟨rfl, rfl⟩))
    (fun os started H enc _ => lifted os started H enc)

/-- The statement. -/
theorem proved : Rows.OctetNumbersSaid := over
#print axioms proved
end OctetNumbers
end Go.Proofs.Ythlfdckcnpnemaa
