/-
  tetherlaw09.OptPackets: any packet is written, and any bytes are read, as the document says: for every input the call answers true. No condition.
-/
import Derived.Test.YthlfdckcnpnemaaOpts
import Derived.Test.YthlfdckcnpnemaaRUnpack
import Derived.Test.YthlfdckcnpnemaaSeat
import Derived.Test.YthlfdckcnpnemaaExt
import Derived.Test.YthlfdckcnpnemaaArgs
namespace Go.Proofs.Ythlfdckcnpnemaa
open Go.RowKit
set_option linter.unusedVariables false
set_option linter.unusedSimpArgs false

def pkSame (c1 i1 : Int) (xs : List Int) (c2 i2 : Int) (ys : List Int) : Bool := decide (c1 = c2 ∧ i1 = i2 ∧ xs = ys)
set_option maxHeartbeats 1000000 in
theorem samePacket_any (c1 i1 c2 i2 : Int) (A B : Option Addr) (n m c d : Nat) (xs ys : List Int) (hn : xs.length = n) (hm : ys.length = m) (hn' : n ≤ 9223372036854775807) (hm' : m ≤ 9223372036854775807)
    (w : World) (hx : Cells w A (nums .u8 xs)) (hy : Cells w B (nums .u8 ys)) :
    Calls Try.prog 24 #[.agg #[.int .i64 c1, .int .i64 i1, .slice A n c], .agg #[.int .i64 c2, .int .i64 i2, .slice B m d]] w fun e w' => e = .returned (.bool (pkSame c1 i1 xs c2 i2 ys)) ∧ Below w.heap.size w w' := by
  have Hn := Lib.hid hn
  have Hm := Lib.hid hm
  clear hn hm
  by_cases h1 : c1 = c2
  · by_cases h2 : i1 = i2
    · have HE : Hid (pkSame c1 i1 xs c2 i2 ys = decide (xs = ys)) := by unfold Hid pkSame; simp [h1, h2]
      subst h1
      subst h2
      go_enter Try.func24, Try.ntmps24
      go_wp2_with fail
      refine (same_any A B n m c d xs ys Hn.out Hm.out hn' hm' _ ((hx.alloc _).alloc _) ((hy.alloc _).alloc _)).mono ?_
      rintro e w1 ⟨rfl, hd⟩
      have HB := Lib.hid (below_drawn (((Below.refl w.heap.size w).alloc (Nat.le_refl _) _).alloc (by simp) _) hd)
      clear hd
      generalize decide (xs = ys) = b at *
      go_wp2_with fail
      go_ret
      exact ⟨ret_bool HE.out.symm, HB.out⟩
    · have h2' : (i1 == i2) = false := by simpa using h2
      have HE : Hid (pkSame c1 i1 xs c2 i2 ys = false) := by unfold Hid pkSame; simp [h2]
      go_enter Try.func24, Try.ntmps24
      go_wp2
      go_ret
      exact ⟨ret_bool HE.out.symm, ((Below.refl w.heap.size w).alloc (Nat.le_refl _) _).alloc (by simp) _⟩
  · have h1' : (c1 == c2) = false := by simpa using h1
    have HE : Hid (pkSame c1 i1 xs c2 i2 ys = false) := by unfold Hid pkSame; simp [h1]
    go_enter Try.func24, Try.ntmps24
    go_wp2
    go_ret
    exact ⟨ret_bool HE.out.symm, ((Below.refl w.heap.size w).alloc (Nat.le_refl _) _).alloc (by simp) _⟩

theorem packL_le (code id : Int) (xs : List Int) : (packL code id xs).length ≤ 16384 := by
  unfold packL
  split
  · simp
  split
  · simp
  · rw [List.length_append, List.length_append, be_length]
    simp only [List.length_cons, List.length_nil]
    omega
theorem unpackF_le (ys : List Int) : (unpackF ys).2.2.1.length ≤ ys.length := by
  unfold unpackF
  split
  · simp
  split
  · simp
  split
  · simp
  · simp only [List.length_take, List.length_drop]
    omega
theorem known_opts : optsF [] [1, 4, 5, 220, 7, 2] = ([(1, [5, 220]), (7, [])], 0) := by
  rw [optsF_step (by simp) (by simp) (by simp) (by simp)]
  have e1 : ([1, 4, 5, 220, 7, 2] : List Int).drop (([1, 4, 5, 220, 7, 2] : List Int).getD 1 0).toNat = [7, 2] := by decide
  have e2 : (([1, 4, 5, 220, 7, 2] : List Int).drop 2).take ((([1, 4, 5, 220, 7, 2] : List Int).getD 1 0).toNat - 2) = [5, 220] := by decide
  rw [e1, e2]
  rw [optsF_step (by simp) (by simp) (by simp) (by simp)]
  have e3 : ([7, 2] : List Int).drop (([7, 2] : List Int).getD 1 0).toNat = [] := by decide
  rw [e3, optsF_done (by simp)]
  rfl
set_option maxHeartbeats 4000000 in
theorem known09_any (w : World) : Calls Try.prog 25 #[] w fun e w' => e = .returned (.bool true) ∧ Below w.heap.size w w' := by
  go_enter Try.func25, Try.ntmps25
  go_wp2_with fail
  refine (pack_any 1 1 none 0 0 [] rfl (by omega) (by omega) (by omega) (by omega) (by omega) _ (Cells.nil_ _ _)).mono ?_
  rintro e w1 ⟨v1, rfl, ho1, hb1⟩
  have e1 : packE 1 1 [] = 0 := by decide
  have l1 : packL 1 1 [] = [1, 1, 0, 4] := by decide
  rw [e1]
  rw [l1] at ho1
  obtain ⟨A1, c1, rfl, hc1⟩ := own_slice ho1
  have HC1 := Lib.hid (own_cells ho1)
  have HB1 := Lib.hid hb1
  clear ho1 hb1 e1 l1 hc1
  go_wp2_with fail
  refine (options_any (some ⟨w1.heap.size, 0, none⟩) 6 6 [1, 4, 5, 220, 7, 2] rfl (by omega) (Nat.le_refl _) (by intro x hx; simp at hx; omega) _ (cells_box w1 _ rfl (nums .u8 [1, 4, 5, 220, 7, 2]) _)).mono ?_
  rintro e w2 ⟨v2, vs, rfl, hvs, ho2, _, hv2, hb2⟩
  rw [known_opts] at hvs
  rw [known_opts]
  obtain ⟨a, vs', rfl, ha0, hvs'⟩ := List.map_eq_cons_iff.1 hvs
  obtain ⟨b, vs'', rfl, hb0, hvs''⟩ := List.map_eq_cons_iff.1 hvs'
  obtain rfl := List.map_eq_nil_iff.1 hvs''
  have ha : a.t = 1 := congrArg Prod.fst ha0
  have hb : b.t = 7 := congrArg Prod.fst hb0
  have had : a.d = [5, 220] := congrArg Prod.snd ha0
  have han : a.n = 2 := by rw [← (hv2 a (by simp)).1, had]; rfl
  obtain ⟨g, c2, rfl, hg1, hg2, hc2⟩ := own_form ho2 (by simp)
  have hcell := own_cells ho2 (by simp [flat_cons])
  obtain ⟨ad, he, hcell⟩ := hcell
  injection he with he
  subst he
  have hd0 := hcell 0 _ rfl
  have hd1 := hcell 1 _ rfl
  have hd2 := hcell 2 _ rfl
  rw [add_plain] at hd0 hd1 hd2
  rw [ha] at hd0
  rw [han] at hd1
  rw [hb] at hd2
  have HC12 := Lib.hid (HC1.out.below ((((Below.refl _ _).alloc (Nat.le_refl _) _)).trans (hb2.mono (by simp))))
  have HB2 := Lib.hid (below_then HB1.out HB1.out.size ((((Below.refl _ _).alloc (Nat.le_refl _) _)).trans (hb2.mono (by simp))))
  clear hcell ho2 hv2 hvs hvs' hvs'' ha0 hb0 had hb2 ha han hb hc2
  go_wp2_with fail
  refine (same_any _ _ 4 4 _ _ [1, 1, 0, 4] [1, 1, 0, 4] rfl rfl (by omega) (by omega) _ ?_ (cells_box w2 _ rfl (nums .u8 [1, 1, 0, 4]) _)).mono ?_
  · exact HC12.out.alloc _
  rintro e w3 ⟨rfl, hd3⟩
  simp only [decide_true]
  have hb3 : Below w2.heap.size w2 w3 := below_drawn ((Below.refl _ _).alloc (Nat.le_refl _) _) hd3
  have HB3 := Lib.hid (below_then HB2.out HB2.out.size hb3)
  have hc0 := (hb3.cell (World.block_lt_of_cell? _ _ hd0)).trans hd0
  have hc1 := (hb3.cell (World.block_lt_of_cell? _ _ hd1)).trans hd1
  have hc2 := (hb3.cell (World.block_lt_of_cell? _ _ hd2)).trans hd2
  clear hd3 hb3 hd0 hd1 hd2
  go_wp2_with fail
  go_ret
  exact ⟨rfl, HB3.out⟩

set_option maxHeartbeats 4000000 in
theorem packets_any (code id : Int) (A B : Option Addr) (n c m d : Nat) (xs ys : List Int) (hn : xs.length = n) (hn' : n ≤ 140737488351232) (hc : n ≤ c) (hb : Byt xs) (hm : ys.length = m) (hm' : m ≤ 140737488351232) (hd : m ≤ d) (hby : Byt ys)
    (h1 : -9223372036854775808 ≤ code) (h1' : code ≤ 9223372036854775807) (h2 : -9223372036854775808 ≤ id) (h2' : id ≤ 9223372036854775807) (w : World) (hx : Cells w A (nums .u8 xs)) (hy : Cells w B (nums .u8 ys)) :
    Calls Try.prog 5 #[.agg #[.int .i64 code, .int .i64 id, .slice A n c], .slice B m d] w fun e w' => e = .returned (.bool true) ∧ Below w.heap.size w w' := by
  have Hn := Lib.hid hn
  have Hm := Lib.hid hm
  have HX := Lib.hid hx
  have HY := Lib.hid hy
  clear hn hm hx hy
  go_enter Try.func5, Try.ntmps5
  go_wp2_with fail
  refine (lent_any A n c xs Hn.out hn' _ (by exact HX.out.ext)).mono ?_
  rintro e w1 ⟨g, cap, rfl, hcap, ho1, hb1⟩
  have HO1 := Lib.hid ho1
  have HC1 := Lib.hid (show Cells w1 (some ⟨g, 0, none⟩) (nums .u8 xs) from by have := own_cells ho1; rw [nums_append] at this; exact this.left)
  have S1 : Step w1 _ := ⟨hb1⟩
  have P0 := at_ext (w' := w1) (at_new w (.cells #[.int .i64 code, .int .i64 id, .slice A n c] 35))
  have p0 : w1.cell? ⟨w.heap.size, 0, none⟩ = some (.int .i64 code) := at_cell P0 0
  have p1 : w1.cell? ⟨w.heap.size, 1, none⟩ = some (.int .i64 id) := at_cell P0 1
  have p2 : w1.cell? ⟨w.heap.size, 2, none⟩ = some (.slice A n c) := at_cell P0 2
  have HP := Lib.hid P0
  clear ho1 hb1 P0
  go_wp2_with fail
  refine (pack_any code id (some ⟨g, 0, none⟩) n cap xs Hn.out (by omega) h1 h1' h2 h2' _ (by exact HC1.out.ext)).mono ?_
  rintro e w2 ⟨v2, rfl, ho2, hb2⟩
  have S2 : Step w2 _ := ⟨hb2⟩
  obtain ⟨A2, c2, rfl, hc2⟩ := own_slice ho2
  have HO2 := Lib.hid ho2
  have p0 : w2.cell? ⟨w.heap.size, 0, none⟩ = some (.int .i64 code) := cell_ext p0
  have p1 : w2.cell? ⟨w.heap.size, 1, none⟩ = some (.int .i64 id) := cell_ext p1
  have p2 : w2.cell? ⟨w.heap.size, 2, none⟩ = some (.slice A n c) := cell_ext p2
  clear ho2 hb2
  go_wp2_with fail
  refine (rpack_any code id A n c xs Hn.out (by omega) h1 h1' h2 h2' _ (by exact HX.out.ext)).mono ?_
  rintro e w3 ⟨v3, rfl, ho3, hb3⟩
  have S3 : Step w3 _ := ⟨hb3⟩
  obtain ⟨A3, c3, rfl, hc3⟩ := own_slice ho3
  have HO3 := Lib.hid ho3
  have p2 : w3.cell? ⟨w.heap.size, 2, none⟩ = some (.slice A n c) := cell_ext p2
  clear ho3 hb3
  have hL := packL_le code id xs
  generalize packE code id xs = E at *
  generalize packL code id xs = L at *
  go_wp2_with fail
  refine (same_any A2 A3 L.length L.length c2 c3 L L rfl rfl (by omega) (by omega) w3 (by exact own_cells (own_ext HO2.out)) (by exact own_cells HO3.out)).mono ?_
  rintro e w4 ⟨rfl, q4, rfl⟩
  simp only [decide_true]
  go_wp2_with fail
  refine (kept_true g cap n n c _ A xs Hn.out rfl hcap hn' _ (own_ext HO1.out) (HX.out.ext)).mono ?_
  rintro e w5 ⟨rfl, q5, rfl⟩
  go_wp2_with fail
  refine (spoil_any A2 L.length c2 _ L _ (by omega) (own_ext HO2.out)).mono ?_
  rintro e w6 ⟨rfl, hg6⟩
  have S6 := Step.wrote (w0 := w1.alloc (.cells #[.int .i64 code, .int .i64 id, .slice (some ⟨g, 0, none⟩) n cap] 35)) hg6 (own_base HO2.out)
  clear hg6
  go_wp2_with fail
  refine (lent_any B m d ys Hm.out hm' _ (by exact HY.out.ext)).mono ?_
  rintro e w7 ⟨g7, cap7, rfl, hcap7, ho7, hb7⟩
  have HO7 := Lib.hid ho7
  have HC7 := Lib.hid (show Cells w7 (some ⟨g7, 0, none⟩) (nums .u8 ys) from by have := own_cells ho7; rw [nums_append] at this; exact this.left)
  have S7 : Step w7 _ := ⟨hb7⟩
  clear ho7 hb7
  go_wp2_with fail
  refine (unpack_any (some ⟨g7, 0, none⟩) m cap7 ys Hm.out (by omega) (by omega) hby _ (by exact HC7.out.ext)).mono ?_
  rintro e w8 ⟨v8, rfl, ho8, hb8⟩
  have S8 : Step w8 _ := ⟨hb8⟩
  obtain ⟨A8, c8, rfl, hc8⟩ := own_slice ho8
  have HO8 := Lib.hid ho8
  clear ho8 hb8
  go_wp2_with fail
  refine (runpack_any B m d ys Hm.out (by omega) (by omega) hby _ (by exact HY.out.ext)).mono ?_
  rintro e w9 ⟨v9, rfl, ho9, hb9⟩
  have S9 : Step w9 _ := ⟨hb9⟩
  obtain ⟨A9, c9, rfl, hc9⟩ := own_slice ho9
  have HO9 := Lib.hid ho9
  clear ho9 hb9
  have hU := unpackF_le ys
  rw [Hm.out] at hU
  generalize (unpackF ys).1 = U1 at *
  generalize (unpackF ys).2.1 = U2 at *
  generalize (unpackF ys).2.2.1 = U3 at *
  generalize (unpackF ys).2.2.2 = U4 at *
  have P8 := at_ext (w' := w9) (at_new w8 (.cells #[.int .i64 U1, .int .i64 U2, .slice A8 U3.length c8] 35))
  have m0 : w9.cell? ⟨w8.heap.size, 0, none⟩ = some (.int .i64 U1) := at_cell P8 0
  have m1 : w9.cell? ⟨w8.heap.size, 1, none⟩ = some (.int .i64 U2) := at_cell P8 1
  have m2 : w9.cell? ⟨w8.heap.size, 2, none⟩ = some (.slice A8 U3.length c8) := at_cell P8 2
  have hz9 : w8.heap.size < w9.heap.size := World.block_lt_of_cell? _ _ m0
  clear P8
  go_wp2_with fail
  refine (samePacket_any U1 U2 U1 U2 A8 A9 U3.length U3.length c8 c9 U3 U3 rfl rfl (by omega) (by omega) _ (by exact own_cells (own_ext HO8.out)) (by exact own_cells (own_ext HO9.out))).mono ?_
  rintro e w10 ⟨rfl, hb10⟩
  have S10 : Step w10 _ := ⟨hb10⟩
  have m2 : w10.cell? ⟨w8.heap.size, 2, none⟩ = some (.slice A8 U3.length c8) := cell_ext m2
  clear hb10
  rw [show pkSame U1 U2 U3 U1 U2 U3 = true from by simp [pkSame]]
  go_wp2_with fail
  refine (spoil_any A8 U3.length c8 _ U3 _ (by omega) (own_ext HO8.out)).mono ?_
  rintro e w11 ⟨rfl, hg11⟩
  have S11 := Step.wrote (w0 := w7) hg11 (own_base HO8.out)
  clear hg11
  go_wp2_with fail
  refine (kept_true g7 cap7 m m d _ B ys Hm.out rfl hcap7 hm' _ (own_ext HO7.out) (HY.out.ext)).mono ?_
  rintro e w12 ⟨rfl, q12, rfl⟩
  go_wp2_with fail
  refine (known09_any _).mono ?_
  rintro e w13 ⟨rfl, hb13⟩
  have S13 : Step w13 _ := ⟨hb13⟩
  have HF : Ext w w13 := inferInstance
  have HF' := Lib.hid HF.out
  clear hb13
  go_wp2_with fail
  go_ret
  exact ⟨rfl, HF'.out⟩

namespace OptPackets
theorem walk (U : Nat) (W : World) (vs : List Value) (h : Args U Try.prog W Try.f5.params.toList vs) : Calls Try.prog 5 vs.toArray W fun e W' => e = .returned (.bool true) ∧ Below W.heap.size W W' := by
  rw [Try.params5] at h
  match vs, h with
  | [v0, v1], ⟨h0, h1, _⟩ =>
    obtain ⟨A, n, c, xs, rfl, hl, hnc, hn, hC, hB⟩ := h1.bytes Try.underlying22 Try.underlying5 cells_u8 bytes_u8
    obtain ⟨code, id, A', n', c', xs', rfl, hl', hn', hnc', hC', hB', k1, k2⟩ := arg_packet h0
    exact packets_any code id A' A n' c' n c xs' xs hl' hn' hnc' hB' hl hn hnc hB k1.1 k1.2 k2.1 k2.2 W hC' hC

set_option maxRecDepth 100000 in
theorem lifted (os : Os) (started : os.Started) (H : Type) (enc : TypeId × Value → H) :
    ReturnsInHanded {} Try.checked os 5 .any (Rows.optPacketsSpec.pre6 enc Try.prog Try.f5 Rows.optPacketsRow.domain false) (Rows.optPacketsSpec.post enc Try.prog Try.f5 false true false false) :=
  law_lifted (C := Try.checked) laid_out own_knob started (by kernel_rfl) Try.func5 H enc rfl
    (fun ds hd => by
      have : ds.length = 2 := hd
      match ds, this with
      | [_, _], _ => exact ⟨rfl, rfl, rfl⟩) rfl Try.underlying4 (by
      have : (Try.f5.params.toList.all fun t => Try.prog.readableRec t && decide (t < Try.prog.types.size)) = true := by kernel_rfl
      intro t ht
      have h := List.all_eq_true.1 this t ht
      rw [Bool.and_eq_true, decide_eq_true_eq] at h
      exact h)
    (ChangeSpec.witness6 (enc := enc) (C := Try.checked) false ⟨#[], #[.agg #[.int .i64 0, .int .i64 0, .slice none 0 0], .slice none 0 0], []⟩ 8 (by kernel_rfl) (by kernel_rfl) (by kernel_rfl) (by kernel_rfl)) walk

theorem over : Rows.optPacketsRow.holds Try.pinned (OpenSpec.ofChange Rows.optPacketsSpec) :=
  OpenClaim.holds_of_wide 5 Try.f5 rfl rfl rfl rfl rfl rfl rfl ⟨rfl, rfl, rfl, rfl, rfl⟩ rfl rfl rfl rfl rfl (by kernel_rfl) Try.func5 (by kernel_rfl)
    (of_decide_eq_true (by kernel_rfl)) (by unfold Func.isWrapper; first | (rw [if_pos (by decide +kernel)]; kernel_rfl) | (rw [if_neg (by decide +kernel)]; exact ⟨rfl, rfl⟩))
    (fun os started H enc _ => lifted os started H enc)

/-- The statement. -/
theorem proved : Rows.OptPacketsSaid := over
#print axioms proved
end OptPackets
end Go.Proofs.Ythlfdckcnpnemaa
