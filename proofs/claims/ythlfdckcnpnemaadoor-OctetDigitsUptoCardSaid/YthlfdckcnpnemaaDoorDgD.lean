/-
  tetherlaw01.OctetDigits: bytes are written as digits, and read again as they were: for every input of bulk at most 1048576 the call answers true; the card. No condition.
-/
import Derived.Test.YthlfdckcnpnemaaDoorDgC
import Derived.Test.YthlfdckcnpnemaaDoorKn1
import Derived.Test.YthlfdckcnpnemaaDoorRowD
import Derived.Test.YthlfdckcnpnemaaDoorCards
import Derived.Test.YthlfdckcnpnemaaDoorTie
namespace Go.Proofs.YthlfdckcnpnemaaDoor
open Go.ChangeShapes Go.WideShapes Go.ChangeAt Go.RowKit
set_option linter.unusedVariables false
set_option linter.unusedSimpArgs false

set_option maxRecDepth 100000 in
set_option maxHeartbeats 4000000 in
theorem digits_any (s : ByteArray) (A : Option Addr) (n c : Nat) (xs : List Int) (hn : xs.length = n) (hs' : s.size ≤ 70368744177664) (hn' : n ≤ 35184372088832) (hb : Byt xs) (w : World) (hx : Cells w A (Proofs.YthlfdckcnpnemaaDoor.nums .u8 xs)) (ht : Table w) :
    Calls Tryd.prog 3 #[.slice A n c, .string s] w fun e w' => e = .returned (.bool true) ∧ Below w.heap.size w w' := by
  have Hn := Lib.hid hn
  have HX := Lib.hid hx
  have HB := Lib.hid hb
  have HT := Lib.hid ht
  clear hn hx hb ht
  go_enter Tryd.func3, Tryd.ntmps3
  go_wp2_with fail
  refine (hex1_any A n c xs Hn.out (by omega) HB.out _ (by exact HX.out) HT.out).mono ?_
  rintro e w3 ⟨rfl, hb3⟩
  have S3 : Step w3 _ := ⟨hb3⟩
  have HHE : Hid (unE (strB (strOfNums (hexL xs))) = 0) := by unfold Hid unE; rw [unhF_hexL HB.out]
  have HHL : Hid (unL (strB (strOfNums (hexL xs))) = xs) := by unfold Hid unL; rw [unhF_hexL HB.out]
  have HHS : Hid ((strOfNums (hexL xs)).size = 2 * n) := by unfold Hid; rw [strOfNums_size, hexL_len, Hn.out]
  obtain ⟨hs, hhs⟩ : ∃ hs, strOfNums (hexL xs) = hs := ⟨_, rfl⟩
  have HHH := Lib.hid hhs
  rw [hhs] at HHE HHL HHS ⊢
  clear hb3 hhs
  go_wp2_with fail
  refine (unhex1_any hs (by rw [HHS.out]; omega) _).mono ?_
  rintro e w4 ⟨v4, rfl, ho4, hb4⟩
  have S4 : Step w4 _ := ⟨hb4⟩
  rw [HHL.out, Hn.out] at ho4
  rw [HHE.out]
  obtain ⟨A4, c4, rfl, hc4⟩ := own_slice ho4
  have HO4 := Lib.hid ho4
  clear ho4 hb4 hc4
  go_wp2_with fail
  refine (unhex1_any s (by omega) _).mono ?_
  rintro e w1 ⟨v1, rfl, ho1, hb1⟩
  have S1 : Step w1 _ := ⟨hb1⟩
  have hul := unL_len (strB s)
  rw [strB_len] at hul
  obtain ⟨us, hus⟩ : ∃ us, unL (strB s) = us := ⟨_, rfl⟩
  obtain ⟨ue, hue⟩ : ∃ ue, unE (strB s) = ue := ⟨_, rfl⟩
  have HUS := Lib.hid hus
  have HUE := Lib.hid hue
  rw [hus] at ho1 hul
  rw [hue]
  obtain ⟨A1, c1, rfl, hc1⟩ := own_slice ho1
  have HO1 := Lib.hid ho1
  clear ho1 hb1 hus hue hc1
  go_wp2_with fail
  refine (runhex1_any s (by omega) _).mono ?_
  rintro e w2 ⟨v2, rfl, ho2, hb2⟩
  have S2 : Step w2 _ := ⟨hb2⟩
  rw [HUS.out] at ho2
  rw [HUE.out]
  obtain ⟨A2, c2, rfl, hc2⟩ := own_slice ho2
  have HO2 := Lib.hid ho2
  clear ho2 hb2 hc2
  go_wp2_with fail
  refine (rhex1_any A n c xs Hn.out (by omega) HB.out _ (by exact HX.out.ext)).mono ?_
  rintro e w6 ⟨rfl, hb6⟩
  have S6 : Step w6 _ := ⟨hb6⟩
  rw [HHH.out]
  clear hb6
  go_wp2_with fail
  refine (same_any A4 A n n c4 c xs xs Hn.out Hn.out (by omega) (by omega) w6 (by exact own_cells (own_ext HO4.out)) (by exact HX.out.ext)).mono ?_
  rintro e w7 ⟨rfl, hd7⟩
  have S7 : Step w7 _ := Step.drawn hd7
  clear hd7
  simp only [decide_true]
  go_wp2_with fail
  refine (same_any A1 A2 us.length us.length c1 c2 us us rfl rfl (by omega) (by omega) w7 (by exact own_cells (own_ext HO1.out)) (by exact own_cells (own_ext HO2.out))).mono ?_
  rintro e w5 ⟨rfl, hd5⟩
  have S5 : Step w5 _ := Step.drawn hd5
  clear hd5
  simp only [decide_true]
  go_wp2_with fail
  refine (known01_any _).mono ?_
  rintro e w12 ⟨rfl, hb12⟩
  have S12 : Step w12 _ := ⟨hb12⟩
  clear hb12
  go_wp2
  go_ret
  exact ⟨rfl, Ext.out⟩

namespace OctetDigits
theorem gTab : Tryd.prog.globalNamed "tether/octet.digits" = some 0 := by kernel_rfl
theorem gTabType : (Tryd.prog.globals[0]?).map (·.type) = some 47 := by kernel_rfl
theorem cellsTab : Tryd.prog.cellsOf 47 = 16 := by kernel_rfl
theorem table {W : World} (h : laidMetH Tryd.prog Rows.octetDigitsUptoRow.laid W) : Table W := by
  have h1 : Lib.TabIs Tryd.prog W "tether/octet.digits" .u8 [48, 49, 50, 51, 52, 53, 54, 55, 56, 57, 97, 98, 99, 100, 101, 102] :=
    Lib.tabIs_of_head (rest := []) gTab gTabType Tryd.underlying47 Tryd.underlying5 cells_u8 cellsTab h
  intro d h0 hd
  obtain ⟨n, rfl⟩ := Int.eq_ofNat_of_zero_le h0
  have hn : n < 16 := by omega
  have key : ∀ n : Fin 16, ([48, 49, 50, 51, 52, 53, 54, 55, 56, 57, 97, 98, 99, 100, 101, 102] : List Int).getD n.val 0 = hexD (n.val : Int) := by decide
  have h2 := h1.cell gTab n (by simpa using hn)
  rw [key ⟨n, hn⟩] at h2
  exact h2
theorem walk (W : World) (vs : List Value) (h : Args 1048576 Tryd.prog W Tryd.f3.params.toList vs) (hL : laidMetH Tryd.prog Rows.octetDigitsUptoRow.laid W) : Calls Tryd.prog 3 vs.toArray W fun e W' => e = .returned (.bool true) ∧ Below W.heap.size W W' := by
  rw [Tryd.params3] at h
  match vs, h with
  | [v0, v1], ⟨h0, h1, _⟩ =>
    obtain ⟨A, n, c, xs, rfl, hl, hnc, hn, hC, hB⟩ := h0.bytes Tryd.underlying22 Tryd.underlying5 cells_u8 bytes_u8
    obtain ⟨s, rfl, _⟩ := h1.str Tryd.underlying9
    have hr := h0.room Tryd.underlying22
    have hs := h1.letters Tryd.underlying9
    exact digits_any s A n c xs hl (by omega) (by omega) hB W hC (table hL)

/-- A world for the witness: the settled one, the table holding what its initialiser lays. -/
noncomputable def laidWorld (os : Os) : World :=
  { World.holding Tryd.prog os ⟨#[], #[], []⟩ with heap := (World.holding Tryd.prog os ⟨#[], #[], []⟩).heap.modify 0 fun
      | .cells _ t frozen => .cells #[.int .u8 48, .int .u8 49, .int .u8 50, .int .u8 51, .int .u8 52, .int .u8 53, .int .u8 54, .int .u8 55, .int .u8 56, .int .u8 57, .int .u8 97, .int .u8 98, .int .u8 99, .int .u8 100, .int .u8 101, .int .u8 102] t frozen
      | o => o }
theorem laid_met (os : Os) : laidMet Tryd.prog Rows.octetDigitsUptoRow.laid ((laidWorld os).forCall (fun _ _ => 0) ⟨#[], #[.slice none 0 0, .string ⟨#[]⟩], []⟩).memory :=
  laidMet_of_run' 20 (by kernel_rfl) (by kernel_rfl)
theorem reads (os : Os) {H : Type} (enc : TypeId × Value → H) : ∃ places, DataW.whole enc Tryd.prog ((laidWorld os).forCall (fun _ _ => 0) ⟨#[], #[.slice none 0 0, .string ⟨#[]⟩], []⟩).memory Tryd.f3.params.toList Rows.octetDigitsSpec.vars false #[Value.slice none 0 0, .string ⟨#[]⟩].toList 8 = some ([.nil, .lit (.string [])], [], places) :=
  ⟨[], by kernel_rfl⟩
set_option maxRecDepth 100000 in
theorem lifted (os : Os) (started : os.Started) (H : Type) (enc : TypeId × Value → H) (F : Stop.Interp) :
    ReturnsInHanded {} Tryd.checked os 3 .any ((Rows.OpenSpec.upto Rows.octetDigitsSpec).preRow enc Tryd.prog Tryd.f3 Rows.octetDigitsUptoRow.domain false Rows.octetDigitsUptoRow.laid) (((Rows.OpenSpec.upto Rows.octetDigitsSpec).at F).post enc Tryd.prog Tryd.f3 false true false false) := by
  obtain ⟨places, hx⟩ := reads os enc
  exact law_lifted_laid_upto (C := Tryd.checked) laid_out own_knob started (by kernel_rfl) Tryd.func3 H enc F rfl
    (fun ds hd => by
      have : ds.length = 2 := hd
      match ds, this with
      | [_, _], _ => exact ⟨rfl, rfl, rfl⟩) rfl Tryd.underlying4 (by
      have : (Tryd.f3.params.toList.all fun t => Tryd.prog.readableRec t && decide (t < Tryd.prog.types.size)) = true := by kernel_rfl
      intro t ht
      have h := List.all_eq_true.1 this t ht
      rw [Bool.and_eq_true, decide_eq_true_eq] at h
      exact h)
    (witness_row_at (enc := enc) (C := Tryd.checked) false (laidWorld os) #[.slice none 0 0, .string ⟨#[]⟩] rfl (by kernel_rfl) (by kernel_rfl) (by kernel_rfl)
      (OpenSpec.preRow_of_cond 8 hx (by kernel_rfl) (fun k hk => by cases hk; kernel_rfl) (by kernel_rfl) (laid_met os))) walk
theorem said : Rows.OctetDigitsUptoSaid :=
  OpenClaim.holds_of_cond 3 Tryd.f3 rfl rfl rfl rfl rfl rfl rfl ⟨rfl, rfl, rfl, rfl, rfl⟩ rfl rfl rfl rfl rfl (by kernel_rfl) Tryd.func3 (by kernel_rfl)
    (of_decide_eq_true (by kernel_rfl)) (by unfold Func.isWrapper; first | (rw [if_pos (by decide +kernel)]; kernel_rfl) | (rw [if_neg (by decide +kernel)]; exact ⟨rfl, rfl⟩))
    (fun os started H enc _ F => by rw [OpenClaim.pre_eq_preRow]; exact lifted os started H enc F)
theorem plain (f : FuncId) (fn : Func) (hf : Tryd.pinned.checked.prog.funcNamed "tether/tetherlaw01.OctetDigits" = some f) (hfn : Tryd.pinned.checked.prog.funcs[f]? = some fn) :
    false = Tryd.pinned.checked.prog.looks [] ∧ ∀ (j : Nat) t, fn.params[j]? = some t → Tryd.pinned.checked.prog.wantsStandIn t = false := by
  obtain rfl : f = 3 := Option.some.inj ((show Tryd.prog.funcNamed "tether/tetherlaw01.OctetDigits" = some 3 by kernel_rfl).symm.trans hf) |>.symm
  obtain rfl : fn = Tryd.f3 := (Option.some.inj (Tryd.func3.symm.trans hfn)).symm
  refine ⟨by kernel_rfl, fun j t ht => ?_⟩
  have : (Tryd.f3.params.toList.all fun t => !Tryd.prog.wantsStandIn t) = true := by kernel_rfl
  have h := List.all_eq_true.1 this t (by simpa using Array.mem_of_getElem? ht)
  have h2 : Tryd.prog.wantsStandIn t = false := by simpa using h
  exact h2
/-- The card. -/
theorem proved : Rows.OctetDigitsUptoCardSaid :=
  Claim7.holds_tied_plain_at .later [] _ _ _ _ said (fun _ h => by cases h) (by kernel_rfl) (fun _ h => by cases h) octetDigitsUpto_row_tie rfl ⟨rfl, rfl⟩ (by kernel_rfl) rfl plain (by kernel_rfl)
#print axioms proved
end OctetDigits
end Go.Proofs.YthlfdckcnpnemaaDoor
