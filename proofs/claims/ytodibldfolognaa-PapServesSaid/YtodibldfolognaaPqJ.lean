/-
  tetherlaw12.PapServes: an authenticator accepts and refuses as the chapter says, and answers again as it did: for every input the call answers true. No condition.
-/
import Derived.Test.YtodibldfolognaaPqI
import Derived.Test.YtodibldfolognaaPqB
import Derived.Deep.CutBlock
namespace Go.Proofs.Ytodibldfolognaa
open Go.ChangeShapes Go.WideShapes Go.ChangeAt Go.RowKit
set_option linter.unusedVariables false
set_option linter.unusedSimpArgs false

def failF (nm : ByteArray) (us : List SV) : Int × Nat := if nameF (strB nm) = false then (60, 0) else wrongF us
theorem fail_dat {nm : ByteArray} {us vs : List SV} (h : us.map SV.dat = vs.map SV.dat) : failF nm us = failF nm vs := by unfold failF; rw [wrong_dat h]
theorem srv2_split {nm : ByteArray} {us : List SV} {w w' : World} {e : Ending} {E : Int} {K : Nat} (hF : failF nm us = (E, K)) (h : SrvTells2 nm us w e w') : Below w.heap.size w w' ∧ (E ≠ 0 → e = .returned (.tuple #[.pointer none, .int .i64 E, .int .i64 K])) ∧
    (E = 0 → ∃ B T vs, e = .returned (.tuple #[.pointer (some ⟨B, 0, none⟩), .int .i64 0, .int .i64 0]) ∧ (w.heap.size ≤ T ∧ T < B) ∧ SrvAt w' B T nm 0 ⟨#[]⟩ vs ∧ vs.map SV.dat = us.map SV.dat) := by
  obtain ⟨hb, h⟩ := h
  unfold failF at hF
  refine ⟨hb, ?_⟩
  split at h
  · rename_i h1
    rw [if_pos h1] at hF
    injection hF with e1 e2
    subst e1 e2
    exact ⟨fun _ => h, fun h0 => by cases h0⟩
  · rename_i h1
    rw [if_neg h1] at hF
    rw [hF] at h
    split at h
    · rename_i h2
      exact ⟨fun _ => h, fun h0 => absurd h0 h2⟩
    · rename_i h2
      exact ⟨fun h0 => absurd h0 h2, fun _ => h⟩
theorem rsrv_split {nm : ByteArray} {A : Option Addr} {n c : Nat} {us : List SV} {w w' : World} {e : Ending} {E : Int} {K : Nat} (hF : failF nm us = (E, K)) (h : RNewTells nm A n c us w e w') : Below w.heap.size w w' ∧ (E ≠ 0 → e = .returned (.tuple #[.pointer none, .int .i64 E, .int .i64 K])) ∧
    (E = 0 → ∃ R, e = .returned (.tuple #[.pointer (some ⟨R, 0, none⟩), .int .i64 0, .int .i64 0]) ∧ w.heap.size ≤ R ∧ RSrvAt w' R nm A n c 0 ⟨#[]⟩) := by
  obtain ⟨hb, h⟩ := h
  unfold failF at hF
  refine ⟨hb, ?_⟩
  split at h
  · rename_i h1
    rw [if_pos h1] at hF
    injection hF with e1 e2
    subst e1 e2
    exact ⟨fun _ => h, fun h0 => by cases h0⟩
  · rename_i h1
    rw [if_neg h1] at hF
    rw [hF] at h
    split at h
    · rename_i h2
      exact ⟨fun _ => h, fun h0 => absurd h0 h2⟩
    · rename_i h2
      exact ⟨fun h0 => absurd h0 h2, fun _ => h⟩
/-- A row of secrets that can be written. -/
def RowAt (w : World) (base top : Nat) (A : Option Addr) (n : Nat) : Prop := 0 < n → ∃ g, ∃ cur : Array Value, A = some ⟨g, 0, none⟩ ∧ base ≤ g ∧ g < top ∧ w.heap[g]? = some (.cells cur 79 (0, 0)) ∧ n * 4 ≤ cur.size
theorem own_rowat {w : World} {base n k c : Nat} {A : Option Addr} {cs : List Value} (h : w.ownsRow base 79 4 (.slice A k c) n cs) (hk : k = n) : RowAt w base w.heap.size A n := by
  intro hn
  rcases h.2 with ⟨hv, _⟩ | ⟨g, cap, cur, h1, h2, h3, h4, h5, h6, _⟩
  · injection hv with _ h1 _
    omega
  · injection h1 with h7 _ _
    exact ⟨g, cur, h7, h2, at_lt h3, h3, by rw [h6]; omega⟩
theorem RowAt.ext {w w' : World} {base top : Nat} {A : Option Addr} {n : Nat} [h : Ext w w'] (k : RowAt w base top A n) : RowAt w' base top A n := fun hn => by
  obtain ⟨g, cur, h1, h2, h3, h4, h5⟩ := k hn
  exact ⟨g, cur, h1, h2, h3, at_ext h4, h5⟩
theorem cells_front {W : World} {A : Option Addr} {xs : List Int} {n : Nat} (h : Cells W A (nums .u8 (xs ++ [77]))) (hn : xs.length = n) : Cells W A (nums .u8 xs) := by
  have h := h.take n
  rw [← nums_take, ← hn, List.take_left' rfl] at h
  exact h
theorem fail_len {nm : ByteArray} {us : List SV} {K : Nat} (h : failF nm us = (0, K)) : us.length ≤ 64 := by
  unfold failF wrongF at h
  split at h
  · cases h
  · split at h
    · cases h
    · omega
set_option maxRecDepth 100000 in
set_option maxHeartbeats 16000000 in
theorem serves12_law (nm : ByteArray) (A : Option Addr) (n c : Nat) (us : List SV) (OA : Option Addr) (om oc : Nat) (os : List PV) (hnm : nm.size ≤ 140737488351232) (hn : us.length = n) (hn' : n * 72 ≤ 140737488351232) (hom : os.length = om) (hom' : om ≤ 4398046511104) (w : World) (hx : SecsAt w A us) (hox : OpsAt w OA os) :
    Calls Try.prog 8 #[.string nm, .slice A n c, .slice OA om oc] w fun e w' => e = .returned (.bool true) ∧ Below w.heap.size w w' := by
  have Hn := Lib.hid hn
  have HX := Lib.hid hx
  have Hom := Lib.hid hom
  have HOX := Lib.hid hox
  clear hn hx hom hox
  have HNM := Lib.hid hnm
  have hnn : n ≤ 1954687338211 := by omega
  go_enter Try.func8, Try.ntmps8
  go_wp2_with fail
  go_loopw [29, 7, 9, 10] (fun i a x y wr => ∃ (k : Nat) (L : Value) (vs : List SV), i = .int .i64 k ∧ k ≤ n ∧ vs.length = k ∧ a = L ∧ Hid (SecsOwn wr w.heap.size L vs) ∧ Hid (vs.map SV.dat = (us.map SV.dat).take k) ∧ Hid (Ext w wr)) (fun i _ _ _ _ => n - (intOf i).toNat)
  case atStart => exact ⟨0, .slice none 0 0, [], rfl, by omega, rfl, rfl, SecsOwn.nil_ _ _, rfl, (inferInstance : Ext w w)⟩
  case round =>
    obtain ⟨k, L, vs, rfl, hk, rfl, rfl, HO, HD, HW⟩ := hrel
    have Sr : Step wr w := ⟨HW.out.out⟩
    by_cases hlt : vs.length < n
    · obtain ⟨u, hu⟩ : ∃ u, us[vs.length]? = some u := ⟨_, List.getElem?_eq_getElem (by rw [Hn.out]; exact hlt)⟩
      obtain ⟨ad, rfl, hc0, hc1, hc2, hc3⟩ := sec_at (HX.out.ext (w' := wr)).x hu
      have HK := Lib.hid ((HX.out.ext (w' := wr)).ok u (List.mem_of_getElem? hu))
      have HD2 : Hid ((us.map SV.dat).take (vs.length + 1) = (us.map SV.dat).take vs.length ++ [u.dat]) := take_snoc (by rw [List.getElem?_map, hu]; rfl)
      clear hu
      obtain ⟨uc, uss, ud, uA, un, uk, ux⟩ := u
      simp only at hc0 hc1 hc2 hc3
      go_upto_region 5 with fail
      obtain ⟨wq, hwq⟩ : ∃ wq, wr.alloc (.cells #[.string uc, .string uss, .string ud, .slice uA un uk] 79) = wq := ⟨_, rfl⟩
      have HU : Hid (wq.heap[wr.heap.size]? = some (.cells #[.string uc, .string uss, .string ud, .slice uA un uk] 79 (0, 0))) := by unfold Hid; rw [← hwq]; exact at_new wr _
      have Sq : Step wq wr := ⟨by rw [← hwq]; exact Ext.out⟩
      rw [hwq]
      clear hwq hc0 hc1 hc2 hc3
      have u0 : wq.cell? ⟨wr.heap.size, 0, none⟩ = some (.string uc) := at_cell HU.out 0
      have u1 : wq.cell? ⟨wr.heap.size, 1, none⟩ = some (.string uss) := at_cell HU.out 1
      have u2 : wq.cell? ⟨wr.heap.size, 2, none⟩ = some (.string ud) := at_cell HU.out 2
      have u3 : wq.cell? ⟨wr.heap.size, 3, none⟩ = some (.slice uA un uk) := at_cell HU.out 3
      go_upto_region 6 with fail
      obtain ⟨w4, hw4⟩ : ∃ w4, wq.alloc (.cells #[.string uc, .string uss, .string ud, .slice uA un uk] 79) = w4 := ⟨_, rfl⟩
      obtain ⟨g, hg⟩ : ∃ g, wq.heap.size = g := ⟨_, rfl⟩
      have HG : Hid (wr.heap.size < g) := by unfold Hid; rw [← hg]; exact at_lt HU.out
      have HY : Hid (w4.heap[g]? = some (.cells #[.string uc, .string uss, .string ud, .slice uA un uk] 79 (0, 0))) := by unfold Hid; rw [← hw4]; exact at_new1 hg
      have S4 : Step w4 wq := ⟨by rw [← hw4]; exact Ext.out⟩
      rw [hw4, hg]
      clear hw4 hg u0 u1 u2 u3
      have y3 : w4.cell? ⟨g, 3, none⟩ = some (.slice uA un uk) := at_cell HY.out 3
      have f3 : w4.frozen? ⟨g, 3, none⟩ = false := at_frozen HY.out 3
      go_upto_region 7 with fail
      obtain ⟨w5, hw5⟩ : ∃ w5, w4.setCell ⟨g, 3, none⟩ (.slice none 0 0) = w5 := ⟨_, rfl⟩
      have HY5 : Hid (w5.heap[g]? = some (.cells #[.string uc, .string uss, .string ud, .slice none 0 0] 79 (0, 0))) := by unfold Hid; rw [← hw5]; exact at_set HY.out 3 _
      have HU5 : Hid (w5.heap[wr.heap.size]? = some (.cells #[.string uc, .string uss, .string ud, .slice uA un uk] 79 (0, 0))) := by unfold Hid; rw [← hw5]; exact (Below.heap_setCell _ _ _ _ (by have := HG.out; show wr.heap.size ≠ g; omega)).trans (at_ext HU.out)
      have HE5 : Hid (Ext wr w5) := by unfold Hid; rw [← hw5]; exact ⟨(inferInstance : Ext wr w4).out.setCell (p := ⟨g, 3, none⟩) (Nat.le_of_lt HG.out) _⟩
      have S5 : Step w5 wr := ⟨HE5.out.out⟩
      have HG5 : Hid (g < w5.heap.size) := at_lt HY5.out
      rw [hw5]
      clear hw5 y3 f3
      have y3 : w5.cell? ⟨g, 3, none⟩ = some (.slice none 0 0) := at_cell HY5.out 3
      have u3 : w5.cell? ⟨wr.heap.size, 3, none⟩ = some (.slice uA un uk) := at_cell HU5.out 3
      go_upto_region 8 with
        (at_builtin
         refine wp_append_cells (w0 := w5) w5.heap.size rfl (.tmp 36) (.tmp 38) 77 2 (.int .i64 0) 1 8 rfl Try.underlying77 info_i64' rfl (by decide) (by decide) (.slice none 0 0) 0 [] uA un uk (nums .i64 ux) rfl rfl ?_ (nums_one _ _) (own_nil _ _ _ _) (by exact HK.out.x.ext) (Below.refl _ _) (Nat.le_refl _) ?_ ?_
         · rw [nums_length, Nat.mul_one]; exact HK.out.n
         · have h : un ≤ 17592186044416 := HK.out.m; omega
         intro v1 w6 ho1 hb1 _ _
         rw [List.nil_append, Nat.zero_add] at ho1
         obtain ⟨A1, c1, rfl, hc1⟩ := own_slice ho1
         have HO1 := Lib.hid ho1
         have X6 : Hid (Ext w5 w6) := ⟨hb1⟩
         have HY6 : Hid (w6.heap[g]? = some (.cells #[.string uc, .string uss, .string ud, .slice none 0 0] 79 (0, 0))) := by have := X6.out; exact at_ext HY5.out
         have z3 : w6.cell? ⟨g, 3, none⟩ = some (.slice none 0 0) := at_cell HY6.out 3
         have e3 : w6.frozen? ⟨g, 3, none⟩ = false := at_frozen HY6.out 3
         clear ho1 hb1 hc1)
      obtain ⟨w7, hw7⟩ : ∃ w7, w6.setCell ⟨g, 3, none⟩ (.slice A1 un c1) = w7 := ⟨_, rfl⟩
      have HY7 : Hid (w7.heap[g]? = some (.cells #[.string uc, .string uss, .string ud, .slice A1 un c1] 79 (0, 0))) := by unfold Hid; rw [← hw7]; exact at_set HY6.out 3 _
      have HO7 : Hid (w7.ownsRow w5.heap.size 2 1 (.slice A1 un c1) un (nums .i64 ux)) := by unfold Hid; rw [← hw7]; exact own_young HO1.out (by have := HG5.out; show g < w5.heap.size; omega)
      have HE7 : Hid (Ext wr w7) := by unfold Hid; rw [← hw7]; exact ⟨(Ext.trans_ HE5.out X6.out).out.setCell (p := ⟨g, 3, none⟩) (Nat.le_of_lt HG.out) _⟩
      have S7 : Step w7 wr := ⟨HE7.out.out⟩
      rw [hw7]
      clear hw7 z3 e3 y3 u3
      have t0 : w7.cell? ⟨g, 0, none⟩ = some (.string uc) := at_cell HY7.out 0
      have t1 : w7.cell? ⟨g, 1, none⟩ = some (.string uss) := at_cell HY7.out 1
      have t2 : w7.cell? ⟨g, 2, none⟩ = some (.string ud) := at_cell HY7.out 2
      have t3 : w7.cell? ⟨g, 3, none⟩ = some (.slice A1 un c1) := at_cell HY7.out 3
      have HOr := Lib.hid (own_ext (w' := w7) HO.out.row)
      have HS9 : Hid (w.heap.size ≤ w7.heap.size) := (Ext.trans_ HW.out HE7.out).out.size
      go_wp2_with
        (at_builtin
         refine wp_append_box (w0 := w) w.heap.size rfl (.tmp 41) (.tmp 43) 75 79 (.agg zSec) 4 72 1 rfl Try.underlying75 info_sec rfl (by decide) (by decide) u7 vs.length (secs vs) [.string uc, .string uss, .string ud, .slice A1 un c1] rfl rfl rfl (secs_one [⟨uc, uss, ud, A1, un, c1, ux⟩]) HOr.out (Ext.trans_ HW.out HE7.out).out HS9.out (by omega) ?_
         intro v8 w8 ho8 hb8 hg8 hat8
         obtain ⟨A8, c8, rfl, hc8⟩ := own_slice ho8
         have HP8 := Lib.hid (SecsOwn.push (u := ⟨uc, uss, ud, A1, un, c1, ux⟩) HO.out HW.out.out.size HE7.out (own_weaken HO7.out HE5.out.out.size) ⟨HK.out.c, HK.out.s, HK.out.d, HK.out.n, HK.out.m⟩ ho8 hg8 hat8)
         have HB8 := Lib.hid hb8
         clear ho8 hb8 hg8 hat8 hc8)
      go_roundw
      case rel => exact ⟨vs.length + 1, .slice A8 (vs.length + 1) c8, vs ++ [⟨uc, uss, ud, A1, un, c1, ux⟩], by go_num, by omega, by simp, rfl, (by exact HP8.out), (by unfold Hid; rw [List.map_append, HD.out, HD2.out]; rfl), ⟨HB8.out⟩⟩
      case measure => simp [intOf]; omega
    · obtain rfl : vs.length = n := by omega
      obtain ⟨LA, lc, rfl, hlc⟩ := own_slice HO.out.row
      have HDD : Hid (vs.map SV.dat = us.map SV.dat) := by unfold Hid; rw [HD.out, List.take_of_length_le (by rw [List.length_map, Hn.out]; exact Nat.le_refl _)]
      have HRow := Lib.hid (own_rowat HO.out.row rfl)
      obtain ⟨wz, rfl⟩ : ∃ wz, wz = wr := ⟨wr, rfl⟩
      obtain ⟨⟨E, K⟩, hF⟩ : ∃ F, failF nm us = F := ⟨_, rfl⟩
      have HF := Lib.hid hF
      clear hF hlc
      go_wp2_with fail
      refine (newServer2_any nm (by have := HNM.out; omega) LA vs.length lc vs rfl (by omega) _ HO.out.at).mono ?_
      rintro e w1 h1
      obtain ⟨hb1, hne, heq⟩ := srv2_split ((fail_dat HDD.out).trans HF.out) h1
      have S1 : Step w1 wz := ⟨hb1⟩
      clear hb1 h1
      by_cases hE : E = 0
      · obtain ⟨B, T, vs', rfl, hBT, hv, hd⟩ := heq hE
        have HV := Lib.hid hv
        have HBT := Lib.hid hBT
        have HD' : Hid (vs'.map SV.dat = us.map SV.dat) := hd.trans HDD.out
        have HVL : Hid (vs'.length ≤ 64) := by
          have h1 : vs'.length = us.length := by have := congrArg List.length HD'.out; simpa using this
          have h2 := HF.out
          rw [hE] at h2
          have h3 := fail_len h2
          unfold Hid
          omega
        clear hv hBT hd hne heq
        go_wp2_with fail
        refine (rnewServer_any nm (by have := HNM.out; omega) A vs.length c us Hn.out (by omega) _ HX.out.ext).mono ?_
        rintro e w2 h2
        obtain ⟨hb2, _, heq⟩ := rsrv_split HF.out h2
        obtain ⟨R, rfl, hR, hr⟩ := heq hE
        have S2 : Step w2 w1 := ⟨hb2⟩
        have HT : Hid (TwoS w w2 B T R nm vs' A vs.length c 0 ⟨#[]⟩) := ⟨HV.out.ext, hr, inferInstance, Nat.le_trans HW.out.out.size HBT.out.1, HBT.out.2, by have := at_lt HV.out.b; omega⟩
        clear hb2 h2 heq hR hr hE
        go_wp2_with fail
        refine (same06_same LA A vs.length lc c vs us rfl (by omega) HDD.out _ (by exact (SecsOwn.ext (w' := w2) HO.out).at) (by exact HX.out.ext)).mono ?_
        rintro e w3 ⟨rfl, hb3⟩
        have S3 : Step w3 w2 := ⟨hb3⟩
        clear hb3
        go_wp2_with fail
        go_loopw [83, 17] (fun i t wx => ∃ j : Nat, i = .int .i64 j ∧ j ≤ vs.length ∧ Hid (Ext w wx) ∧ Hid (RowAt wx w.heap.size wz.heap.size LA vs.length) ∧ Hid (TwoS w wx B T R nm vs' A vs.length c 0 ⟨#[]⟩)) (fun i _ _ => vs.length - (intOf i).toNat)
        case atStart => exact ⟨0, rfl, by omega, (inferInstance : Ext w w3), HRow.out.ext, HT.out.ext⟩
        case round =>
          obtain ⟨j, rfl, hj, HW2, HR2, HI⟩ := hrel
          obtain ⟨wx, rfl⟩ : ∃ wx, wx = wr := ⟨wr, rfl⟩
          by_cases hlt : j < vs.length
          · obtain ⟨g, cur, hA, hb, ht, hh, hc⟩ := HR2.out (by omega)
            obtain ⟨x, hx⟩ : ∃ x, cur[j * 4 + 2]? = some x := ⟨_, Array.getElem?_eq_getElem (by omega)⟩
            have hcell : wx.cell? ⟨g, j * 4 + 2, none⟩ = some x := (at_cell hh (j * 4 + 2)).trans hx
            have hfr : wx.frozen? ⟨g, j * 4 + 2, none⟩ = false := at_frozen hh _
            have HA := Lib.hid hA
            have HH := Lib.hid hh
            have HE : Hid (Ext w (wx.setCell ⟨g, j * 4 + 2, none⟩ (.string ⟨#[115, 112, 111, 105, 108, 116]⟩))) := ⟨HW2.out.out.setCell (p := ⟨g, j * 4 + 2, none⟩) hb _⟩
            have HJ : Hid (TwoS w (wx.setCell ⟨g, j * 4 + 2, none⟩ (.string ⟨#[115, 112, 111, 105, 108, 116]⟩)) B T R nm vs' A vs.length c 0 ⟨#[]⟩) := HI.out.old hb (by have h := HBT.out.1; show g < T; omega)
            subst hA
            clear hh hx
            go_wp2_with fail
            go_roundw
            case rel => exact ⟨j + 1, by go_num, by omega, HE.out, fun _ => ⟨g, _, rfl, hb, ht, at_set HH.out _ _, by rw [Array.size_setIfInBounds]; exact hc⟩, HJ.out⟩
            case measure => simp [intOf]; omega
          · obtain rfl : j = vs.length := by omega
            have S9 : Step wx w := ⟨HW2.out.out⟩
            have HTX := Lib.hid HI.out
            clear HI HR2 HRow HO HW2
            go_wp2_with fail
            go_loopw [96, 18, 19, 20, 21, 22, 23, 24, 25, 26] (fun i x1 x2 x3 x4 x5 x6 x7 x8 x9 wy => ∃ (k : Nat) (st : Int) (who : ByteArray), i = .int .i64 k ∧ k ≤ om ∧ Hid (TwoS w wy B T R nm vs' A vs.length c st who)) (fun i _ _ _ _ _ _ _ _ _ _ => om - (intOf i).toNat)
            case atStart => exact ⟨0, 0, ⟨#[]⟩, rfl, by omega, HTX.out⟩
            case round =>
              obtain ⟨k, st, who, rfl, hk, HTW⟩ := hrel
              obtain ⟨wy, rfl⟩ : ∃ wy, wy = wr := ⟨wr, rfl⟩
              have Sy : Step wy w := ⟨HTW.out.e.out⟩
              by_cases hlt : k < om
              · obtain ⟨u, hu⟩ : ∃ u, os[k]? = some u := ⟨_, List.getElem?_eq_getElem (by rw [Hom.out]; exact hlt)⟩
                obtain ⟨ad, rfl, hc0, hc1, hc2, hc3⟩ := op_at (HOX.out.ext (w' := wy)).x hu
                have HK := Lib.hid (HOX.out.ok u (List.mem_of_getElem? hu))
                clear hu
                obtain ⟨uk, ucode, uid, uA, un, uc, uxs⟩ := u
                simp only at hc0 hc1 hc2 hc3
                by_cases h100 : 100 ≤ k
                · have h100I : (100 : Int) ≤ (k : Int) := by omega
                  have h100b : decide ((100 : Int) ≤ (k : Int)) = true := decide_eq_true h100I
                  go_wp2_with fail
                  refine (awake12_any _).mono ?_
                  rintro e w9 ⟨rfl, hb9⟩
                  have S99 : Step w9 _ := ⟨hb9⟩
                  clear hb9
                  go_wp2
                  go_ret
                  exact ⟨rfl, Ext.out⟩
                have h100I : ¬ (100 : Int) ≤ (k : Int) := by omega
                clear h100
                go_upto_if 105 with fail
                obtain ⟨wq, hwq⟩ : ∃ wq, wy.alloc (.cells #[.int .i64 uk, .int .i64 ucode, .int .i64 uid, .slice uA un uc] 88) = wq := ⟨_, rfl⟩
                have HU : Hid (wq.heap[wy.heap.size]? = some (.cells #[.int .i64 uk, .int .i64 ucode, .int .i64 uid, .slice uA un uc] 88 (0, 0))) := by unfold Hid; rw [← hwq]; exact at_new wy _
                have HTQ : Hid (TwoS w wq B T R nm vs' A vs.length c st who) := by unfold Hid; rw [← hwq]; exact HTW.out.ext
                have HRQ : Hid (R < wy.heap.size) := at_lt HTW.out.r
                rw [hwq]
                clear hwq hc0 hc1 hc2 hc3
                go_cut [] (fun wx => ∃ st' who', Hid (TwoS w wx B T R nm vs' A vs.length c st' who'))
                case first =>
                  by_cases k0 : uk = 0
                  · subst k0
                    go_wp2_with fail
                    refine (reset_any B T nm who st vs' _ HTQ.out.v).mono ?_
                    rintro e w3 ⟨rfl, hv3, hb3⟩
                    have HR3 := Lib.hid (HTQ.out.r.but hb3 (by have := HTQ.out.br; omega))
                    have HE3 : Hid (Ext w w3) := hb3.ext HTQ.out.e (by have h1 := HTQ.out.lb; have h2 := HTQ.out.tb; omega)
                    have HV3 := Lib.hid hv3
                    clear hv3 hb3
                    go_wp2_with fail
                    refine (rreset_any R nm who A vs.length c st _ HR3.out).mono ?_
                    rintro e w4 ⟨rfl, hr4, hb4⟩
                    have HT4 : Hid (TwoS w w4 B T R nm vs' A vs.length c 0 ⟨#[]⟩) := ⟨HV3.out.but' hb4 HTQ.out.br, hr4, hb4.ext HE3.out (by have h1 := HTQ.out.lb; have h2 := HTQ.out.tb; have h3 := HTQ.out.br; omega), HTQ.out.lb, HTQ.out.tb, HTQ.out.br⟩
                    clear hr4 hb4
                    go_wp2_with fail
                    go_meet
                    case rel => exact ⟨_, _, HT4.out⟩
                  · have k0' : (uk == 0) = false := by simpa using k0
                    clear k0
                    have SqW : Step wq w := ⟨HTQ.out.e.out⟩
                    have HSZ : Hid (wy.heap.size < wq.heap.size) := at_lt HU.out
                    have a1 : wq.cell? ⟨wy.heap.size, 1, none⟩ = some (.int .i64 ucode) := at_cell HU.out 1
                    have a2 : wq.cell? ⟨wy.heap.size, 2, none⟩ = some (.int .i64 uid) := at_cell HU.out 2
                    have a3 : wq.cell? ⟨wy.heap.size, 3, none⟩ = some (.slice uA un uc) := at_cell HU.out 3
                    go_wp2_with fail
                    refine (lent12b_any ucode uid uA un uc uxs HK.out.n HK.out.m _ (by exact HK.out.x.ext)).mono ?_
                    rintro e w3 ⟨A3, c3, rfl, hc3, ho3, hb3⟩
                    have S3 : Step w3 wq := ⟨hb3⟩
                    have HO3 := Lib.hid ho3
                    have HZ3 := Lib.hid hb3.size
                    have pn : ∀ o, (w3.alloc o).heap[w3.heap.size]? = some o := at_new w3
                    clear hb3 ho3 a1 a2 a3
                    go_upto_region 29 with
                      (refine wpList_store_row_o rfl 43 (.tmp 20) (.tmp 112) rfl w3.heap.size #[.int .i64 ucode, .int .i64 uid, .slice A3 un c3] rfl rfl 43 #[.int .i64 0, .int .i64 0, .slice none 0 0] (pn _) (by kernel_rfl) rfl (by simp [Value.oneCell']) ?_
                       intro v3 hr2 ho2 hz2 hb2
                       have HQ3 := Lib.hid hr2
                       have X3 : Hid (Ext w3 v3) := ⟨hb2 _ _ (inferInstance : Ext w3 (w3.alloc _)).out (Nat.le_refl _)⟩
                       clear hr2 ho2 hz2 hb2 pn)
                    have Sv3 : Step v3 w3 := ⟨X3.out.out⟩
                    have HT3 : Hid (TwoS w v3 B T R nm vs' A vs.length c st who) := TwoS.ext (h := X3.out) (TwoS.ext (w1 := w3) HTQ.out)
                    have HO3v := Lib.hid (own_ext (w' := v3) HO3.out)
                    have HU3 : Hid (v3.heap[wy.heap.size]? = some (.cells #[.int .i64 uk, .int .i64 ucode, .int .i64 uid, .slice uA un uc] 88 (0, 0))) := at_ext (w := w3) (at_ext HU.out)
                    have a0 : v3.cell? ⟨w3.heap.size, 0, none⟩ = some (.int .i64 ucode) := at_cell HQ3.out 0
                    have a1 : v3.cell? ⟨w3.heap.size, 1, none⟩ = some (.int .i64 uid) := at_cell HQ3.out 1
                    have a2 : v3.cell? ⟨w3.heap.size, 2, none⟩ = some (.slice A3 un c3) := at_cell HQ3.out 2
                    obtain ⟨⟨⟨s1, s2⟩, ⟨⟨ra, rb⟩, rd⟩, bo, er⟩, hr⟩ : ∃ r, takeR nm vs' st who ucode uid uxs = r := ⟨_, rfl⟩
                    have HRB : Hid (Byt rd) := by have h := takeR_byt (nm := nm) (us := vs') (st := st) (who := who) (code := ucode) (id := uid) (xs := uxs); rw [hr] at h; exact h
                    have HRR := Lib.hid hr
                    clear hr
                    go_wp2_with fail
                    refine (take_any B T nm vs' st who ucode uid A3 un c3 uxs HK.out.n (by have h : un ≤ 140737488351232 := HK.out.m; omega) (by omega) HK.out.b HVL.out _ (cells_front (own_cells HO3v.out) HK.out.n) HT3.out.v).mono ?_
                    rintro e w4 h4
                    obtain ⟨hb4, hv4, A4, c4, rfl, ho4⟩ := take_tells h4
                    rw [HRR.out] at hv4 ho4 ⊢
                    simp only at hv4 ho4 ⊢
                    have HR4 := Lib.hid (HT3.out.r.but hb4 (by have := HT3.out.br; omega))
                    have HE4 : Hid (Ext w w4) := hb4.ext HT3.out.e (by have h1 := HT3.out.lb; have h2 := HT3.out.tb; omega)
                    have HV4 := Lib.hid hv4
                    have HO34 := Lib.hid (own_but HO3v.out hb4 (fun h => by have h1 := own_base HO3v.out _ h; have h2 := HRQ.out; have h3 := HSZ.out; have h4 := HT3.out.br; omega))
                    have HU4 := Lib.hid (hb4.at (by have h2 := HRQ.out; have h4 := HT3.out.br; omega) HU3.out)
                    have HQ34 := Lib.hid (hb4.at (by have h1 := HZ3.out; have h2 := HRQ.out; have h3 := HSZ.out; have h4 := HT3.out.br; omega) HQ3.out)
                    have HO4 := Lib.hid ho4
                    have HZ4 : Hid (wq.heap.size ≤ v3.heap.size ∧ v3.heap.size ≤ w4.heap.size) := ⟨Nat.le_trans HZ3.out X3.out.out.size, hb4.size⟩
                    have pn : ∀ o, (w4.alloc o).heap[w4.heap.size]? = some o := at_new w4
                    clear h4 hb4 hv4 ho4 a0 a1 a2
                    go_upto_region 30 with
                      (refine wpList_store_row_o rfl 43 (.tmp 21) (.tmp 117) rfl w4.heap.size #[.int .i64 ra, .int .i64 rb, .slice A4 rd.length c4] rfl rfl 43 #[.int .i64 0, .int .i64 0, .slice none 0 0] (pn _) (by kernel_rfl) rfl (by simp [Value.oneCell']) ?_
                       intro v4 hr2 ho2 hz2 hb2
                       have HQ4 := Lib.hid hr2
                       have X4 : Hid (Ext w4 v4) := ⟨hb2 _ _ (inferInstance : Ext w4 (w4.alloc _)).out (Nat.le_refl _)⟩
                       clear hr2 ho2 hz2 hb2 pn)
                    have Sv4 : Step v4 w4 := ⟨X4.out.out⟩
                    have HE4v : Hid (Ext w v4) := HE4.out.trans_ X4.out
                    have HU4v : Hid (v4.heap[wy.heap.size]? = some (.cells #[.int .i64 uk, .int .i64 ucode, .int .i64 uid, .slice uA un uc] 88 (0, 0))) := at_ext HU4.out
                    have HR4v := Lib.hid (HR4.out.ext (w1 := v4))
                    have a1 : v4.cell? ⟨wy.heap.size, 1, none⟩ = some (.int .i64 ucode) := at_cell HU4v.out 1
                    have a2 : v4.cell? ⟨wy.heap.size, 2, none⟩ = some (.int .i64 uid) := at_cell HU4v.out 2
                    have a3 : v4.cell? ⟨wy.heap.size, 3, none⟩ = some (.slice uA un uc) := at_cell HU4v.out 3
                    go_wp2_with fail
                    refine (rtake12_any R nm A vs.length c us st who ucode uid uA un uc uxs HK.out.n (by have h : un ≤ 140737488351232 := HK.out.m; omega) HK.out.c HK.out.b Hn.out (by omega) w _ HE4v.out (by have h1 := HTQ.out.lb; have h2 := HTQ.out.tb; have h3 := HTQ.out.br; omega) (by have := HE4v.out; exact HK.out.x.ext) HX.out HR4v.out).mono ?_
                    rintro e w5 h5
                    obtain ⟨hb5, hr5, A5, c5, rfl, ho5⟩ := rtake_tells h5
                    rw [takeR_dat HD'.out.symm, HRR.out] at hr5 ho5 ⊢
                    simp only at hr5 ho5 ⊢
                    have HT5 : Hid (TwoS w w5 B T R nm vs' A vs.length c s1 s2) := ⟨(HV4.out.ext (w' := v4)).but' hb5 HTQ.out.br, hr5, hb5.ext HE4v.out (by have h1 := HTQ.out.lb; have h2 := HTQ.out.tb; have h3 := HTQ.out.br; omega), HTQ.out.lb, HTQ.out.tb, HTQ.out.br⟩
                    have HQ45 := Lib.hid (hb5.at (by have h2 := HRQ.out; have h3 := HSZ.out; have h4 := HZ4.out; omega) HQ4.out)
                    have HQ35 := Lib.hid (hb5.at (by have h1 := HZ3.out; have h2 := HRQ.out; have h3 := HSZ.out; omega) (at_ext (w' := v4) HQ34.out))
                    have HU5 := Lib.hid (hb5.at (by have h2 := HRQ.out; omega) HU4v.out)
                    have HO45 := Lib.hid (own_but (own_ext (w' := v4) HO4.out) hb5 (fun h => by have h1 := own_base HO4.out _ h; have h2 := HRQ.out; have h3 := HSZ.out; have h4 := HZ4.out; omega))
                    have HO35 := Lib.hid (own_but (own_ext (w' := v4) HO34.out) hb5 (fun h => by have h1 := own_base HO34.out _ h; have h2 := HRQ.out; have h3 := HSZ.out; omega))
                    have HO5 := Lib.hid ho5
                    have pn : ∀ o, (w5.alloc o).heap[w5.heap.size]? = some o := at_new w5
                    clear h5 hb5 hr5 ho5 a1 a2 a3
                    go_upto_region 31 with
                      (refine wpList_store_row_o rfl 43 (.tmp 24) (.tmp 125) rfl w5.heap.size #[.int .i64 ra, .int .i64 rb, .slice A5 rd.length c5] rfl rfl 43 #[.int .i64 0, .int .i64 0, .slice none 0 0] (pn _) (by kernel_rfl) rfl (by simp [Value.oneCell']) ?_
                       intro v5 hr2 ho2 hz2 hb2
                       have HQ5 := Lib.hid hr2
                       have X5 : Hid (Ext w5 v5) := ⟨hb2 _ _ (inferInstance : Ext w5 (w5.alloc _)).out (Nat.le_refl _)⟩
                       clear hr2 ho2 hz2 hb2 pn)
                    have Sv5 : Step v5 w5 := ⟨X5.out.out⟩
                    have HT5v : Hid (TwoS w v5 B T R nm vs' A vs.length c s1 s2) := TwoS.ext (h := X5.out) HT5.out
                    have a0 : v5.cell? ⟨w4.heap.size, 0, none⟩ = some (.int .i64 ra) := at_cell (at_ext HQ45.out) 0
                    have a1 : v5.cell? ⟨w4.heap.size, 1, none⟩ = some (.int .i64 rb) := at_cell (at_ext HQ45.out) 1
                    have a2 : v5.cell? ⟨w4.heap.size, 2, none⟩ = some (.slice A4 rd.length c4) := at_cell (at_ext HQ45.out) 2
                    have b0 : v5.cell? ⟨w5.heap.size, 0, none⟩ = some (.int .i64 ra) := at_cell HQ5.out 0
                    have b1 : v5.cell? ⟨w5.heap.size, 1, none⟩ = some (.int .i64 rb) := at_cell HQ5.out 1
                    have b2 : v5.cell? ⟨w5.heap.size, 2, none⟩ = some (.slice A5 rd.length c5) := at_cell HQ5.out 2
                    go_wp2_with fail
                    refine (same12_any ra rb ra rb A4 A5 rd.length rd.length c4 c5 rd rd rfl rfl HRB.out HRB.out _ (own_cells (own_ext HO45.out)) (own_cells (own_ext HO5.out))).mono ?_
                    rintro e x1 ⟨rfl, hbx1⟩
                    have Sx1 : Step x1 v5 := ⟨hbx1⟩
                    rw [pkSame_self]
                    clear hbx1 a0 a1 a2 b0 b1 b2
                    have a0 : x1.cell? ⟨w3.heap.size, 0, none⟩ = some (.int .i64 ucode) := at_cell (at_ext (w := v5) (at_ext HQ35.out)) 0
                    have a1 : x1.cell? ⟨w3.heap.size, 1, none⟩ = some (.int .i64 uid) := at_cell (at_ext (w := v5) (at_ext HQ35.out)) 1
                    have a2 : x1.cell? ⟨w3.heap.size, 2, none⟩ = some (.slice A3 un c3) := at_cell (at_ext (w := v5) (at_ext HQ35.out)) 2
                    have b1 : x1.cell? ⟨wy.heap.size, 1, none⟩ = some (.int .i64 ucode) := at_cell (at_ext (w := v5) (at_ext HU5.out)) 1
                    have b2 : x1.cell? ⟨wy.heap.size, 2, none⟩ = some (.int .i64 uid) := at_cell (at_ext (w := v5) (at_ext HU5.out)) 2
                    have b3 : x1.cell? ⟨wy.heap.size, 3, none⟩ = some (.slice uA un uc) := at_cell (at_ext (w := v5) (at_ext HU5.out)) 3
                    have HTX1 := Lib.hid (HT5v.out.ext (w1 := x1))
                    go_wp2_with fail
                    refine (kept12_any ucode uid uA A3 un uc c3 uxs HK.out.n HK.out.m HK.out.b hc3 _ (by have := HTX1.out.e; exact HK.out.x.ext) (own_cells (own_ext (w := v5) (own_ext HO35.out)))).mono ?_
                    rintro e x2 ⟨rfl, hbx2⟩
                    have Sx2 : Step x2 x1 := ⟨hbx2⟩
                    clear hbx2 a0 a1 a2 b1 b2 b3
                    have HTX2 := Lib.hid (HTX1.out.ext (w1 := x2))
                    go_wp2_with fail
                    go_meet
                    case rel => exact ⟨_, _, HTX2.out⟩
                case' rest =>
                  obtain ⟨st', who', hT⟩ := hcut
                  have HTY := Lib.hid hT.out
                  generalize wc = y at *
                  clear hT
                  have q5 := HTY.out.r.p2
                  have q6 := HTY.out.r.p3
                  go_upto_region 33 with fail
                  refine wp_region_held_drew (S := fun W => Ext y W) (by kernel_rfl) (by exact inferInstance) (fun hHeld => ?_)
                  refine wpAnyH_take (i := 0) (v := ?_) rfl (by kernel_rfl) (by kernel_rfl) (by kernel_rfl) (fun _ _ _ h => h) (Yields.yieldsIf (Or.inl ⟨by rfl, ?_⟩)) hHeld ?_
                  rotate_left
                  · intro W
                    go_simp
                    try with_reducible rfl
                  simp only [List.getElem_toArray, List.getElem_cons_succ, List.getElem_cons_zero, Act.put, List.setIfInBounds_toArray, List.set_cons_zero, List.set_cons_succ]
                  refine wpAnyH_take (i := 2) (v := ?_) rfl (by kernel_rfl) (by kernel_rfl) (by kernel_rfl) (fun _ _ _ h => h) (Yields.yieldsIf (Or.inl ⟨by rfl, ?_⟩)) hHeld ?_
                  rotate_left
                  · intro W
                    go_simp
                    try with_reducible rfl
                  simp only [List.getElem_toArray, List.getElem_cons_succ, List.getElem_cons_zero, Act.put, List.setIfInBounds_toArray, List.set_cons_zero, List.set_cons_succ]
                  refine wpAnyH_take (i := 3) (v := ?_) rfl (by kernel_rfl) (by kernel_rfl) (by kernel_rfl) (fun _ _ _ h => h) (Yields.yieldsIf (Or.inl ⟨by rfl, ?_⟩)) hHeld ?_
                  rotate_left
                  · intro W
                    go_simp
                    try with_reducible rfl
                  simp only [List.getElem_toArray, List.getElem_cons_succ, List.getElem_cons_zero, Act.put, List.setIfInBounds_toArray, List.set_cons_zero, List.set_cons_succ]
                  refine wpAnyH_take (i := 4) (v := ?_) rfl (by kernel_rfl) (by kernel_rfl) (by kernel_rfl) (fun _ _ _ h => h) (Yields.yieldsIf (Or.inl ⟨by rfl, ?_⟩)) hHeld ?_
                  rotate_left
                  · intro W
                    go_simp
                    try with_reducible rfl
                  simp only [List.getElem_toArray, List.getElem_cons_succ, List.getElem_cons_zero, Act.put, List.setIfInBounds_toArray, List.set_cons_zero, List.set_cons_succ]
                  refine wpAnyH_take (i := 5) (v := ?_) rfl (by kernel_rfl) (by kernel_rfl) (by kernel_rfl) (fun _ _ _ h => h) (Or.inl ⟨by rfl, ?_⟩) hHeld ?_
                  rotate_left
                  · intro W hW
                    have hcl := (cell_ext (h := hW) q5)
                    go_simp
                    try with_reducible rfl
                  simp only [List.getElem_toArray, List.getElem_cons_succ, List.getElem_cons_zero, Act.put, List.setIfInBounds_toArray, List.set_cons_zero, List.set_cons_succ]
                  refine wpAnyH_ready (rs := [1]) (by kernel_rfl) (by simp) ?_
                  refine AllReadyH.cons rfl (fun K hK => ?_) AllReadyH.nil
                  refine step_call_w (by rfl) Try.func56 (by kernel_rfl) (by kernel_rfl) #[.tmp 149] #[80] rfl #[.pointer (some ⟨B, 0, none⟩)] ?hv (state_any B T nm who' st' vs' _ (by exact HTY.out.v.ext)) ?_
                  case hv => go_simp
                  rintro e w5 ⟨rfl, rfl⟩
                  refine ⟨_, rfl, ?_⟩
                  clear hHeld
                  refine hK.out _ _ (by exact inferInstance) (fun hHeld => ?_)
                  clear hK K
                  simp only [List.getElem_toArray, List.getElem_cons_succ, List.getElem_cons_zero, Act.put, List.setIfInBounds_toArray, List.set_cons_zero, List.set_cons_succ]
                  refine wpAnyH_take (i := 6) (v := ?_) rfl (by kernel_rfl) (by kernel_rfl) (by kernel_rfl) (fun _ _ _ h => h) (Yields.yieldsIf (Or.inl ⟨by rfl, ?_⟩)) hHeld ?_
                  rotate_left
                  · intro W
                    go_simp
                    try with_reducible rfl
                  simp only [List.getElem_toArray, List.getElem_cons_succ, List.getElem_cons_zero, Act.put, List.setIfInBounds_toArray, List.set_cons_zero, List.set_cons_succ]
                  refine wpAnyH_take (i := 7) (v := ?_) rfl (by kernel_rfl) (by kernel_rfl) (by kernel_rfl) (fun _ _ _ h => h) (Yields.yieldsIf (Or.inl ⟨by rfl, ?_⟩)) hHeld ?_
                  rotate_left
                  · intro W
                    go_simp
                    try with_reducible rfl
                  simp only [List.getElem_toArray, List.getElem_cons_succ, List.getElem_cons_zero, Act.put, List.setIfInBounds_toArray, List.set_cons_zero, List.set_cons_succ]
                  refine wpAnyH_take (i := 8) (v := ?_) rfl (by kernel_rfl) (by kernel_rfl) (by kernel_rfl) (fun _ _ _ h => h) (Yields.yieldsIf (Or.inl ⟨by rfl, ?_⟩)) hHeld ?_
                  rotate_left
                  · intro W
                    go_simp
                    try with_reducible rfl
                  simp only [List.getElem_toArray, List.getElem_cons_succ, List.getElem_cons_zero, Act.put, List.setIfInBounds_toArray, List.set_cons_zero, List.set_cons_succ]
                  refine wpAnyH_take (i := 10) (v := ?_) rfl (by kernel_rfl) (by kernel_rfl) (by kernel_rfl) (fun _ _ _ h => h) (Yields.yieldsIf (Or.inl ⟨by rfl, ?_⟩)) hHeld ?_
                  rotate_left
                  · intro W
                    go_simp
                    try with_reducible rfl
                  simp only [List.getElem_toArray, List.getElem_cons_succ, List.getElem_cons_zero, Act.put, List.setIfInBounds_toArray, List.set_cons_zero, List.set_cons_succ]
                  refine wpAnyH_take (i := 11) (v := ?_) rfl (by kernel_rfl) (by kernel_rfl) (by kernel_rfl) (fun _ _ _ h => h) (Yields.yieldsIf (Or.inl ⟨by rfl, ?_⟩)) hHeld ?_
                  rotate_left
                  · intro W
                    go_simp
                    try with_reducible rfl
                  simp only [List.getElem_toArray, List.getElem_cons_succ, List.getElem_cons_zero, Act.put, List.setIfInBounds_toArray, List.set_cons_zero, List.set_cons_succ]
                  refine wpAnyH_take (i := 12) (v := ?_) rfl (by kernel_rfl) (by kernel_rfl) (by kernel_rfl) (fun _ _ _ h => h) (Yields.yieldsIf (Or.inl ⟨by rfl, ?_⟩)) hHeld ?_
                  rotate_left
                  · intro W
                    go_simp
                    try with_reducible rfl
                  simp only [List.getElem_toArray, List.getElem_cons_succ, List.getElem_cons_zero, Act.put, List.setIfInBounds_toArray, List.set_cons_zero, List.set_cons_succ]
                  refine wpAnyH_take (i := 13) (v := ?_) rfl (by kernel_rfl) (by kernel_rfl) (by kernel_rfl) (fun _ _ _ h => h) (Or.inl ⟨by rfl, ?_⟩) hHeld ?_
                  rotate_left
                  · intro W hW
                    have hcl := (cell_ext (h := hW) q6)
                    go_simp
                    try with_reducible rfl
                  simp only [List.getElem_toArray, List.getElem_cons_succ, List.getElem_cons_zero, Act.put, List.setIfInBounds_toArray, List.set_cons_zero, List.set_cons_succ]
                  refine wpAnyH_ready (rs := [9]) (by kernel_rfl) (by simp) ?_
                  refine AllReadyH.cons rfl (fun K hK => ?_) AllReadyH.nil
                  refine step_call_w (by rfl) Try.func57 (by kernel_rfl) (by kernel_rfl) #[.tmp 157] #[80] rfl #[.pointer (some ⟨B, 0, none⟩)] ?hv (who_any B T nm who' st' vs' _ (by exact HTY.out.v.ext)) ?_
                  case hv => go_simp
                  rintro e w5 ⟨rfl, rfl⟩
                  refine ⟨_, rfl, ?_⟩
                  clear hHeld
                  refine hK.out _ _ (by exact inferInstance) (fun hHeld => ?_)
                  clear hK K
                  simp only [List.getElem_toArray, List.getElem_cons_succ, List.getElem_cons_zero, Act.put, List.setIfInBounds_toArray, List.set_cons_zero, List.set_cons_succ]
                  refine wpAnyH_take (i := 14) (v := ?_) rfl (by kernel_rfl) (by kernel_rfl) (by kernel_rfl) (fun _ _ _ h => h) (Yields.yieldsIf (Or.inl ⟨by rfl, ?_⟩)) hHeld ?_
                  rotate_left
                  · intro W
                    go_simp
                    try with_reducible rfl
                  simp only [List.getElem_toArray, List.getElem_cons_succ, List.getElem_cons_zero, Act.put, List.setIfInBounds_toArray, List.set_cons_zero, List.set_cons_succ]
                  refine wpAnyH_take (i := 15) (v := ?_) rfl (by kernel_rfl) (by kernel_rfl) (by kernel_rfl) (fun _ _ _ h => h) (Yields.yieldsIf (Or.inl ⟨by rfl, ?_⟩)) hHeld ?_
                  rotate_left
                  · intro W
                    go_simp
                    try with_reducible rfl
                  simp only [List.getElem_toArray, List.getElem_cons_succ, List.getElem_cons_zero, Act.put, List.setIfInBounds_toArray, List.set_cons_zero, List.set_cons_succ]
                  refine wpAnyH_done (by kernel_rfl) ?_ _
                  clear hHeld
                  go_wp2_with fail
                  go_roundw
                  case rel => exact ⟨k + 1, st', who', by go_num, by omega, HTY.out.ext⟩
                  case measure => simp [intOf]; omega
              · obtain rfl : k = om := by omega
                go_wp2_with fail
                refine (awake12_any _).mono ?_
                rintro e w9 ⟨rfl, hb9⟩
                have S99 : Step w9 _ := ⟨hb9⟩
                clear hb9
                go_wp2
                go_ret
                exact ⟨rfl, Ext.out⟩
      · obtain rfl := hne hE
        clear hne heq
        go_wp2_with fail
        refine (rnewServer_any nm (by have := HNM.out; omega) A vs.length c us Hn.out (by omega) _ HX.out.ext).mono ?_
        rintro e w2 h2
        obtain ⟨hb2, hne, _⟩ := rsrv_split HF.out h2
        obtain rfl := hne hE
        have S2 : Step w2 w1 := ⟨hb2⟩
        clear hb2 h2 hne hE
        go_wp2_with fail
        refine (same06_same LA A vs.length lc c vs us rfl (by omega) HDD.out _ (by exact (SecsOwn.ext (w' := w2) HO.out).at) (by exact HX.out.ext)).mono ?_
        rintro e w3 ⟨rfl, hb3⟩
        have S3 : Step w3 w2 := ⟨hb3⟩
        clear hb3
        go_wp2_with fail
        go_loopw [83, 17] (fun i t wx => ∃ j : Nat, i = .int .i64 j ∧ j ≤ vs.length ∧ Hid (Ext w wx) ∧ Hid (RowAt wx w.heap.size wz.heap.size LA vs.length) ∧ Hid (True)) (fun i _ _ => vs.length - (intOf i).toNat)
        case atStart => exact ⟨0, rfl, by omega, (inferInstance : Ext w w3), HRow.out.ext, trivial⟩
        case round =>
          obtain ⟨j, rfl, hj, HW2, HR2, HI⟩ := hrel
          obtain ⟨wx, rfl⟩ : ∃ wx, wx = wr := ⟨wr, rfl⟩
          by_cases hlt : j < vs.length
          · obtain ⟨g, cur, hA, hb, ht, hh, hc⟩ := HR2.out (by omega)
            obtain ⟨x, hx⟩ : ∃ x, cur[j * 4 + 2]? = some x := ⟨_, Array.getElem?_eq_getElem (by omega)⟩
            have hcell : wx.cell? ⟨g, j * 4 + 2, none⟩ = some x := (at_cell hh (j * 4 + 2)).trans hx
            have hfr : wx.frozen? ⟨g, j * 4 + 2, none⟩ = false := at_frozen hh _
            have HA := Lib.hid hA
            have HH := Lib.hid hh
            have HE : Hid (Ext w (wx.setCell ⟨g, j * 4 + 2, none⟩ (.string ⟨#[115, 112, 111, 105, 108, 116]⟩))) := ⟨HW2.out.out.setCell (p := ⟨g, j * 4 + 2, none⟩) hb _⟩
            have HJ : Hid (True) := trivial
            subst hA
            clear hh hx
            go_wp2_with fail
            go_roundw
            case rel => exact ⟨j + 1, by go_num, by omega, HE.out, fun _ => ⟨g, _, rfl, hb, ht, at_set HH.out _ _, by rw [Array.size_setIfInBounds]; exact hc⟩, HJ.out⟩
            case measure => simp [intOf]; omega
          · obtain rfl : j = vs.length := by omega
            have S9 : Step wx w := ⟨HW2.out.out⟩
            go_wp2_with fail
            refine (awake12_any _).mono ?_
            rintro e w9 ⟨rfl, hb9⟩
            have S99 : Step w9 _ := ⟨hb9⟩
            clear hb9
            go_wp2
            go_ret
            exact ⟨rfl, Ext.out⟩
namespace PapServes
set_option maxRecDepth 100000 in
theorem walk (U : Nat) (W : World) (vs : List Value) (h : Args U Try.prog W Try.f8.params.toList vs) : Calls Try.prog 8 vs.toArray W fun e W' => e = .returned (.bool true) ∧ Below W.heap.size W W' := by
  rw [Try.params8] at h
  match vs, h with
  | [v0, v1, v2], ⟨h0, h1, h2, _⟩ =>
    obtain ⟨nm, rfl, hnm⟩ := h0.str Try.underlying9
    obtain ⟨A, n, c, us, rfl, hl, hn, _, hx⟩ := Arg.secs h1
    have hr := Arg.secs_room h1
    obtain ⟨OA, om, oc, os, rfl, hol, hom, hox⟩ := Arg.ops h2
    exact serves12_law nm A n c us OA om oc os hnm hl hr hol hom W hx hox

set_option maxRecDepth 100000 in
theorem lifted (os : Os) (started : os.Started) (H : Type) (enc : TypeId × Value → H) :
    ReturnsInHanded {} Try.checked os 8 .any (Rows.papServesSpec.pre6 enc Try.prog Try.f8 Rows.papServesRow.domain false) (Rows.papServesSpec.post enc Try.prog Try.f8 false true false false) :=
  law_lifted (C := Try.checked) laid_out own_knob started (by kernel_rfl) Try.func8 H enc rfl
    (fun ds hd => by
      have : ds.length = 3 := hd
      match ds, this with
      | [_, _, _], _ => exact ⟨rfl, rfl, rfl⟩) rfl Try.underlying4 (by
      have : (Try.f8.params.toList.all fun t => Try.prog.readableRec t && decide (t < Try.prog.types.size)) = true := by kernel_rfl
      intro t ht
      have h := List.all_eq_true.1 this t ht
      rw [Bool.and_eq_true, decide_eq_true_eq] at h
      exact h)
    (ChangeSpec.witness6 (enc := enc) (C := Try.checked) false ⟨#[], #[.string ⟨#[]⟩, .slice none 0 0, .slice none 0 0], []⟩ 8 (by kernel_rfl) (by kernel_rfl) (by kernel_rfl) (by kernel_rfl)) walk

theorem over : Rows.papServesRow.holds Try.pinned (OpenSpec.ofChange Rows.papServesSpec) :=
  OpenClaim.holds_of_wide 8 Try.f8 rfl rfl rfl rfl rfl rfl rfl ⟨rfl, rfl, rfl, rfl, rfl⟩ rfl rfl rfl rfl rfl (by kernel_rfl) Try.func8 (by kernel_rfl)
    (of_decide_eq_true (by kernel_rfl)) (by unfold Func.isWrapper; first | (rw [if_pos (by decide +kernel)]; kernel_rfl) | (rw [if_neg (by decide +kernel)]; exact ⟨rfl, rfl⟩))
    (fun os started H enc _ => lifted os started H enc)

/-- The statement. -/
theorem proved : Rows.PapServesSaid := over
#print axioms proved
end PapServes
end Go.Proofs.Ytodibldfolognaa
