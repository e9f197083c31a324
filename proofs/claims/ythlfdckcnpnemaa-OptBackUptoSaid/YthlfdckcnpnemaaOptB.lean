/-
  What opt.Bytes tells. No condition beyond sizes.
-/
import Derived.Test.YthlfdckcnpnemaaOptW
namespace Go.Proofs.Ythlfdckcnpnemaa
open Go.RowKit
set_option linter.unusedVariables false
set_option linter.unusedSimpArgs false

def optOk (o : Int × List Int) : Bool := decide (0 ≤ o.1) && decide (o.1 ≤ 255) && decide (o.2.length ≤ 253)
def optBs (os : List (Int × List Int)) : List Int := os.flatMap fun o => o.1 :: ((o.2.length : Int) + 2) :: o.2
def bytesE (os : List (Int × List Int)) : Int := if os.all optOk = false then 91 else if 32 < os.length then 7 else 0
def bytesL (os : List (Int × List Int)) : List Int := if bytesE os = 0 then optBs os else []
theorem optBs_snoc (os : List (Int × List Int)) (o : Int × List Int) : optBs (os ++ [o]) = optBs os ++ [o.1, (o.2.length : Int) + 2] ++ o.2 := by simp [optBs]
theorem bytesE_bad {os : List (Int × List Int)} {o : Int × List Int} (h : o ∈ os) (h1 : optOk o = false) : bytesE os = 91 := by
  unfold bytesE
  rw [if_pos]
  rw [List.all_eq_false]
  exact ⟨o, h, by rw [h1]; decide⟩
theorem optBs_len : ∀ (os : List (Int × List Int)), os.all optOk = true → (optBs os).length ≤ os.length * 255
  | [], _ => by simp [optBs]
  | o :: os, h => by
    simp only [List.all_cons, Bool.and_eq_true] at h
    have h1 := optBs_len os h.2
    have h2 := h.1
    unfold optOk at h2
    simp only [Bool.and_eq_true, decide_eq_true_eq] at h2
    have h3 : optBs (o :: os) = o.1 :: ((o.2.length : Int) + 2) :: o.2 ++ optBs os := rfl
    rw [h3]
    simp only [List.length_append, List.length_cons]
    omega
theorem all_take_succ {os : List (Int × List Int)} {k : Nat} {o : Int × List Int} (h : (os.take k).all optOk = true) (ho : os[k]? = some o) (h1 : optOk o = true) : (os.take (k + 1)).all optOk = true := by
  rw [take_snoc ho, List.all_append, h]
  simp [h1]
theorem all_take {os : List (Int × List Int)} (k : Nat) (h : os.all optOk = true) : (os.take k).all optOk = true := by
  rw [List.all_eq_true] at *
  exact fun x hx => h x (List.mem_of_mem_take hx)

def BytesTells (os : List (Int × List Int)) (w : World) (e : Ending) (w' : World) : Prop :=
  ∃ v, e = .returned (.tuple #[v, .int .i64 (bytesE os)]) ∧ w'.ownsRow w.heap.size 5 1 v (bytesL os).length (nums .u8 (bytesL os)) ∧ Below w.heap.size w w'
theorem bytesTells_no {os : List (Int × List Int)} {w w' : World} {k : Int} (h : bytesE os = k) (hk : k ≠ 0) (hb : Below w.heap.size w w') : BytesTells os w (.returned (.tuple #[.slice none 0 0, .int .i64 k])) w' := by
  have h1 : bytesL os = [] := by unfold bytesL; rw [if_neg (by rw [h]; exact hk)]
  exact ⟨_, by rw [h], by rw [h1]; exact own_nil _ _ _ _, hb⟩
set_option maxHeartbeats 4000000 in
theorem optBytes_any (A : Option Addr) (n c : Nat) (vs : List OV) (hn : vs.length = n) (hn' : n ≤ 4611686018427387903) (ht : ∀ v ∈ vs, -9223372036854775808 ≤ v.t ∧ v.t ≤ 9223372036854775807)
    (w : World) (hx : Cells w A (flat vs)) (gx : Good w vs) :
    Calls Try.prog 46 #[.slice A n c] w (BytesTells (vs.map OV.opt) w) := by
  have Hn := Lib.hid hn
  have HX := Lib.hid hx
  have GX := Lib.hid gx
  have HT := Lib.hid ht
  clear hn hx gx ht
  go_enter Try.func46, Try.ntmps46
  go_wp2
  go_loopw [11] (fun i wr => ∃ k : Nat, i = .int .i64 k ∧ k ≤ n ∧ Hid (((vs.map OV.opt).take k).all optOk = true) ∧ Hid (Below w.heap.size w wr)) (fun i _ => n - (intOf i).toNat)
  case atStart => exact ⟨0, rfl, by omega, rfl, Below.refl _ _⟩
  case round =>
    obtain ⟨k, rfl, hk, HA, HB⟩ := hrel
    have X0 : Ext w wr := ⟨HB.out⟩
    by_cases hlt : k < n
    · obtain ⟨v, hv, hvm⟩ := optD (vs := vs) (k := k) (by rw [Hn.out]; exact hlt)
      obtain ⟨ad, rfl, hc0, hc1⟩ := opt_at (HX.out.ext (w' := wr)) hv
      have GV := Lib.hid (GX.out v hvm)
      have HV : Hid ((vs.map OV.opt)[k]? = some v.opt) := by unfold Hid; rw [List.getElem?_map, hv]; rfl
      have HM : Hid (v.opt ∈ vs.map OV.opt) := List.mem_map_of_mem hvm
      obtain ⟨ht1, ht2⟩ := HT.out v hvm
      clear hv hvm
      obtain ⟨t, VA, vn, vc, xs⟩ := v
      simp only at hc0 hc1 ht1 ht2
      have HXL : Hid (xs.length = vn) := GV.out.1
      by_cases h1 : 0 ≤ t ∧ t ≤ 255
      · obtain ⟨h1, h2⟩ := h1
        by_cases h3 : 253 < vn
        · have HE : Hid (bytesE (vs.map OV.opt) = 91) := bytesE_bad HM.out (by show optOk (t, xs) = false; simp only [optOk, HXL.out, Bool.and_eq_false_iff, decide_eq_false_iff_not]; omega)
          go_wp2_with fail
          refine (octets_yes t h1 h2 _).mono ?_
          rintro e w' ⟨rfl, rfl⟩
          go_wp2
          go_ret2
          exact bytesTells_no HE.out (by decide) Ext.out
        · have HO : Hid (optOk (t, xs) = true) := by unfold Hid; simp only [optOk, HXL.out, Bool.and_eq_true, decide_eq_true_eq]; omega
          go_wp2_with fail
          refine (octets_yes t h1 h2 _).mono ?_
          rintro e w' ⟨rfl, rfl⟩
          go_wp2
          go_roundw
          case rel => exact ⟨k + 1, by go_num, by omega, all_take_succ HA.out HV.out HO.out, Ext.out⟩
          case measure => simp [intOf]; omega
      · have HE : Hid (bytesE (vs.map OV.opt) = 91) := bytesE_bad HM.out (by show optOk (t, xs) = false; simp only [optOk, Bool.and_eq_false_iff, decide_eq_false_iff_not]; omega)
        have H1 := Lib.hid h1
        clear h1
        go_wp2_with fail
        refine (octets_no t H1.out _).mono ?_
        rintro e w' ⟨rfl, rfl⟩
        go_wp2
        go_ret2
        exact bytesTells_no HE.out (by decide) Ext.out
    · obtain rfl : k = n := by omega
      have HAll : Hid ((vs.map OV.opt).all optOk = true) := by
        have := HA.out
        rwa [List.take_of_length_le (by rw [List.length_map, Hn.out]; omega)] at this
      have HL : Hid ((vs.map OV.opt).length = k) := by unfold Hid; rw [List.length_map, Hn.out]
      by_cases h32 : 32 < k
      · have HE : Hid (bytesE (vs.map OV.opt) = 7) := by unfold Hid bytesE; rw [if_neg (by rw [HAll.out]; decide), if_pos (by rw [HL.out]; exact h32)]
        go_wp2
        go_ret2
        exact bytesTells_no HE.out (by decide) Ext.out
      · have HE : Hid (bytesE (vs.map OV.opt) = 0) := by unfold Hid bytesE; rw [if_neg (by rw [HAll.out]; decide), if_neg (by rw [HL.out]; exact h32)]
        obtain ⟨wo, rfl⟩ : ∃ wo : World, wo = wr := ⟨_, rfl⟩
        go_wp2
        go_loopw [6, 31] (fun b i wr => ∃ (j q : Nat), i = .int .i64 j ∧ j ≤ k ∧ Hid ((optBs ((vs.map OV.opt).take j)).length = q) ∧ q ≤ j * 255 ∧ Hid (wr.ownsRow w.heap.size 5 1 b q (nums .u8 (optBs ((vs.map OV.opt).take j)))) ∧ Hid (Below w.heap.size w wr)) (fun _ i _ => k - (intOf i).toNat)
        case atStart => exact ⟨0, 0, rfl, by omega, rfl, by omega, own_nil _ _ _ _, Ext.out⟩
        case round =>
          obtain ⟨j, q, rfl, hj, HQ, hq, HO, HB2⟩ := hrel
          have X1 : Ext w wr := ⟨HB2.out⟩
          obtain ⟨L, cl, rfl, hcl⟩ := own_slice HO.out
          by_cases hjl : j < k
          · obtain ⟨v, hv, hvm⟩ := optD (vs := vs) (k := j) (by rw [Hn.out]; exact hjl)
            obtain ⟨ad, rfl, hc0, hc1⟩ := opt_at (HX.out.ext (w' := wr)) hv
            have GV := Lib.hid (GX.out v hvm)
            have HV : Hid ((vs.map OV.opt)[j]? = some v.opt) := by unfold Hid; rw [List.getElem?_map, hv]; rfl
            have hok : optOk v.opt = true := List.all_eq_true.1 HAll.out _ (List.mem_map_of_mem hvm)
            clear hv hvm
            obtain ⟨t, VA, vn, vc, xs⟩ := v
            simp only at hc0 hc1
            have HXL : Hid (xs.length = vn) := GV.out.1
            have hok' : 0 ≤ t ∧ t ≤ 255 ∧ vn ≤ 253 := by
              have hok : optOk (t, xs) = true := hok
              simp only [optOk, HXL.out, Bool.and_eq_true, decide_eq_true_eq] at hok
              exact ⟨hok.1.1, hok.1.2, hok.2⟩
            obtain ⟨ht0, ht1, hvn⟩ := hok'
            have HS : Hid (nums .u8 (optBs ((vs.map OV.opt).take (j + 1))) = nums .u8 (optBs ((vs.map OV.opt).take j)) ++ [.int .u8 t, .int .u8 ((vn : Int) + 2)] ++ nums .u8 xs) := by
              unfold Hid
              rw [take_snoc HV.out, optBs_snoc, nums_append, nums_append]
              simp only [OV.opt, HXL.out]
              rfl
            have HSL : Hid ((optBs ((vs.map OV.opt).take (j + 1))).length = q + 2 + vn) := by
              unfold Hid
              rw [take_snoc HV.out, optBs_snoc, List.length_append, List.length_append, HQ.out]
              simp only [OV.opt, HXL.out]
              rfl
            have hw1 : IntKind.u8.wrap t = t := by rw [IntKind.wrap_u8]; omega
            have hw2 : IntKind.i64.wrap ((vn : Int) + 2) = (vn : Int) + 2 := wrap64 _ (by omega) (by omega)
            have hw3 : IntKind.u8.wrap ((vn : Int) + 2) = (vn : Int) + 2 := by rw [IntKind.wrap_u8]; omega
            have HLB : Hid (∀ b, (Value.slice L q cl).ownBlock = some b → b < wr.heap.size) := fun b hb => own_lt HO.out b hb
            have HAB : Hid (∀ b, (Value.slice L q cl).ownBlock = some b → w.heap.size ≤ b) := fun b hb => own_base HO.out b hb
            have HARM : Hid (∀ W w1, Ext (wr.alloc (.cells #[.int .i64 t, .slice VA vn vc] 73)) W → W.grownBy w1 (Value.slice L q cl).ownBlock →
                w1.cell? ⟨wr.heap.size, 0, none⟩ = some (.int .i64 t) ∧ w1.cell? ⟨wr.heap.size, 1, none⟩ = some (.slice VA vn vc) ∧ Hid (Below w.heap.size w w1) ∧ Hid (Cells w1 VA (nums .u8 xs)) ∧ w.heap.size ≤ w1.heap.size) := by
              intro W w1 hW hg
              have h0 := at_ext (w' := W) (at_new wr (.cells #[.int .i64 t, .slice VA vn vc] 73))
              have h1 := (hg.block wr.heap.size (at_lt h0) (fun he => by have := HLB.out _ he.symm; omega)).trans h0
              have hz : Ext w W := Ext.trans_ inferInstance hW
              have hb : Below w.heap.size w w1 := below_grown hz.out hz.out.size hg (fun b hb => HAB.out b hb)
              exact ⟨at_cell h1 0, at_cell h1 1, hb, GV.out.2.2.2.2.below hb, hb.size⟩
            clear hok
            go_wp2
            go_region_law
              (first
               | (refine step_append w.heap.size rfl (.tmp 35) (.tmp 44) 22 5 (.int .u8 0) 1 1 rfl Try.underlying22 info_u8 rfl (by decide) (by decide) (.slice L q cl) q (nums .u8 (optBs ((vs.map OV.opt).take j))) _ 2 2 [.int .u8 t, .int .u8 ((vn : Int) + 2)] rfl rfl rfl ?d1 ?d0 ?d2 ?d3 ?d4 ?_
                  (case d1 => intro u hu; simp at hu; rcases hu with rfl | rfl <;> rfl)
                  (case d0 => exact own_ext HO.out)
                  (case d2 => exact cells_box _ _ (by simp) [.int .u8 t, .int .u8 ((vn : Int) + 2)] _)
                  (case d3 => have := X1.out.size; simp; omega)
                  (case d4 => omega)
                  intro v1 w1 ho1 hg1 hat1
                  obtain ⟨p0, p1, HB1, HC1, hz1⟩ := HARM.out _ _ (by infer_instance) hg1
                  obtain ⟨A1, c1, rfl, hc1⟩ := own_slice ho1
                  have HO1 := Lib.hid ho1
                  clear ho1 hg1 hat1)
               | (refine step_append w.heap.size rfl (.tmp 45) (.tmp 47) 22 5 (.int .u8 0) 1 1 rfl Try.underlying22 info_u8 rfl (by decide) (by decide) (.slice A1 (q + 2) c1) (q + 2) (nums .u8 (optBs ((vs.map OV.opt).take j)) ++ [.int .u8 t, .int .u8 ((vn : Int) + 2)]) VA vn vc (nums .u8 xs) rfl rfl ?d5 ?d1 ?d0 ?d2 ?d3 ?d4 ?_
                  (case d5 => rw [nums_length, HXL.out, Nat.mul_one])
                  (case d1 => exact nums_one _ _)
                  (case d0 => exact own_ext HO1.out)
                  (case d2 => exact HC1.out.ext)
                  (case d3 => first | omega | (simp; omega))
                  (case d4 => omega)
                  intro v2 w2 ho2 hg2 hat2
                  obtain ⟨A2, c2, rfl, hc2⟩ := own_slice ho2
                  have HO2 := Lib.hid ho2
                  have HB2' : Hid (Below w.heap.size w w2) := below_grown HB1.out HB1.out.size hg2 (own_base HO1.out)
                  clear ho2 hg2 hat2))
            all_goals go_wp2
            all_goals
              refine ⟨⟨j + 1, q + 2 + vn, by go_num, by omega, HSL.out, by omega, ?_, HB2'.out⟩, by simp [intOf]; omega⟩
              show World.ownsRow _ _ _ _ _ _ _
              rw [HS.out]
              exact HO2.out
          · obtain rfl : j = k := by omega
            have hfin := HO.out
            rw [List.take_of_length_le (by rw [HL.out]; omega)] at hfin
            have HFin : Hid (BytesTells (vs.map OV.opt) w (.returned (.tuple #[.slice L q cl, .int .i64 0])) wr) := by
              have h1 : bytesL (vs.map OV.opt) = optBs (vs.map OV.opt) := by unfold bytesL; rw [if_pos HE.out]
              have h2 := HQ.out
              rw [List.take_of_length_le (by rw [HL.out]; omega)] at h2
              exact ⟨_, by rw [HE.out], by rw [h1, h2]; exact hfin, HB2.out⟩
            clear hfin
            go_wp2
            go_ret2
            exact HFin.out
end Go.Proofs.Ythlfdckcnpnemaa
