/-
  What Nak of ipv6cp and of its reference tell. Conditions: the list is no longer than the model's memory.
-/
import Derived.Test.YtmopdimokoogmaaIp6H
namespace Go.Proofs.Ytmopdimokoogmaa
open Go.RowKit
set_option linter.unusedVariables false
set_option linter.unusedSimpArgs false

set_option maxHeartbeats 2000000 in
theorem rnak17_any (id draw : Int) (A : Option Addr) (n c : Nat) (vs : List OV) (hid : giv64 id) (hd : giv64 draw) (hn : vs.length = n) (hn' : n ≤ 4398046511104) (w : World) (hx : Cells w A (flat vs)) (gx : Good w vs) :
    Calls Try.prog 35 #[.int .u64 id, .slice A n c, .int .u64 draw] w (PairTells (nakR id (nakF17 id draw (vs.map OV.opt))) w) := by
  have Hn := Lib.hid hn
  have HX := Lib.hid hx
  have GX := Lib.hid gx
  have HId := Lib.hid hid
  have HDr := Lib.hid hd
  clear hn hx gx hid hd
  go_enter Try.func35, Try.ntmps35
  go_wp2
  go_loopw [8, 9] (fun to i wr => ∃ k : Nat, i = .int .i64 k ∧ k ≤ n ∧ to = .int .u64 (nakF17 id draw ((vs.map OV.opt).take k)) ∧ Hid (Below w.heap.size w wr)) (fun _ i _ => n - (intOf i).toNat)
  case atStart => exact ⟨0, rfl, by omega, rfl, Below.refl _ _⟩
  case round =>
    obtain ⟨k, rfl, hk, rfl, HB⟩ := hrel
    have X0 : Ext w wr := ⟨HB.out⟩
    by_cases hlt : k < n
    · obtain ⟨v, hv, hvm⟩ := optD (vs := vs) (k := k) (by rw [Hn.out]; exact hlt)
      obtain ⟨ad, rfl, hc0, hc1⟩ := opt_at (HX.out.ext (w' := wr)) hv
      have GV := Lib.hid ((GX.out v hvm).ext (w' := wr))
      have HV : Hid ((vs.map OV.opt)[k]? = some v.opt) := by unfold Hid; rw [List.getElem?_map, hv]; rfl
      clear hv hvm
      obtain ⟨t, VA, vn, vc, xs⟩ := v
      simp only at hc0 hc1
      by_cases ht : t = 1
      · subst ht
        by_cases h8 : vn = 8
        · subst h8
          have hok : idOk (1, xs) = true := idOk_yes GV.out.1
          have HN : Hid (getN xs = idN (1, xs)) := (idN_yes hok).symm
          by_cases h0 : idN (1, xs) = 0
          · have HS : Hid (nakF17 id draw ((vs.map OV.opt).take (k + 1)) = givF draw id) := nakF17_giv id draw HV.out hok (.inl h0)
            have H0 := Lib.hid h0
            clear hok h0
            go_wp2_with fail
            refine (number17_any 1 VA 8 vc xs GV.out.1 rfl GV.out.2.2.2.1 _ (by exact GV.out.2.2.2.2.ext)).mono ?_
            rintro e w1 ⟨rfl, hb1⟩
            rw [HN.out, H0.out]
            have S1 : Step w1 _ := ⟨hb1⟩
            clear hb1
            go_wp2_with fail
            refine (rgiven_any draw id HDr.out.1 HDr.out.2 HId.out.1 HId.out.2 _).mono ?_
            rintro e w2 ⟨rfl, rfl⟩
            go_wp2_with fail
            go_roundw
            case rel => exact ⟨k + 1, by go_num, by omega, by rw [HS.out], Ext.out⟩
            case measure => simp [intOf]; omega
          · have h00 : (idN (1, xs) == 0) = false := by simpa using h0
            by_cases h1 : idN (1, xs) = id
            · have HS : Hid (nakF17 id draw ((vs.map OV.opt).take (k + 1)) = givF draw id) := nakF17_giv id draw HV.out hok (.inr h1)
              have H1 := Lib.hid h1
              rw [h1] at h00
              clear hok h0 h1
              go_wp2_with fail
              refine (number17_any 1 VA 8 vc xs GV.out.1 rfl GV.out.2.2.2.1 _ (by exact GV.out.2.2.2.2.ext)).mono ?_
              rintro e w1 ⟨rfl, hb1⟩
              rw [HN.out, H1.out]
              have S1 : Step w1 _ := ⟨hb1⟩
              clear hb1
              go_wp2_with fail
              refine (rgiven_any draw id HDr.out.1 HDr.out.2 HId.out.1 HId.out.2 _).mono ?_
              rintro e w2 ⟨rfl, rfl⟩
              go_wp2_with fail
              go_roundw
              case rel => exact ⟨k + 1, by go_num, by omega, by rw [HS.out], Ext.out⟩
              case measure => simp [intOf]; omega
            · have HS : Hid (nakF17 id draw ((vs.map OV.opt).take (k + 1)) = idN (1, xs)) := nakF17_yes id draw HV.out hok (by simp [h0, h1])
              have h11 : (idN (1, xs) == id) = false := by simpa using h1
              clear hok h0 h1
              go_wp2_with fail
              refine (number17_any 1 VA 8 vc xs GV.out.1 rfl GV.out.2.2.2.1 _ (by exact GV.out.2.2.2.2.ext)).mono ?_
              rintro e w1 ⟨rfl, hb1⟩
              rw [HN.out]
              clear HN
              generalize idN (1, xs) = N at *
              have S1 : Step w1 _ := ⟨hb1⟩
              clear hb1
              go_wp2_with fail
              go_roundw
              case rel => exact ⟨k + 1, by go_num, by omega, by rw [HS.out], Ext.out⟩
              case measure => simp [intOf]; omega
        · have h8' : ((vn : Int) != 8) = true := by simp only [bne_iff_ne, ne_eq]; omega
          have HS := Lib.hid (nakF17_no id draw HV.out (idOk_len (t := 1) (xs := xs) (by have := GV.out.1; simp only at this; omega)))
          clear h8
          go_wp2
          go_roundw
          case rel => exact ⟨k + 1, by go_num, by omega, by rw [HS.out], Ext.out⟩
          case measure => simp [intOf]; omega
      · have ht' : (t != 1) = true := by simpa using ht
        have HS := Lib.hid (nakF17_no id draw HV.out (idOk_type (xs := xs) ht))
        clear ht
        go_wp2
        go_roundw
        case rel => exact ⟨k + 1, by go_num, by omega, by rw [HS.out], Ext.out⟩
        case measure => simp [intOf]; omega
    · obtain rfl : n = k := by omega
      have HT : Hid ((vs.map OV.opt).take n = vs.map OV.opt) := List.take_of_length_le (by rw [List.length_map, Hn.out]; omega)
      have HR := Lib.hid (nakR_of id (nakF17 id draw (vs.map OV.opt)) (nakF17 id draw ((vs.map OV.opt).take n)) (by rw [HT.out]))
      generalize nakF17 id draw ((vs.map OV.opt).take n) = N at *
      go_wp2
      go_ret2
      exact pairTells_of HR.out Ext.out

set_option maxHeartbeats 2000000 in
theorem nak17_any (id draw : Int) (A : Option Addr) (n c : Nat) (vs : List OV) (hid : giv64 id) (hd : giv64 draw) (hn : vs.length = n) (hn' : n ≤ 4398046511104) (w : World) (hx : Cells w A (flat vs)) (gx : Good w vs) :
    Calls Try.prog 32 #[.int .u64 id, .slice A n c, .int .u64 draw] w (PairTells (nakR id (nakF17 id draw (vs.map OV.opt))) w) := by
  have Hn := Lib.hid hn
  have HX := Lib.hid hx
  have GX := Lib.hid gx
  have HId := Lib.hid hid
  have HDr := Lib.hid hd
  clear hn hx gx hid hd
  go_enter Try.func32, Try.ntmps32
  go_wp2
  go_loopw [0, 9] (fun x0 i wr => ∃ k : Nat, x0 = .int .u64 id ∧ i = .int .i64 ((k : Int) - 1) ∧ k ≤ n ∧ Hid (nakF17 id draw ((vs.map OV.opt).take k) = nakF17 id draw (vs.map OV.opt)) ∧ Hid (Below w.heap.size w wr)) (fun _ i _ => (intOf i + 1).toNat)
  case atStart => exact ⟨n, rfl, rfl, by omega, by unfold Hid; rw [List.take_of_length_le (by rw [List.length_map, Hn.out]; omega)], Below.refl _ _⟩
  case round =>
    obtain ⟨k, rfl, rfl, hk, HE, HB⟩ := hrel
    have X0 : Ext w wr := ⟨HB.out⟩
    rcases k with _ | k
    · have HR := Lib.hid (nakR_of id (nakF17 id draw (vs.map OV.opt)) id (by rw [← HE.out]; rfl))
      rw [show ((0 : Nat) : Int) - 1 = -1 by omega]
      go_wp2
      go_ret2
      refine pairTells_of ?_ Ext.out
      rw [HR.out]
      simp
    · rw [show ((k + 1 : Nat) : Int) - 1 = (k : Int) by omega]
      have hlt : k < n := by omega
      obtain ⟨v, hv, hvm⟩ := optD (vs := vs) (k := k) (by rw [Hn.out]; exact hlt)
      obtain ⟨ad, rfl, hc0, hc1⟩ := opt_at (HX.out.ext (w' := wr)) hv
      have GV := Lib.hid ((GX.out v hvm).ext (w' := wr))
      have HV : Hid ((vs.map OV.opt)[k]? = some v.opt) := by unfold Hid; rw [List.getElem?_map, hv]; rfl
      clear hv hvm
      obtain ⟨t, VA, vn, vc, xs⟩ := v
      simp only at hc0 hc1
      rcases hI : idOk (t, xs) with _ | _
      · have HI := Lib.hid hI
        have HS := Lib.hid (nakF17_no id draw HV.out hI)
        clear hI
        go_wp2_with fail
        refine (askedId_any t VA vn vc xs GV.out.1 GV.out.2.2.2.1 _ (by exact GV.out.2.2.2.2.ext)).mono ?_
        rintro e w1 ⟨rfl, hb1⟩
        have S1 : Step w1 _ := ⟨hb1⟩
        clear hb1
        rw [HI.out]
        go_wp2_with fail
        go_roundw
        case rel => exact ⟨k, rfl, by first | rfl | go_num, by omega, by unfold Hid; rw [← HS.out]; exact HE.out, Ext.out⟩
        case measure => simp [intOf]
      · have HI := Lib.hid hI
        by_cases h0 : idN (t, xs) = 0
        · have HR := Lib.hid (nakR_of id (nakF17 id draw (vs.map OV.opt)) (givF draw id) (by rw [← HE.out]; exact nakF17_giv id draw HV.out hI (.inl h0)))
          have H0 := Lib.hid h0
          clear hI h0
          go_wp2_with fail
          refine (askedId_any t VA vn vc xs GV.out.1 GV.out.2.2.2.1 _ (by exact GV.out.2.2.2.2.ext)).mono ?_
          rintro e w1 ⟨rfl, hb1⟩
          have S1 : Step w1 _ := ⟨hb1⟩
          clear hb1
          rw [HI.out, H0.out]
          go_wp2_with fail
          refine (given_any draw id HDr.out.1 HDr.out.2 HId.out.1 HId.out.2 _).mono ?_
          rintro e w2 ⟨rfl, rfl⟩
          generalize givF draw id = N2 at *
          go_wp2_with fail
          go_ret2
          exact pairTells_of HR.out Ext.out
        · have h00 : (idN (t, xs) == 0) = false := by simpa using h0
          by_cases h1 : idN (t, xs) = id
          · have HR := Lib.hid (nakR_of id (nakF17 id draw (vs.map OV.opt)) (givF draw id) (by rw [← HE.out]; exact nakF17_giv id draw HV.out hI (.inr h1)))
            have H1 := Lib.hid h1
            rw [h1] at h00
            clear hI h0 h1
            go_wp2_with fail
            refine (askedId_any t VA vn vc xs GV.out.1 GV.out.2.2.2.1 _ (by exact GV.out.2.2.2.2.ext)).mono ?_
            rintro e w1 ⟨rfl, hb1⟩
            have S1 : Step w1 _ := ⟨hb1⟩
            clear hb1
            rw [HI.out, H1.out]
            go_wp2_with fail
            refine (given_any draw id HDr.out.1 HDr.out.2 HId.out.1 HId.out.2 _).mono ?_
            rintro e w2 ⟨rfl, rfl⟩
            generalize givF draw id = N2 at *
            go_wp2_with fail
            go_ret2
            exact pairTells_of HR.out Ext.out
          · have HR := Lib.hid (nakR_of id (nakF17 id draw (vs.map OV.opt)) (idN (t, xs)) (by rw [← HE.out]; exact nakF17_yes id draw HV.out hI (by simp [h0, h1])))
            have h11 : (idN (t, xs) == id) = false := by simpa using h1
            clear hI h0 h1
            go_wp2_with fail
            refine (askedId_any t VA vn vc xs GV.out.1 GV.out.2.2.2.1 _ (by exact GV.out.2.2.2.2.ext)).mono ?_
            rintro e w1 ⟨rfl, hb1⟩
            have S1 : Step w1 _ := ⟨hb1⟩
            clear hb1
            rw [HI.out]
            generalize idN (t, xs) = N at *
            go_wp2_with fail
            go_ret2
            exact pairTells_of HR.out Ext.out
end Go.Proofs.Ytmopdimokoogmaa
