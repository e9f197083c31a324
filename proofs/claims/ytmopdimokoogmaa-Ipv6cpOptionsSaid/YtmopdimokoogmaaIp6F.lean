/-
  What the reference's Judge (ipv6cp) tells. Conditions: the list is no longer than the model's memory.
-/
import Derived.Test.YtmopdimokoogmaaIp6M
import Derived.Test.YtmopdimokoogmaaR9
namespace Go.Proofs.Ytmopdimokoogmaa
open Go.RowKit
set_option linter.unusedVariables false
set_option linter.unusedSimpArgs false

theorem jF_met (mine : Int) (os : List (Int × List Int)) : (jF mine os).2.1 = os.any fun o => decide (o.1 = 1) := by
  have h : ∀ (os : List (Int × List Int)) (s : JSt), (os.foldl (jStep mine) s).2.1 = (s.2.1 || os.any fun o => decide (o.1 = 1)) := by
    intro os
    induction os with
    | nil => intro s; simp
    | cons o os ih =>
      intro s
      rw [List.foldl_cons, ih, List.any_cons]
      simp [jStep, Bool.or_assoc]
  simpa [jF] using h os ([], false, 0)
/-- The bad ones so far, and the next. -/
theorem jF_next (mine : Int) {os : List (Int × List Int)} {k : Nat} {o : Int × List Int} {bad : List (Int × List Int)} (h : (jF mine (os.take k)).1 = bad) (ho : os[k]? = some o) :
    (jF mine (os.take (k + 1))).1 = if jBad mine ((os.take k).any fun o => decide (o.1 = 1)) o then bad ++ [o] else bad := by
  rw [take_snoc ho, jF_snoc, ← jF_met mine, ← h]
  rfl
theorem any_take {os : List (Int × List Int)} {k : Nat} {o : Int × List Int} (ho : os[k]? = some o) : (os.take (k + 1)).any (fun o => decide (o.1 = 1)) = ((os.take k).any (fun o => decide (o.1 = 1)) || decide (o.1 = 1)) := by
  rw [take_snoc ho]
  simp
/-- A list of the call's own whose options lie where others do. -/
def Some_ (w : World) (B : Nat) (v : Value) (us vs : List OV) : Prop := w.ownsRow B 76 2 v us.length (flat us) ∧ ∀ u ∈ us, u ∈ vs
theorem Some_.good {w : World} {B : Nat} {v : Value} {us vs : List OV} (h : Some_ w B v us vs) (g : Good w vs) : Good w us := fun u hu => g u (h.2 u hu)
set_option maxRecDepth 100000 in
set_option maxHeartbeats 8000000 in
theorem rjudge17_any (cf : Array Value) (mine naks maxf draw : Int) (A : Option Addr) (n c : Nat) (vs : List OV) (hcf : cf[21]? = some (.int .i64 maxf)) (hn : vs.length = n) (hn' : n ≤ 4398046511104) (hm : giv64 mine) (hd : giv64 draw)
    (w : World) (hx : Cells w A (flat vs)) (gx : Good w vs) :
    Calls Try.prog 16 #[.agg cf, .int .u64 mine, .slice A n c, .int .i64 naks, .int .u64 draw] w (JudgeTells (judgeF mine naks maxf draw (vs.map OV.opt)) w) := by
  have Hn := Lib.hid hn
  have HX := Lib.hid hx
  have GX := Lib.hid gx
  have HCF := Lib.hid hcf
  have HM := Lib.hid hm
  have HDr := Lib.hid hd
  clear hn hx gx hcf hm hd
  go_enter Try.func16, Try.ntmps16
  go_wp2
  go_loopw [12, 13] (fun b i wr => ∃ (k : Nat) (us : List OV), i = .int .i64 k ∧ k ≤ n ∧ us.length ≤ k ∧ Hid (Some_ wr (w.alloc (.cells cf 25)).heap.size b us vs) ∧ Hid ((jF mine ((vs.map OV.opt).take k)).1 = us.map OV.opt) ∧
    Hid (Below (w.alloc (.cells cf 25)).heap.size (w.alloc (.cells cf 25)) wr)) (fun _ i _ => n - (intOf i).toNat)
  case atStart => exact ⟨0, [], rfl, by omega, by simp, ⟨own_nil _ _ _ _, fun u hu => by simp at hu⟩, rfl, Below.refl _ _⟩
  case round =>
    obtain ⟨k, us, rfl, hk, hul, HO, HE, HB⟩ := hrel
    have X0 : Ext (w.alloc (.cells cf 25)) wr := ⟨HB.out⟩
    have Y0 : Ext w wr := Ext.trans_ inferInstance X0
    obtain ⟨L, cl, rfl, hcl⟩ := own_slice HO.out.1
    by_cases hlt : k < n
    · obtain ⟨v, hv, hvm⟩ := optD (vs := vs) (k := k) (by rw [Hn.out]; exact hlt)
      obtain ⟨ad, rfl, hc0, hc1⟩ := opt_at (HX.out.ext (w' := wr)) hv
      have GV := Lib.hid ((GX.out v hvm).ext (w' := wr))
      have HV : Hid ((vs.map OV.opt)[k]? = some v.opt) := by unfold Hid; rw [List.getElem?_map, hv]; rfl
      have HVM := Lib.hid hvm
      clear hv hvm
      obtain ⟨t, VA, vn, vc, xs⟩ := v
      simp only at hc0 hc1
      by_cases ht : t = 1
      · subst ht
        by_cases h8 : vn = 8
        · subst h8
          have HI : Hid (idOk (1, xs) = true) := idOk_yes GV.out.1
          have HN : Hid (getN xs = idN (1, xs)) := (idN_yes HI.out).symm
          go_wp2_with fail
          refine (number17_any 1 VA 8 vc xs GV.out.1 rfl GV.out.2.2.2.1 _ (by exact GV.out.2.2.2.2.ext)).mono ?_
          rintro e w1 ⟨rfl, hb1⟩
          have S1 : Step w1 _ := ⟨hb1⟩
          have X1 : Ext wr w1 := inferInstance
          replace hc0 := cell_ext (w' := w1) hc0
          replace hc1 := cell_ext (w' := w1) hc1
          clear hb1
          by_cases h0 : idN (1, xs) = 0
          · by_cases hm0 : mine = 0
            · subst hm0
              have HBad : Hid (jBad 0 (((vs.map OV.opt).take k).any fun o => decide (o.1 = 1)) (1, xs) = true) := Lib.hid (by unfold jBad; rw [h0]; simp)
              rw [HN.out, h0]
              clear h0
              go_wp2
              go_loop [14, 15] (fun b j => ∃ j' : Nat, b = .bool false ∧ j = .int .i64 j' ∧ j' ≤ k) (fun _ j => k - (intOf j).toNat)
              case atStart => exact ⟨0, rfl, rfl, by omega⟩
              case round =>
                obtain ⟨j, rfl, rfl, hj⟩ := hrel
                by_cases hjl : j < k
                · go_wp2
                  go_round
                  case rel => exact ⟨j + 1, rfl, by go_num, by omega⟩
                  case measure => simp [intOf]; omega
                ·
                  go_wp2_with
                    (at_builtin
                     refine wp_append_box (w0 := w.alloc (.cells cf 25)) (w.alloc (.cells cf 25)).heap.size rfl (.tmp 66) (.tmp 71) 26 76 (.agg #[.int .i64 0, .slice none 0 0]) 2 32 1 rfl Try.underlying26 info_opt rfl (by decide) (by decide) (.slice L us.length cl) us.length (flat us) [.int .i64 1, .slice VA 8 vc] rfl rfl rfl (flat_one [⟨1, VA, 8, vc, []⟩]) (own_ext HO.out.1) Ext.out Ext.out.size ?_ ?_
                     · omega
                     intro v2 w2 ho2 hb2 hg2 hat2
                     obtain ⟨A2, c2, rfl, hc2⟩ := own_slice ho2
                     have HO2 : Hid (Some_ w2 (w.alloc (.cells cf 25)).heap.size (.slice A2 (us.length + 1) c2) (us ++ [⟨1, VA, 8, vc, xs⟩]) vs) := by
                       refine ⟨?_, fun u hu => ?_⟩
                       · rw [flat_append, List.length_append, List.length_singleton]
                         exact ho2
                       · rcases List.mem_append.1 hu with hu | hu
                         · exact HO.out.2 u hu
                         · simp at hu
                           subst hu
                           exact HVM.out
                     have HB2 := Lib.hid hb2
                     clear ho2 hb2 hg2 hat2)
                  go_roundw
                  case rel =>
                    refine ⟨k + 1, us ++ [⟨1, VA, 8, vc, xs⟩], by go_num, by omega, by simp; omega, HO2, ?_, HB2.out⟩
                    show _ = _
                    rw [jF_next _ HE.out HV.out]
                    refine (if_pos HBad.out).trans ?_
                    rw [List.map_append]
                    rfl
                  case measure => simp [intOf]; omega
            · have HG : Hid (jBad mine false (1, xs) = false) := Lib.hid (by unfold jBad; rw [HI.out]; simp [hm0])
              have hmm : (mine != 0) = true := by simpa using hm0
              rw [HN.out, h0]
              clear h0 hm0
              go_wp2
              go_loop [14, 15] (fun b j => ∃ (j' : Nat) (M : Bool), j = .int .i64 j' ∧ b = .bool (!M) ∧ j' ≤ k ∧ Hid (((vs.map OV.opt).take j').any (fun o => decide (o.1 = 1)) = M)) (fun _ j => k - (intOf j).toNat)
              case atStart => exact ⟨0, false, rfl, rfl, by omega, rfl⟩
              case round =>
                obtain ⟨j, M, rfl, rfl, hj, HM1⟩ := hrel
                by_cases hjl : j < k
                · cases M with
                  | true =>
                    obtain ⟨v, hv, _⟩ := optD (vs := vs) (k := j) (by rw [Hn.out]; omega)
                    have HA : Hid (((vs.map OV.opt).take (j + 1)).any (fun o => decide (o.1 = 1)) = true) := by
                      unfold Hid
                      rw [any_take (o := v.opt) (by rw [List.getElem?_map, hv]; rfl), HM1.out]
                      rfl
                    clear hv
                    simp only [Bool.not_true]
                    go_wp2
                    go_round
                    case rel => exact ⟨j + 1, true, by go_num, rfl, by omega, HA.out⟩
                    case measure => simp [intOf]; omega
                  | false =>
                    obtain ⟨v, hv, _⟩ := optD (vs := vs) (k := j) (by rw [Hn.out]; omega)
                    obtain ⟨ad, he, hd0, hd1⟩ := opt_at (HX.out.ext (w' := w1)) hv
                    injection he with he
                    subst he
                    have HA : Hid (((vs.map OV.opt).take (j + 1)).any (fun o => decide (o.1 = 1)) = decide (v.t = 1)) := by
                      unfold Hid
                      rw [any_take (o := v.opt) (by rw [List.getElem?_map, hv]; rfl), HM1.out]
                      rfl
                    clear hv hd1
                    obtain ⟨s, UA, un, uc, ys⟩ := v
                    simp only at hd0
                    simp only [Bool.not_false]
                    by_cases hs : s = 1
                    · subst hs
                      go_wp2
                      go_round
                      case rel => exact ⟨j + 1, true, by go_num, rfl, by omega, by rw [HA.out]; rfl⟩
                      case measure => simp [intOf]; omega
                    · have hs' : (s != 1) = true := by simpa using hs
                      have HS1 := Lib.hid hs
                      clear hs
                      go_wp2
                      go_round
                      case rel => exact ⟨j + 1, false, by go_num, rfl, by omega, Lib.hid (by rw [HA.out]; simp [HS1.out])⟩
                      case measure => simp [intOf]; omega
                · obtain rfl : k = j := by omega
                  cases M with
                  | true =>
                    have HBad : Hid (jBad mine (((vs.map OV.opt).take k).any fun o => decide (o.1 = 1)) (1, xs) = true) := by rw [HM1.out]; exact jBad_met _ _
                    simp only [Bool.not_true]
                    go_wp2_with
                      (at_builtin
                       refine wp_append_box (w0 := w.alloc (.cells cf 25)) (w.alloc (.cells cf 25)).heap.size rfl (.tmp 66) (.tmp 71) 26 76 (.agg #[.int .i64 0, .slice none 0 0]) 2 32 1 rfl Try.underlying26 info_opt rfl (by decide) (by decide) (.slice L us.length cl) us.length (flat us) [.int .i64 1, .slice VA 8 vc] rfl rfl rfl (flat_one [⟨1, VA, 8, vc, []⟩]) (own_ext HO.out.1) Ext.out Ext.out.size ?_ ?_
                       · omega
                       intro v2 w2 ho2 hb2 hg2 hat2
                       obtain ⟨A2, c2, rfl, hc2⟩ := own_slice ho2
                       have HO2 : Hid (Some_ w2 (w.alloc (.cells cf 25)).heap.size (.slice A2 (us.length + 1) c2) (us ++ [⟨1, VA, 8, vc, xs⟩]) vs) := by
                         refine ⟨?_, fun u hu => ?_⟩
                         · rw [flat_append, List.length_append, List.length_singleton]
                           exact ho2
                         · rcases List.mem_append.1 hu with hu | hu
                           · exact HO.out.2 u hu
                           · simp at hu
                             subst hu
                             exact HVM.out
                       have HB2 := Lib.hid hb2
                       clear ho2 hb2 hg2 hat2)
                    go_roundw
                    case rel =>
                      refine ⟨k + 1, us ++ [⟨1, VA, 8, vc, xs⟩], by go_num, by omega, by simp; omega, HO2, ?_, HB2.out⟩
                      show _ = _
                      rw [jF_next _ HE.out HV.out]
                      refine (if_pos HBad.out).trans ?_
                      rw [List.map_append]
                      rfl
                    case measure => simp [intOf]; omega
                  | false =>
                    have HFine : Hid (jBad mine (((vs.map OV.opt).take k).any fun o => decide (o.1 = 1)) (1, xs) = false) := by rw [HM1.out]; exact HG.out
                    simp only [Bool.not_false]
                    go_wp2
                    go_roundw
                    case rel =>
                      refine ⟨k + 1, us, by go_num, by omega, by omega, (by exact ⟨own_ext HO.out.1, HO.out.2⟩), ?_, Ext.out⟩
                      show _ = _
                      rw [jF_next _ HE.out HV.out]
                      exact if_neg (by intro h; have := HFine.out; simp only [OV.opt] at h; rw [this] at h; cases h)
                    case measure => simp [intOf]; omega
          · have HG : Hid (jBad mine false (1, xs) = false) := Lib.hid (by unfold jBad; rw [HI.out]; simp [h0])
            have h00 : (idN (1, xs) != 0) = true := by simpa using h0
            rw [HN.out]
            clear h0
            generalize idN (1, xs) = N at *
            go_wp2
            go_loop [14, 15] (fun b j => ∃ (j' : Nat) (M : Bool), j = .int .i64 j' ∧ b = .bool (!M) ∧ j' ≤ k ∧ Hid (((vs.map OV.opt).take j').any (fun o => decide (o.1 = 1)) = M)) (fun _ j => k - (intOf j).toNat)
            case atStart => exact ⟨0, false, rfl, rfl, by omega, rfl⟩
            case round =>
              obtain ⟨j, M, rfl, rfl, hj, HM1⟩ := hrel
              by_cases hjl : j < k
              · cases M with
                | true =>
                  obtain ⟨v, hv, _⟩ := optD (vs := vs) (k := j) (by rw [Hn.out]; omega)
                  have HA : Hid (((vs.map OV.opt).take (j + 1)).any (fun o => decide (o.1 = 1)) = true) := by
                    unfold Hid
                    rw [any_take (o := v.opt) (by rw [List.getElem?_map, hv]; rfl), HM1.out]
                    rfl
                  clear hv
                  simp only [Bool.not_true]
                  go_wp2
                  go_round
                  case rel => exact ⟨j + 1, true, by go_num, rfl, by omega, HA.out⟩
                  case measure => simp [intOf]; omega
                | false =>
                  obtain ⟨v, hv, _⟩ := optD (vs := vs) (k := j) (by rw [Hn.out]; omega)
                  obtain ⟨ad, he, hd0, hd1⟩ := opt_at (HX.out.ext (w' := w1)) hv
                  injection he with he
                  subst he
                  have HA : Hid (((vs.map OV.opt).take (j + 1)).any (fun o => decide (o.1 = 1)) = decide (v.t = 1)) := by
                    unfold Hid
                    rw [any_take (o := v.opt) (by rw [List.getElem?_map, hv]; rfl), HM1.out]
                    rfl
                  clear hv hd1
                  obtain ⟨s, UA, un, uc, ys⟩ := v
                  simp only at hd0
                  simp only [Bool.not_false]
                  by_cases hs : s = 1
                  · subst hs
                    go_wp2
                    go_round
                    case rel => exact ⟨j + 1, true, by go_num, rfl, by omega, by rw [HA.out]; rfl⟩
                    case measure => simp [intOf]; omega
                  · have hs' : (s != 1) = true := by simpa using hs
                    have HS1 := Lib.hid hs
                    clear hs
                    go_wp2
                    go_round
                    case rel => exact ⟨j + 1, false, by go_num, rfl, by omega, Lib.hid (by rw [HA.out]; simp [HS1.out])⟩
                    case measure => simp [intOf]; omega
              · obtain rfl : k = j := by omega
                cases M with
                | true =>
                  have HBad : Hid (jBad mine (((vs.map OV.opt).take k).any fun o => decide (o.1 = 1)) (1, xs) = true) := by rw [HM1.out]; exact jBad_met _ _
                  simp only [Bool.not_true]
                  go_wp2_with
                    (at_builtin
                     refine wp_append_box (w0 := w.alloc (.cells cf 25)) (w.alloc (.cells cf 25)).heap.size rfl (.tmp 66) (.tmp 71) 26 76 (.agg #[.int .i64 0, .slice none 0 0]) 2 32 1 rfl Try.underlying26 info_opt rfl (by decide) (by decide) (.slice L us.length cl) us.length (flat us) [.int .i64 1, .slice VA 8 vc] rfl rfl rfl (flat_one [⟨1, VA, 8, vc, []⟩]) (own_ext HO.out.1) Ext.out Ext.out.size ?_ ?_
                     · omega
                     intro v2 w2 ho2 hb2 hg2 hat2
                     obtain ⟨A2, c2, rfl, hc2⟩ := own_slice ho2
                     have HO2 : Hid (Some_ w2 (w.alloc (.cells cf 25)).heap.size (.slice A2 (us.length + 1) c2) (us ++ [⟨1, VA, 8, vc, xs⟩]) vs) := by
                       refine ⟨?_, fun u hu => ?_⟩
                       · rw [flat_append, List.length_append, List.length_singleton]
                         exact ho2
                       · rcases List.mem_append.1 hu with hu | hu
                         · exact HO.out.2 u hu
                         · simp at hu
                           subst hu
                           exact HVM.out
                     have HB2 := Lib.hid hb2
                     clear ho2 hb2 hg2 hat2)
                  go_roundw
                  case rel =>
                    refine ⟨k + 1, us ++ [⟨1, VA, 8, vc, xs⟩], by go_num, by omega, by simp; omega, HO2, ?_, HB2.out⟩
                    show _ = _
                    rw [jF_next _ HE.out HV.out]
                    refine (if_pos HBad.out).trans ?_
                    rw [List.map_append]
                    rfl
                  case measure => simp [intOf]; omega
                | false =>
                  have HFine : Hid (jBad mine (((vs.map OV.opt).take k).any fun o => decide (o.1 = 1)) (1, xs) = false) := by rw [HM1.out]; exact HG.out
                  simp only [Bool.not_false]
                  go_wp2
                  go_roundw
                  case rel =>
                    refine ⟨k + 1, us, by go_num, by omega, by omega, (by exact ⟨own_ext HO.out.1, HO.out.2⟩), ?_, Ext.out⟩
                    show _ = _
                    rw [jF_next _ HE.out HV.out]
                    exact if_neg (by intro h; have := HFine.out; simp only [OV.opt] at h; rw [this] at h; cases h)
                  case measure => simp [intOf]; omega
        · have h8' : ((vn : Int) == 8) = false := by rw [beq_eq_false_iff_ne]; omega
          have HI : Hid (idOk (1, xs) = false) := idOk_len (by have := GV.out.1; simp only at this; omega)
          have HBad : Hid (jBad mine (((vs.map OV.opt).take k).any fun o => decide (o.1 = 1)) (1, xs) = true) := Lib.hid (by unfold jBad; rw [HI.out]; simp)
          clear h8
          go_wp2
          go_loop [14, 15] (fun b j => ∃ j' : Nat, b = .bool false ∧ j = .int .i64 j' ∧ j' ≤ k) (fun _ j => k - (intOf j).toNat)
          case atStart => exact ⟨0, rfl, rfl, by omega⟩
          case round =>
            obtain ⟨j, rfl, rfl, hj⟩ := hrel
            by_cases hjl : j < k
            · go_wp2
              go_round
              case rel => exact ⟨j + 1, rfl, by go_num, by omega⟩
              case measure => simp [intOf]; omega
            ·
              go_wp2_with
                (at_builtin
                 refine wp_append_box (w0 := w.alloc (.cells cf 25)) (w.alloc (.cells cf 25)).heap.size rfl (.tmp 66) (.tmp 71) 26 76 (.agg #[.int .i64 0, .slice none 0 0]) 2 32 1 rfl Try.underlying26 info_opt rfl (by decide) (by decide) (.slice L us.length cl) us.length (flat us) [.int .i64 1, .slice VA vn vc] rfl rfl rfl (flat_one [⟨1, VA, vn, vc, []⟩]) (own_ext HO.out.1) Ext.out Ext.out.size ?_ ?_
                 · omega
                 intro v2 w2 ho2 hb2 hg2 hat2
                 obtain ⟨A2, c2, rfl, hc2⟩ := own_slice ho2
                 have HO2 : Hid (Some_ w2 (w.alloc (.cells cf 25)).heap.size (.slice A2 (us.length + 1) c2) (us ++ [⟨1, VA, vn, vc, xs⟩]) vs) := by
                   refine ⟨?_, fun u hu => ?_⟩
                   · rw [flat_append, List.length_append, List.length_singleton]
                     exact ho2
                   · rcases List.mem_append.1 hu with hu | hu
                     · exact HO.out.2 u hu
                     · simp at hu
                       subst hu
                       exact HVM.out
                 have HB2 := Lib.hid hb2
                 clear ho2 hb2 hg2 hat2)
              go_roundw
              case rel =>
                refine ⟨k + 1, us ++ [⟨1, VA, vn, vc, xs⟩], by go_num, by omega, by simp; omega, HO2, ?_, HB2.out⟩
                show _ = _
                rw [jF_next _ HE.out HV.out]
                refine (if_pos HBad.out).trans ?_
                rw [List.map_append]
                rfl
              case measure => simp [intOf]; omega
      · have ht' : (t == 1) = false := by simpa using ht
        have HI : Hid (idOk (t, xs) = false) := idOk_type ht
        have HBad : Hid (jBad mine (((vs.map OV.opt).take k).any fun o => decide (o.1 = 1)) (t, xs) = true) := Lib.hid (by unfold jBad; rw [HI.out]; simp)
        clear ht
        go_wp2
        go_loop [14, 15] (fun b j => ∃ j' : Nat, b = .bool false ∧ j = .int .i64 j' ∧ j' ≤ k) (fun _ j => k - (intOf j).toNat)
        case atStart => exact ⟨0, rfl, rfl, by omega⟩
        case round =>
          obtain ⟨j, rfl, rfl, hj⟩ := hrel
          by_cases hjl : j < k
          · go_wp2
            go_round
            case rel => exact ⟨j + 1, rfl, by go_num, by omega⟩
            case measure => simp [intOf]; omega
          ·
            go_wp2_with
              (at_builtin
               refine wp_append_box (w0 := w.alloc (.cells cf 25)) (w.alloc (.cells cf 25)).heap.size rfl (.tmp 66) (.tmp 71) 26 76 (.agg #[.int .i64 0, .slice none 0 0]) 2 32 1 rfl Try.underlying26 info_opt rfl (by decide) (by decide) (.slice L us.length cl) us.length (flat us) [.int .i64 t, .slice VA vn vc] rfl rfl rfl (flat_one [⟨t, VA, vn, vc, []⟩]) (own_ext HO.out.1) Ext.out Ext.out.size ?_ ?_
               · omega
               intro v2 w2 ho2 hb2 hg2 hat2
               obtain ⟨A2, c2, rfl, hc2⟩ := own_slice ho2
               have HO2 : Hid (Some_ w2 (w.alloc (.cells cf 25)).heap.size (.slice A2 (us.length + 1) c2) (us ++ [⟨t, VA, vn, vc, xs⟩]) vs) := by
                 refine ⟨?_, fun u hu => ?_⟩
                 · rw [flat_append, List.length_append, List.length_singleton]
                   exact ho2
                 · rcases List.mem_append.1 hu with hu | hu
                   · exact HO.out.2 u hu
                   · simp at hu
                     subst hu
                     exact HVM.out
               have HB2 := Lib.hid hb2
               clear ho2 hb2 hg2 hat2)
            go_roundw
            case rel =>
              refine ⟨k + 1, us ++ [⟨t, VA, vn, vc, xs⟩], by go_num, by omega, by simp; omega, HO2, ?_, HB2.out⟩
              show _ = _
              rw [jF_next _ HE.out HV.out]
              refine (if_pos HBad.out).trans ?_
              rw [List.map_append]
              rfl
            case measure => simp [intOf]; omega
    · obtain rfl : n = k := by omega
      have hJ := HE.out
      rw [List.take_of_length_le (by rw [List.length_map, Hn.out]; omega)] at hJ
      have GU := Lib.hid (Some_.good HO.out GX.out.ext)
      have hmf : wr.cell? ⟨w.heap.size, 21, none⟩ = some (.int .i64 maxf) := by
        have h1 := at_cell (at_ext (w' := wr) (at_new w (.cells cf 25))) 21
        rw [h1]
        exact HCF.out
      have HGv := Lib.hid (givF_good HDr.out HM.out)
      by_cases hu0 : 0 < us.length
      · have HJ : Hid (judgeF mine naks maxf draw (vs.map OV.opt) = (4, us.map OV.opt)) := by
          unfold Hid judgeF
          rw [hJ]
          have : us.map OV.opt ≠ [] := by intro h; have := congrArg List.length h; simp at this; subst this; simp at hu0
          simp only [ne_eq, this, not_false_iff, if_true]
        have hu1 : (0 : Int) < (us.length : Int) := by omega
        clear hJ
        go_wp2_with fail
        refine (lent9_any L us.length cl us rfl (by omega) _ (by exact own_cells (own_ext HO.out.1)) (by exact GU.out.ext)).mono ?_
        rintro e w2 ⟨v, us2, rfl, ho2, hu2, hb2⟩
        have S2 : Step w2 _ := ⟨hb2⟩
        have HO2 := Lib.hid (OptsOwn.weaken (b' := w.heap.size) Ext.out.size ho2)
        have HU2 := Lib.hid hu2
        clear ho2 hu2 hb2
        go_wp2
        go_ret2
        exact judge_of HJ.out HO2.out HU2.out Ext.out
      · have hus : us = [] := List.eq_nil_of_length_eq_zero (by omega)
        subst hus
        have hfine := jF_fine (mine := mine) (os := vs.map OV.opt) (by rw [hJ]; rfl)
        clear hu0 hJ
        rcases hfine with ⟨hnil, heq⟩ | ⟨o, hone, hok, hne, heq⟩
        · have hn0 : n = 0 := by have h1 := congrArg List.length hnil; rw [List.length_map, Hn.out] at h1; exact h1
          subst hn0
          by_cases hk0 : naks = 0
          · subst hk0
            have HJ : Hid (judgeF mine 0 maxf draw (vs.map OV.opt) = (3, [(1, be (givF draw mine) 8)])) := by unfold Hid judgeF; rw [heq]; simp
            clear heq hnil
            go_wp2_with fail
            refine (rgiven_any draw mine HDr.out.1 HDr.out.2 HM.out.1 HM.out.2 _).mono ?_
            rintro e w4 ⟨rfl, rfl⟩
            go_wp2_with fail
            refine (ropts17_any _ HGv.out.1.1 HGv.out.1.2 _).mono ?_
            rintro e w2 ⟨v, us2, rfl, ho2, hu2, hb2⟩
            have S2 : Step w2 _ := ⟨hb2⟩
            have HO2 := Lib.hid (OptsOwn.weaken (b' := w.heap.size) Ext.out.size ho2)
            have HU2 := Lib.hid hu2
            clear ho2 hu2 hb2
            go_wp2
            go_ret2
            exact judge_of HJ.out HO2.out HU2.out Ext.out
          · have hk0' : (naks == 0) = false := by simpa using hk0
            have HJ : Hid (judgeF mine naks maxf draw (vs.map OV.opt) = (2, [])) := by unfold Hid judgeF; rw [heq]; simp [hk0, hnil]
            clear heq hnil hk0
            go_wp2
            go_ret2
            exact judge_of HJ.out (OptsOwn.nil_ _ _) rfl Ext.out
        · obtain ⟨v, rfl, rfl⟩ : ∃ v : OV, vs = [v] ∧ v.opt = o := by
            match vs, hone with
            | [v], h => simp at h; exact ⟨v, rfl, h⟩
          obtain rfl : n = 1 := Hn.out.symm
          obtain ⟨ad, rfl, hc0, hc1⟩ := opt_at (k := 0) (HX.out.ext (w' := wr)) rfl
          have GV := Lib.hid ((GX.out v (by simp)).ext (w' := wr))
          obtain ⟨t, VA, vn, vc, xs⟩ := v
          have hc0' : wr.cell? ad = some (.int .i64 t) := hc0
          have hc1' : wr.cell? ⟨ad.block, ad.off + 1, none⟩ = some (.slice VA vn vc) := hc1
          simp only [OV.opt] at hok hne heq
          have h8 : vn = 8 := by have h1 := hok; unfold idOk at h1; simp at h1; have := GV.out.1; simp only at this; omega
          subst h8
          have HN : Hid (getN xs = idN (t, xs)) := (idN_yes hok).symm
          clear hc0 hc1 hone hok
          go_wp2_with fail
          refine (number17_any t VA 8 vc xs GV.out.1 rfl GV.out.2.2.2.1 _ (by exact GV.out.2.2.2.2.ext)).mono ?_
          rintro e w1 ⟨rfl, hb1⟩
          rw [HN.out]
          have S1 : Step w1 _ := ⟨hb1⟩
          have X1 : Ext wr w1 := inferInstance
          have hmf1 : w1.cell? ⟨w.heap.size, 21, none⟩ = some (.int .i64 maxf) := cell_ext hmf
          clear hb1 hc0' hc1' hmf HN
          generalize idN (t, xs) = N at *
          have HEQ : Hid (jF mine [(t, xs)] = ([], true, N)) := heq
          clear heq
          by_cases h0 : N = 0
          · subst h0
            clear hne
            by_cases hk : naks < maxf
            · have HJ : Hid (judgeF mine naks maxf draw ([(⟨t, VA, 8, vc, xs⟩ : OV)].map OV.opt) = (3, [(1, be (givF draw mine) 8)])) := by unfold Hid judgeF; simp only [List.map_cons, List.map_nil, OV.opt]; rw [HEQ.out]; simp [hk]
              go_wp2_with fail
              refine (rgiven_any draw mine HDr.out.1 HDr.out.2 HM.out.1 HM.out.2 _).mono ?_
              rintro e w4 ⟨rfl, rfl⟩
              go_wp2_with fail
              refine (ropts17_any _ HGv.out.1.1 HGv.out.1.2 _).mono ?_
              rintro e w2 ⟨v, us2, rfl, ho2, hu2, hb2⟩
              have S2 : Step w2 _ := ⟨hb2⟩
              have HO2 := Lib.hid (OptsOwn.weaken (b' := w.heap.size) Ext.out.size ho2)
              have HU2 := Lib.hid hu2
              clear ho2 hu2 hb2
              go_wp2
              go_ret2
              exact judge_of HJ.out HO2.out HU2.out Ext.out
            · have HJ : Hid (judgeF mine naks maxf draw ([(⟨t, VA, 8, vc, xs⟩ : OV)].map OV.opt) = (4, [(t, xs)])) := by unfold Hid judgeF; simp only [List.map_cons, List.map_nil, OV.opt]; rw [HEQ.out]; simp [hk]
              go_wp2_with fail
              refine (lent9_any _ 1 c [⟨t, VA, 8, vc, xs⟩] rfl (by omega) _ (by exact HX.out.ext) (by exact GX.out.ext)).mono ?_
              rintro e w2 ⟨v, us2, rfl, ho2, hu2, hb2⟩
              have S2 : Step w2 _ := ⟨hb2⟩
              have HO2 := Lib.hid (OptsOwn.weaken (b' := w.heap.size) Ext.out.size ho2)
              have HU2 := Lib.hid hu2
              clear ho2 hu2 hb2
              go_wp2
              go_ret2
              exact judge_of HJ.out HO2.out HU2.out Ext.out
          · have h00 : (N != 0) = true := by simpa using h0
            by_cases hm0 : N = mine
            · obtain rfl : mine = N := hm0.symm
              clear hne
              by_cases hk : naks < maxf
              · have HJ : Hid (judgeF mine naks maxf draw ([(⟨t, VA, 8, vc, xs⟩ : OV)].map OV.opt) = (3, [(1, be (givF draw mine) 8)])) := by unfold Hid judgeF; simp only [List.map_cons, List.map_nil, OV.opt]; rw [HEQ.out]; simp [hk]
                go_wp2_with fail
                refine (rgiven_any draw mine HDr.out.1 HDr.out.2 HM.out.1 HM.out.2 _).mono ?_
                rintro e w4 ⟨rfl, rfl⟩
                go_wp2_with fail
                refine (ropts17_any _ HGv.out.1.1 HGv.out.1.2 _).mono ?_
                rintro e w2 ⟨v, us2, rfl, ho2, hu2, hb2⟩
                have S2 : Step w2 _ := ⟨hb2⟩
                have HO2 := Lib.hid (OptsOwn.weaken (b' := w.heap.size) Ext.out.size ho2)
                have HU2 := Lib.hid hu2
                clear ho2 hu2 hb2
                go_wp2
                go_ret2
                exact judge_of HJ.out HO2.out HU2.out Ext.out
              · have HJ : Hid (judgeF mine naks maxf draw ([(⟨t, VA, 8, vc, xs⟩ : OV)].map OV.opt) = (4, [(t, xs)])) := by unfold Hid judgeF; simp only [List.map_cons, List.map_nil, OV.opt]; rw [HEQ.out]; simp [hk]
                go_wp2_with fail
                refine (lent9_any _ 1 c [⟨t, VA, 8, vc, xs⟩] rfl (by omega) _ (by exact HX.out.ext) (by exact GX.out.ext)).mono ?_
                rintro e w2 ⟨v, us2, rfl, ho2, hu2, hb2⟩
                have S2 : Step w2 _ := ⟨hb2⟩
                have HO2 := Lib.hid (OptsOwn.weaken (b' := w.heap.size) Ext.out.size ho2)
                have HU2 := Lib.hid hu2
                clear ho2 hu2 hb2
                go_wp2
                go_ret2
                exact judge_of HJ.out HO2.out HU2.out Ext.out
            · have hm1 : (N != mine) = true := by simpa using hm0
              have HJ : Hid (judgeF mine naks maxf draw ([(⟨t, VA, 8, vc, xs⟩ : OV)].map OV.opt) = (2, [(t, xs)])) := by unfold Hid judgeF; simp only [List.map_cons, List.map_nil, OV.opt]; rw [HEQ.out]; simp [h0, hm0]
              clear h0 hm0
              go_wp2_with fail
              refine (lent9_any _ 1 c [⟨t, VA, 8, vc, xs⟩] rfl (by omega) _ (by exact HX.out.ext) (by exact GX.out.ext)).mono ?_
              rintro e w2 ⟨v, us2, rfl, ho2, hu2, hb2⟩
              have S2 : Step w2 _ := ⟨hb2⟩
              have HO2 := Lib.hid (OptsOwn.weaken (b' := w.heap.size) Ext.out.size ho2)
              have HU2 := Lib.hid hu2
              clear ho2 hu2 hb2
              go_wp2
              go_ret2
              exact judge_of HJ.out HO2.out HU2.out Ext.out
end Go.Proofs.Ytmopdimokoogmaa
