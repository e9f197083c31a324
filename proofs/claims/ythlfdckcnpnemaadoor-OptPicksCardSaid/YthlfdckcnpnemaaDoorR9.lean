/-
  The reference's lists of options: what Lent, Subset, place, Fits and Spoil tell. No condition beyond sizes.
-/
import Derived.Test.YthlfdckcnpnemaaDoorOptW
import Derived.Test.YthlfdckcnpnemaaDoorOptSub
namespace Go.Proofs.YthlfdckcnpnemaaDoor
open Go.RowKit
set_option linter.unusedVariables false
set_option linter.unusedSimpArgs false

def LentTells (os : List (Int × List Int)) (w : World) (e : Ending) (w' : World) : Prop :=
  ∃ v us, e = .returned v ∧ OptsOwn w' w.heap.size v us ∧ us.map OV.opt = os ∧ Below w.heap.size w w'
set_option maxRecDepth 100000 in
set_option maxHeartbeats 4000000 in
theorem lent9_any (A : Option Addr) (n c : Nat) (vs : List OV) (hn : vs.length = n) (hn' : n ≤ 4398046511104) (w : World) (hx : Cells w A (flat vs)) (gx : Good w vs) :
    Calls Tryd.prog 12 #[.slice A n c] w (LentTells (vs.map OV.opt) w) := by
  have Hn := Lib.hid hn
  have HX := Lib.hid hx
  have GX := Lib.hid gx
  clear hn hx gx
  go_enter Tryd.func12, Tryd.ntmps12
  go_wp2
  go_loopw [3, 4] (fun o i wr => ∃ (k : Nat) (us : List OV), i = .int .i64 k ∧ k ≤ n ∧ us.length ≤ k ∧ Hid (OptsOwn wr w.heap.size o us) ∧ Hid (us.map OV.opt = (vs.map OV.opt).take k) ∧ Hid (Below w.heap.size w wr)) (fun _ i _ => n - (intOf i).toNat)
  case atStart => exact ⟨0, [], rfl, by omega, by simp, OptsOwn.nil_ _ _, rfl, Below.refl _ _⟩
  case round =>
    obtain ⟨k, us, rfl, hk, hu, HO, HE, HB⟩ := hrel
    have X0 : Ext w wr := ⟨HB.out⟩
    obtain ⟨L, cl, rfl, hcl⟩ := own_slice HO.out.1
    by_cases hlt : k < n
    · obtain ⟨v, hv, hvm⟩ := optD (vs := vs) (k := k) (by rw [Hn.out]; exact hlt)
      obtain ⟨ad, rfl, hc0, hc1⟩ := opt_at (HX.out.ext (w' := wr)) hv
      have GV := Lib.hid (GX.out v hvm)
      have HT : Hid ((vs.map OV.opt).take (k + 1) = (vs.map OV.opt).take k ++ [v.opt]) := take_snoc (by rw [List.getElem?_map, hv]; rfl)
      clear hv hvm
      obtain ⟨t, VA, vn, vc, xs⟩ := v
      simp only at hc0 hc1
      have HXL : Hid (xs.length = vn) := GV.out.1
      have HVN : Hid (vn ≤ 140737488355300) := GV.out.2.2.1
      have hd1 : (wr.alloc (.cells #[.int .i64 t, .slice none 0 0] 34)).cell? ⟨(ad.add (k * 2)).block, (ad.add (k * 2)).off + 1, none⟩ = some (.slice VA vn vc) := cell_ext hc1
      go_wp2
      go_region_law
        (refine step_append (wr.heap.size + 1) rfl (.tmp 19) (.tmp 24) 22 5 (.int .u8 0) 1 1 rfl Tryd.underlying22 info_u8 rfl (by decide) (by decide) (.slice none 0 0) 0 [] VA vn vc (nums .u8 xs) rfl rfl ?d5 ?d1 ?d0 ?d2 ?d3 ?d4 ?_
         (case d5 => rw [nums_length, HXL.out, Nat.mul_one])
         (case d1 => exact nums_one _ _)
         (case d0 => exact own_nil _ _ _ _)
         (case d2 => exact Cells.ext GV.out.2.2.2.2)
         (case d3 => simp)
         (case d4 => have := HVN.out; omega)
         intro v1 w1 ho1 hg1 hat1
         have S1 : Step w1 _ := ⟨below_of_grown hg1 (Nat.le_refl _) (fun k hk => by cases hk)⟩
         rw [List.nil_append, Nat.zero_add] at ho1
         obtain ⟨A1, c1, rfl, hc1'⟩ := own_slice ho1
         have P0 := at_ext (w' := w1) (at_new wr (.cells #[.int .i64 t, .slice none 0 0] 34))
         have p0 : w1.cell? ⟨wr.heap.size, 0, none⟩ = some (.int .i64 t) := at_cell P0 0
         have p1 : w1.cell? ⟨wr.heap.size, 1, none⟩ = some (.slice none 0 0) := at_cell P0 1
         have f1 := at_frozen P0 1
         have q0 : (w1.setCell ⟨wr.heap.size, 1, none⟩ (.slice A1 vn c1)).cell? ⟨wr.heap.size, 0, none⟩ = some (.int .i64 t) := at_cell (at_set P0 1 (.slice A1 vn c1)) 0
         have q1 : (w1.setCell ⟨wr.heap.size, 1, none⟩ (.slice A1 vn c1)).cell? ⟨wr.heap.size, 1, none⟩ = some (.slice A1 vn c1) := at_cell (at_set P0 1 (.slice A1 vn c1)) 1
         have X1 : Ext wr w1 := inferInstance
         have HO1 := Lib.hid ho1
         clear P0 ho1 hg1 hat1 hc1')
      all_goals
        go_wp2_with
          (at_builtin
           refine wp_append_box2 (w0 := w) w1.heap.size (by simp) w.heap.size rfl (.tmp 27) (.tmp 29) 30 34 (.agg #[.int .i64 0, .slice none 0 0]) 2 32 1 rfl Tryd.underlying30 info_opt rfl (by decide) (by decide) (.slice L us.length cl) us.length (flat us) [.int .i64 t, .slice A1 vn c1] rfl rfl rfl (flat_one [⟨t, A1, vn, c1, []⟩]) (own_ext HO.out.1) Ext.out Ext.out.size ?_ ?_
           · omega
           intro v2 w2 ho2 hb2 hg2 hat2
           obtain ⟨A2, c2, rfl, hc2⟩ := own_slice ho2
           have HO2 := Lib.hid (OptsOwn.push (u := ⟨t, A1, vn, c1, xs⟩) HO.out X0.out.size inferInstance (own_weaken (base' := wr.heap.size) (own_young HO1.out (by show wr.heap.size < _; omega)) (by omega)) ⟨GV.out.1, GV.out.2.2.1, GV.out.2.2.2.1⟩ ho2 hg2 hat2)
           have HB2 := Lib.hid hb2
           clear ho2 hb2 hg2 hat2)
        go_roundw
        all_goals first
          | (refine ⟨k + 1, us ++ [⟨t, A1, vn, c1, xs⟩], by go_num, by omega, by simp; omega, ?_, ?_, HB2.out⟩
             · exact HO2.out
             · show _ = _
               rw [HT.out, ← HE.out, List.map_append]
               rfl)
          | (simp [intOf]; omega)
    · go_wp2
      go_ret
      obtain rfl : k = n := by omega
      refine ⟨_, us, rfl, HO.out, ?_, HB.out⟩
      rw [HE.out, List.take_of_length_le (by rw [List.length_map, Hn.out]; omega)]

def placeF (os : List (Int × List Int)) (t : Int) : Int :=
  match os.findIdx? (fun o => o.1 == t) with
  | some i => (i : Int)
  | none => -1
theorem placeF_at {os : List (Int × List Int)} {t : Int} {k : Nat} {o : Int × List Int} (h : ∀ x ∈ os.take k, x.1 ≠ t) (ho : os[k]? = some o) (ht : o.1 = t) : placeF os t = k := by
  unfold placeF
  have hk : k < os.length := (List.getElem?_eq_some_iff.1 ho).1
  have : os.findIdx? (fun o => o.1 == t) = some k := by
    rw [List.findIdx?_eq_some_iff_getElem]
    refine ⟨hk, ?_, fun j hj => ?_⟩
    · rw [List.getElem?_eq_getElem hk] at ho
      injection ho with ho
      rw [ho]
      simpa using ht
    · have hm : os[j] ∈ os.take k := by
        rw [List.mem_take_iff_getElem]
        exact ⟨j, by omega, rfl⟩
      simpa using h _ hm
  rw [this]
theorem placeF_none {os : List (Int × List Int)} {t : Int} (h : ∀ x ∈ os, x.1 ≠ t) : placeF os t = -1 := by
  unfold placeF
  have : os.findIdx? (fun o => o.1 == t) = none := by
    rw [List.findIdx?_eq_none_iff]
    intro x hx
    simpa using h x hx
  rw [this]
set_option maxRecDepth 100000 in
set_option maxHeartbeats 1000000 in
theorem place_any (A : Option Addr) (n c : Nat) (vs : List OV) (t : Int) (hn : vs.length = n) (hn' : n ≤ 4398046511104) (w : World) (hx : Cells w A (flat vs)) :
    Calls Tryd.prog 38 #[.slice A n c, .int .i64 t] w fun e w' => e = .returned (.int .i64 (placeF (vs.map OV.opt) t)) ∧ w = w' := by
  have Hn := Lib.hid hn
  have HX := Lib.hid hx
  clear hn hx
  go_enter Tryd.func38, Tryd.ntmps38
  go_wp2
  go_loop [5] (fun i => ∃ k : Nat, i = .int .i64 k ∧ k ≤ n ∧ Hid (∀ x ∈ (vs.map OV.opt).take k, x.1 ≠ t)) (fun i => n - (intOf i).toNat)
  case atStart => exact ⟨0, rfl, by omega, fun x hx => by simp at hx⟩
  case round =>
    obtain ⟨k, rfl, hk, HT⟩ := hrel
    by_cases hlt : k < n
    · obtain ⟨v, hv, hvm⟩ := optD (vs := vs) (k := k) (by rw [Hn.out]; exact hlt)
      obtain ⟨ad, rfl, hc0, hc1⟩ := opt_at HX.out hv
      have HV : Hid ((vs.map OV.opt)[k]? = some v.opt) := by unfold Hid; rw [List.getElem?_map, hv]; rfl
      clear hv hvm hc1
      obtain ⟨s, VA, vn, vc, xs⟩ := v
      simp only at hc0
      by_cases he : s = t
      · subst he
        have HP := Lib.hid (placeF_at HT.out HV.out rfl)
        go_wp2
        go_ret
        exact ⟨by rw [HP.out]; rfl, rfl⟩
      · have he' : (s == t) = false := by simpa using he
        have HN : Hid (∀ x ∈ (vs.map OV.opt).take (k + 1), x.1 ≠ t) := by
          intro x hx
          rw [take_snoc HV.out, List.mem_append] at hx
          rcases hx with hx | hx
          · exact HT.out x hx
          · simp at hx
            subst hx
            exact he
        clear he
        go_wp2
        go_round
        case rel => exact ⟨k + 1, by go_num, by omega, HN⟩
        case measure => simp [intOf]; omega
    · obtain rfl : k = n := by omega
      have HP : Hid (placeF (vs.map OV.opt) t = -1) := placeF_none (fun x hx => HT.out x (by rw [List.take_of_length_le (by rw [List.length_map, Hn.out]; omega)]; exact hx))
      go_wp2
      go_ret
      exact ⟨by rw [HP.out]; rfl, rfl⟩
end Go.Proofs.YthlfdckcnpnemaaDoor
