/-
  The reference's Subset, Fits and Spoil of options; opt.Find. No condition beyond sizes.
-/
import Derived.Test.YthlfdckcnpnemaaDoorR9
import Derived.Deep.RegionWith
namespace Go.Proofs.YthlfdckcnpnemaaDoor
open Go.RowKit
set_option linter.unusedVariables false
set_option linter.unusedSimpArgs false

theorem subF_nil : ∀ l : List (Int × List Int), subF [] l = []
  | [] => rfl
  | x :: l => subF_nil l
theorem subF_nil_mono {a l : List (Int × List Int)} {k : Nat} (h : subF a (l.take k) = []) : subF a l = [] := by
  have h1 : subF a l = subF (subF a (l.take k)) (l.drop k) := by
    unfold subF
    rw [← List.foldl_append, List.take_append_drop]
  rw [h1, h, subF_nil]
theorem cells_drop {cs : List Value} {vs : List OV} {k : Nat} {v : OV} (h : cs.drop (k * 2) = flat (vs.drop k)) (hv : vs[k]? = some v) : cs[k * 2]? = some (.int .i64 v.t) ∧ cs[k * 2 + 1]? = some (.slice v.A v.n v.c) := by
  have hk : k < vs.length := (List.getElem?_eq_some_iff.1 hv).1
  have e : vs.drop k = v :: vs.drop (k + 1) := by
    rw [List.drop_eq_getElem_cons hk]
    rw [List.getElem?_eq_getElem hk] at hv
    injection hv with hv
    rw [hv]
  rw [e, flat_cons] at h
  constructor
  · have := congrArg (fun l : List Value => l[0]?) h
    simpa using this
  · have := congrArg (fun l : List Value => l[1]?) h
    simpa using this
theorem cells_drop_succ {cs : List Value} {vs : List OV} {k : Nat} {v : OV} (u : Value) (h : cs.drop (k * 2) = flat (vs.drop k)) (hv : vs[k]? = some v) : (cs.set (k * 2) u).drop ((k + 1) * 2) = flat (vs.drop (k + 1)) := by
  have hk : k < vs.length := (List.getElem?_eq_some_iff.1 hv).1
  have e : vs.drop k = v :: vs.drop (k + 1) := by
    rw [List.drop_eq_getElem_cons hk]
    rw [List.getElem?_eq_getElem hk] at hv
    injection hv with hv
    rw [hv]
  rw [e, flat_cons] at h
  rw [List.drop_set_of_lt (by omega), show (k + 1) * 2 = k * 2 + 2 by omega, ← List.drop_drop, h]
  rfl
set_option maxRecDepth 100000 in
set_option maxHeartbeats 1000000 in
theorem spoil9_any (A : Option Addr) (n c B : Nat) (vs : List OV) (w : World) (hn : vs.length = n) (hn' : n ≤ 4398046511104) (hB : B ≤ w.heap.size) (ho : OptsOwn w B (.slice A n c) vs) :
    Calls Tryd.prog 20 #[.slice A n c] w fun e w' => e = .returned (.tuple #[]) ∧ Below B w w' := by
  have Hn := Lib.hid hn
  have HO := Lib.hid ho
  have HBB := Lib.hid hB
  clear hn ho hB
  go_enter Tryd.func20, Tryd.ntmps20
  go_wp2
  go_loopw [2] (fun i wr => ∃ (k : Nat) (cs : List Value), i = .int .i64 k ∧ k ≤ n ∧ Hid (wr.ownsRow B 34 2 (.slice A n c) n cs) ∧ Hid (cs.drop (k * 2) = flat (vs.drop k)) ∧ Hid (OwnAll wr B (vs.drop k)) ∧ Hid (Below B w wr)) (fun i _ => n - (intOf i).toNat)
  case atStart => exact ⟨0, flat vs, rfl, by omega, (by have h1 := HO.out.1; rw [Hn.out] at h1; exact h1), rfl, HO.out.2.1, Below.refl _ _⟩
  case round =>
    obtain ⟨k, cs, rfl, hk, HR, HC, HA, HB⟩ := hrel
    by_cases hlt : k < n
    · obtain ⟨v, hv, hvm⟩ := optD (vs := vs) (k := k) (by rw [Hn.out]; exact hlt)
      obtain ⟨h0, h1⟩ := cells_drop HC.out hv
      obtain ⟨g, c', he, hg1, hg2, hg3⟩ := own_form HR.out (by omega)
      injection he with he1 he2 he3
      subst he1 he3
      have hbl : v.n ≤ 140737488355300 := (HO.out.2.2.2.2 v hvm).2.1
      have hdrop : v ∈ vs.drop k := by
        rw [List.drop_eq_getElem_cons (by rw [Hn.out]; exact hlt)]
        rw [List.getElem?_eq_getElem (by rw [Hn.out]; exact hlt)] at hv
        injection hv with hv
        rw [hv]
        simp
      have HV := Lib.hid hv
      have HVO := Lib.hid (HA.out v hdrop)
      have hap := HO.out.2.2.1 v hvm
      have HAP := Lib.hid hap
      have hc0 : wr.cell? ⟨g, k * 2, none⟩ = some (.int .i64 v.t) := by rw [HR.out.cellAt (k * 2) (by omega)]; exact h0
      have hc1 : wr.cell? ⟨g, k * 2 + 1, none⟩ = some (.slice v.A v.n v.c) := by rw [HR.out.cellAt (k * 2 + 1) (by omega)]; exact h1
      have hf := HR.out.frozenAt (k * 2)
      clear hv hvm hdrop hap h0 h1
      obtain ⟨t, VA, vn, vc, xs⟩ := v
      simp only at hc0 hc1 hbl
      go_wp2_with fail
      refine (spoil_any VA vn vc B xs _ hbl HVO.out).mono ?_
      rintro e w1 ⟨rfl, hg1'⟩
      have hL : (Value.slice (some ⟨g, 0, none⟩) n c).ownBlock = some g := rfl
      have hR1 : w1.ownsRow B 34 2 (.slice (some ⟨g, 0, none⟩) n c) n cs := own_grown HR.out hg1' (.inr fun he => by rw [hL] at he; exact HAP.out g he.symm rfl)
      have hB1 : Below B w w1 := HB.out.grown hg1' (Nat.le_trans HBB.out HB.out.size) (own_base HVO.out)
      have hc0' : w1.cell? ⟨g, k * 2, none⟩ = some (.int .i64 t) := by rw [hR1.cellAt (k * 2) (by omega), ← HR.out.cellAt (k * 2) (by omega)]; exact hc0
      have hf' := hR1.frozenAt (k * 2)
      have hA1 : OwnAll w1 B (vs.drop (k + 1)) := by
        intro u hu
        have hu' : u ∈ vs.drop k := by
          rw [List.drop_eq_getElem_cons (by rw [Hn.out]; exact hlt)]
          exact List.mem_cons_of_mem _ hu
        refine own_grown (HA.out u hu') hg1' ?_
        have hp := HO.out.2.2.2.1
        have hd : vs.drop k = vs[k]'(by rw [Hn.out]; exact hlt) :: vs.drop (k + 1) := List.drop_eq_getElem_cons (by rw [Hn.out]; exact hlt)
        have hp2 := hp.drop (i := k)
        rw [hd, List.pairwise_cons] at hp2
        have hx := hp2.1 u hu
        have he := HV.out
        rw [List.getElem?_eq_getElem (by rw [Hn.out]; exact hlt)] at he
        injection he with he
        rw [he] at hx
        rcases hx with hx | hx
        · rcases hb : (Value.slice u.A u.n u.c).ownBlock with _ | b
          · exact .inl rfl
          · refine .inr fun h => ?_
            have hx' : (Value.slice VA vn vc).ownBlock = none := hx
            rw [hx'] at h
            cases h
        · exact .inr fun h => hx h.symm
      have HR1 := Lib.hid hR1
      have HA1 := Lib.hid hA1
      have HB1 := Lib.hid hB1
      have hz1 : B ≤ g := hg1
      have HC1 : Hid ((cs.set (k * 2) (.int .i64 999)).drop ((k + 1) * 2) = flat (vs.drop (k + 1))) := cells_drop_succ _ HC.out HV.out
      clear hR1 hA1 hB1 hg1' hc0 hc1 hf hL
      go_wp2
      go_roundw
      case rel =>
        refine ⟨k + 1, cs.set (k * 2) (.int .i64 999), by go_num, by omega, (HR1.out.stored _ _).1, HC1.out, ?_, ?_⟩
        · intro u hu
          refine own_setCell (HA1.out u hu) (p := ⟨g, k * 2, none⟩) (fun he => ?_) _
          have hm : u ∈ vs := List.mem_of_mem_drop hu
          exact HO.out.2.2.1 u hm g he rfl
        · exact HB1.out.setCell (p := ⟨g, k * 2, none⟩) hz1 _
      case measure => simp [intOf]; omega
    · go_wp2
      go_end0
      exact ⟨rfl, HB.out⟩

set_option maxRecDepth 100000 in
set_option maxHeartbeats 4000000 in
theorem rsubset_any (A B : Option Addr) (n c m d : Nat) (us vs : List OV) (hm : us.length = m) (hn : vs.length = n) (hn' : n ≤ 4611686018427387903) (hm' : m ≤ 4611686018427387903)
    (w : World) (hx : Cells w A (flat vs)) (hy : Cells w B (flat us)) (gx : Good w vs) (gy : Good w us) :
    Calls Tryd.prog 25 #[.slice B m d, .slice A n c] w fun e w' => e = .returned (.bool (subB (us.map OV.opt) (vs.map OV.opt))) ∧ Below w.heap.size w w' := by
  have Hn := Lib.hid hn
  have Hm := Lib.hid hm
  have HX := Lib.hid hx
  have HY := Lib.hid hy
  have GX := Lib.hid gx
  have GY := Lib.hid gy
  clear hn hm hx hy gx gy
  go_enter Tryd.func25, Tryd.ntmps25
  go_wp2
  go_loopw [5, 6] (fun j i wr => ∃ (q k : Nat), j = .int .i64 q ∧ i = .int .i64 k ∧ k ≤ n ∧ q ≤ m ∧ Hid ((us.map OV.opt).drop q = subF (us.map OV.opt) ((vs.map OV.opt).take k)) ∧ Hid (Below w.heap.size w wr)) (fun _ i _ => n - (intOf i).toNat)
  case atStart => exact ⟨0, 0, rfl, rfl, by omega, by omega, rfl, Below.refl _ _⟩
  case round =>
    obtain ⟨q, k, rfl, rfl, hk, hq, HE, HB⟩ := hrel
    have X0 : Ext w wr := ⟨HB.out⟩
    by_cases hlt : k < n
    · by_cases hqm : q < m
      · obtain ⟨v, hv, hvm⟩ := optD (vs := vs) (k := k) (by rw [Hn.out]; exact hlt)
        obtain ⟨ad, rfl, hc0, hc1⟩ := opt_at (HX.out.ext (w' := wr)) hv
        have GV := Lib.hid ((GX.out v hvm).ext (w' := wr))
        have HT : Hid ((vs.map OV.opt).take (k + 1) = (vs.map OV.opt).take k ++ [v.opt]) := take_snoc (by rw [List.getElem?_map, hv]; rfl)
        obtain ⟨u, hu, hum⟩ := optD (vs := us) (k := q) (by rw [Hm.out]; exact hqm)
        obtain ⟨bd, rfl, hd0, hd1⟩ := opt_at (HY.out.ext (w' := wr)) hu
        have GU := Lib.hid ((GY.out u hum).ext (w' := wr))
        have HS : Hid ((us.map OV.opt).drop q = u.opt :: (us.map OV.opt).drop (q + 1)) := by
          have h1 : q < (us.map OV.opt).length := by rw [List.length_map, Hm.out]; exact hqm
          have h2 : (us.map OV.opt)[q] = u.opt := by
            have h3 : (us.map OV.opt)[q]? = some u.opt := by rw [List.getElem?_map, hu]; rfl
            rw [List.getElem?_eq_getElem h1] at h3
            injection h3
          unfold Hid
          rw [List.drop_eq_getElem_cons h1, h2]
        clear hv hvm hu hum
        obtain ⟨t, VA, vn, vc, xs⟩ := v
        obtain ⟨s, UA, un, uc, ys⟩ := u
        simp only at hc0 hc1 hd0 hd1
        rcases hO : oneB (s, ys) (t, xs) with _ | _
        ·
          have HO := Lib.hid hO
          clear hO
          go_wp2
          go_region_law
            (refine step_call ?hg Tryd.func15 (by kernel_rfl) (by kernel_rfl) #[.tmp 22, .tmp 26] #[34, 34] ?ho #[.agg #[.int .i64 s, .slice UA un uc], .agg #[.int .i64 t, .slice VA vn vc]] ?hv (rone_any s t UA VA un vn uc vc ys xs ?l1 ?l2 ?l3 ?l4 _ ?c1 ?c2) ?_
             (case hg => rfl)
             (case ho => rfl)
             (case hv => go_simp)
             (case l1 => exact GU.out.1)
             (case l2 => exact GV.out.1)
             (case l3 => have := GU.out.2.2.1; simp only at this; omega)
             (case l4 => have := GV.out.2.2.1; simp only at this; omega)
             (case c1 => exact Cells.ext GU.out.2.2.2.2)
             (case c2 => exact Cells.ext GV.out.2.2.2.2)
             rintro e w1 ⟨rfl, hb1⟩
             refine ⟨_, rfl, ?_⟩
             rw [HO.out]
             have S1 : Step w1 _ := ⟨hb1⟩
             have HX1 : Ext w w1 := inferInstance
             clear hb1)
          all_goals go_wp2
          all_goals go_roundw
          all_goals first
            | (refine ⟨q, k + 1, rfl, by go_num, by omega, by omega, ?_, Ext.out⟩
               show _ = _
               rw [HT.out, subF_snoc, ← HE.out, HS.out]
               have h3 := HO.out
               simp only [subStep, OV.opt, h3]
               rfl)
            | (simp [intOf]; omega)
        ·
          have HO := Lib.hid hO
          clear hO
          go_wp2
          go_region_law
            (refine step_call ?hg Tryd.func15 (by kernel_rfl) (by kernel_rfl) #[.tmp 22, .tmp 26] #[34, 34] ?ho #[.agg #[.int .i64 s, .slice UA un uc], .agg #[.int .i64 t, .slice VA vn vc]] ?hv (rone_any s t UA VA un vn uc vc ys xs ?l1 ?l2 ?l3 ?l4 _ ?c1 ?c2) ?_
             (case hg => rfl)
             (case ho => rfl)
             (case hv => go_simp)
             (case l1 => exact GU.out.1)
             (case l2 => exact GV.out.1)
             (case l3 => have := GU.out.2.2.1; simp only at this; omega)
             (case l4 => have := GV.out.2.2.1; simp only at this; omega)
             (case c1 => exact Cells.ext GU.out.2.2.2.2)
             (case c2 => exact Cells.ext GV.out.2.2.2.2)
             rintro e w1 ⟨rfl, hb1⟩
             refine ⟨_, rfl, ?_⟩
             rw [HO.out]
             have S1 : Step w1 _ := ⟨hb1⟩
             have HX1 : Ext w w1 := inferInstance
             clear hb1)
          all_goals go_wp2
          all_goals go_roundw
          all_goals first
            | (refine ⟨q + 1, k + 1, by go_num, by go_num, by omega, by omega, ?_, Ext.out⟩
               show _ = _
               rw [HT.out, subF_snoc, ← HE.out, HS.out]
               have h3 := HO.out
               simp only [subStep, OV.opt, h3]
               rfl)
            | (simp [intOf]; omega)
      · obtain rfl : q = m := by omega
        have HF : Hid (subB (us.map OV.opt) (vs.map OV.opt) = true) := by
          have h1 := HE.out
          rw [List.drop_of_length_le (by rw [List.length_map, Hm.out]; omega)] at h1
          unfold Hid subB
          rw [subF_nil_mono h1.symm]
          rfl
        go_wp2
        go_ret
        exact ⟨ret_bool HF.out.symm, Ext.out⟩
    · obtain rfl : k = n := by omega
      have h1 := HE.out
      rw [List.take_of_length_le (by rw [List.length_map, Hn.out]; omega)] at h1
      by_cases hqm : q = m
      · subst hqm
        have HF : Hid (subB (us.map OV.opt) (vs.map OV.opt) = true) := by
          rw [List.drop_of_length_le (by rw [List.length_map, Hm.out]; omega)] at h1
          unfold Hid subB
          rw [← h1]
          rfl
        clear h1
        go_wp2
        go_ret
        exact ⟨ret_bool HF.out.symm, Ext.out⟩
      · have HF : Hid (subB (us.map OV.opt) (vs.map OV.opt) = false) := by
          unfold Hid subB
          rw [← h1, List.isEmpty_eq_false_iff]
          intro h2
          have h3 := congrArg List.length h2
          rw [List.length_drop, List.length_map, Hm.out] at h3
          simp only [List.length_nil] at h3
          omega
        have hne : ((q : Int) == (m : Int)) = false := by rw [beq_eq_false_iff_ne]; omega
        clear h1
        go_wp2
        go_ret
        exact ⟨ret_bool HF.out.symm, Ext.out⟩
end Go.Proofs.YthlfdckcnpnemaaDoor
