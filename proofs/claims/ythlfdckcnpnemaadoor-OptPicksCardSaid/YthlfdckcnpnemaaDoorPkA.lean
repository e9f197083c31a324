/-
  opt.Same, opt.naks, opt.Fits. Conditions: the lists are no longer than the model's memory.
-/
import Derived.Test.YthlfdckcnpnemaaDoorFits
import Derived.Test.YthlfdckcnpnemaaDoorOptSub
namespace Go.Proofs.YthlfdckcnpnemaaDoor
open Go.RowKit
set_option linter.unusedVariables false
set_option linter.unusedSimpArgs false

set_option maxRecDepth 100000 in
set_option maxHeartbeats 4000000 in
theorem eqf_any (A B : Option Addr) (n m c d : Nat) (vs us : List OV) (hn : vs.length = n) (hm : us.length = m) (hn' : n ≤ 4398046511104) (hm' : m ≤ 4398046511104) (w : World) (hx : Cells w A (flat vs)) (hy : Cells w B (flat us)) (gx : Good w vs) (gy : Good w us) :
    Calls Tryd.prog 39 #[.slice A n c, .slice B m d, .func (.func 40) #[] #[]] w fun e w' => e = .returned (.bool (sameB (vs.map OV.opt) (us.map OV.opt))) ∧ Below w.heap.size w w' := by
  have Hn := Lib.hid hn
  have Hm := Lib.hid hm
  have HX := Lib.hid hx
  have HY := Lib.hid hy
  have GX := Lib.hid gx
  have GY := Lib.hid gy
  by_cases h : n = m
  · subst h
    clear hn hm hx hy gx gy
    go_enter Tryd.func39, Tryd.ntmps39
    go_wp2
    go_loopw [17] (fun i wr => ∃ k : Nat, i = .int .i64 k ∧ k ≤ n ∧ Hid ((vs.map OV.opt).take k = (us.map OV.opt).take k) ∧ Hid (Ext w wr)) (fun i _ => n - (intOf i).toNat)
    case atStart => exact ⟨0, rfl, by omega, rfl, (inferInstance : Ext w w)⟩
    case round =>
      obtain ⟨k, rfl, hk, HT, HE⟩ := hrel
      have Sr : Step wr w := ⟨HE.out.out⟩
      by_cases hlt : k < n
      · obtain ⟨v, hv, hvm⟩ := optD (vs := vs) (k := k) (by rw [Hn.out]; exact hlt)
        obtain ⟨ad, rfl, hc0, hc1⟩ := opt_at (HX.out.ext (w' := wr)) hv
        obtain ⟨u, hu, hum⟩ := optD (vs := us) (k := k) (by rw [Hm.out]; exact hlt)
        obtain ⟨bd, rfl, hd0, hd1⟩ := opt_at (HY.out.ext (w' := wr)) hu
        have HLT := Lib.hid hlt
        have hkn : (k : Int) < (n : Int) := by omega
        have HV : Hid ((vs.map OV.opt)[k]? = some v.opt) := by unfold Hid; rw [List.getElem?_map, hv]; rfl
        have HU : Hid ((us.map OV.opt)[k]? = some u.opt) := by unfold Hid; rw [List.getElem?_map, hu]; rfl
        have GW := Lib.hid (GX.out v hvm)
        have GU := Lib.hid (GY.out u hum)
        obtain ⟨t, VA, vn, vc, xs⟩ := v
        obtain ⟨s, UA, un, uc, ys⟩ := u
        simp only [OV.opt] at hc0 hc1 hd0 hd1 HV HU
        clear hv hvm hu hum
        have e0 : ∀ o, (wr.alloc o).cell? (bd.add (k * 2)) = some (.int .i64 s) := fun o => cell_ext (w' := wr.alloc o) hd0
        have e1 := fun o => cell_ext (w' := wr.alloc o) hd1
        go_wp2_with fail
        refine (one_any t s VA UA vn un vc uc xs ys GW.out.1 GU.out.1 GW.out.2.2.2.1 GU.out.2.2.2.1 _ (by exact GW.out.2.2.2.2.ext) (by exact GU.out.2.2.2.2.ext)).mono ?_
        rintro e w1 ⟨rfl, hb1⟩
        have S1 : Step w1 _ := ⟨hb1⟩
        clear hb1 e0 e1
        rcases hq : oneB (t, xs) (s, ys) with _ | _
        · have hne : ¬ (t, xs) = (s, ys) := of_decide_eq_false hq
          have HF : Hid (sameB (vs.map OV.opt) (us.map OV.opt) = false) := by
            unfold Hid sameB
            refine decide_eq_false fun he => hne ?_
            have h1 := HV.out
            rw [he, HU.out] at h1
            injection h1 with h1
            exact h1.symm
          clear hne hq
          go_wp2
          go_ret
          exact ⟨ret_bool HF.out.symm, Ext.out⟩
        · have hee : (t, xs) = (s, ys) := of_decide_eq_true hq
          have HN : Hid ((vs.map OV.opt).take (k + 1) = (us.map OV.opt).take (k + 1)) := by
            unfold Hid
            rw [take_snoc HV.out, take_snoc HU.out, HT.out, hee]
          clear hee hq
          go_wp2
          go_roundw
          case rel => exact ⟨k + 1, by go_num, HLT.out, HN.out, (inferInstance : Ext w w1)⟩
          case measure => have := HLT.out; simp [intOf]; omega
      · obtain rfl : k = n := by omega
        have HF : Hid (sameB (vs.map OV.opt) (us.map OV.opt) = true) := by
          have h1 := HT.out
          rw [List.take_of_length_le (by rw [List.length_map, Hn.out]; omega), List.take_of_length_le (by rw [List.length_map, Hm.out]; omega)] at h1
          exact decide_eq_true h1
        go_wp2
        go_ret
        exact ⟨ret_bool HF.out.symm, Ext.out⟩
  · have hne : ((n : Int) != (m : Int)) = true := by simp only [bne_iff_ne, ne_eq]; omega
    have HF : Hid (sameB (vs.map OV.opt) (us.map OV.opt) = false) := by
      unfold Hid sameB
      refine decide_eq_false fun he => h ?_
      have := congrArg List.length he
      rw [List.length_map, List.length_map, hn, hm] at this
      exact this
    clear hn hm hx hy gx gy h
    go_enter Tryd.func39, Tryd.ntmps39
    go_wp2
    go_ret
    exact ⟨ret_bool HF.out.symm, Below.refl _ _⟩
theorem osame_any (A B : Option Addr) (n m c d : Nat) (vs us : List OV) (hn : vs.length = n) (hm : us.length = m) (hn' : n ≤ 4398046511104) (hm' : m ≤ 4398046511104) (w : World) (hx : Cells w A (flat vs)) (hy : Cells w B (flat us)) (gx : Good w vs) (gy : Good w us) :
    Calls Tryd.prog 23 #[.slice A n c, .slice B m d] w fun e w' => e = .returned (.bool (sameB (vs.map OV.opt) (us.map OV.opt))) ∧ Below w.heap.size w w' := by
  have HQ := Lib.hid (eqf_any A B n m c d vs us hn hm hn' hm' w hx hy gx gy)
  clear hn hm hx hy gx gy
  obtain ⟨q, hq⟩ : ∃ q, sameB (vs.map OV.opt) (us.map OV.opt) = q := ⟨_, rfl⟩
  rw [hq] at HQ ⊢
  clear hq
  go_enter Tryd.func23, Tryd.ntmps23
  go_wp2_with fail
  refine HQ.out.mono ?_
  rintro e w1 ⟨rfl, hb1⟩
  have HB1 := Lib.hid hb1
  clear hb1
  go_wp2
  go_ret
  exact ⟨rfl, HB1.out⟩
/-! naks -/
set_option maxHeartbeats 1000000 in
theorem nak1_any (s t : Int) (VA : Option Addr) (vn vc : Nat) (B : Nat) (w : World) (hc : w.cell? ⟨B, 0, none⟩ = some (.int .i64 t)) :
    Calls Tryd.prog 45 #[.agg #[.int .i64 s, .slice VA vn vc], .pointer (some ⟨B, 0, none⟩)] w fun e w' => e = .returned (.bool (s == t)) ∧ Below w.heap.size w w' := by
  have p : ∀ o, (w.alloc o).cell? ⟨B, 0, none⟩ = some (.int .i64 t) := fun o => cell_ext (w' := w.alloc o) hc
  clear hc
  go_enter Tryd.func45, Tryd.ntmps45
  go_wp2
  go_ret
  exact ⟨rfl, Ext.out⟩
set_option maxRecDepth 100000 in
set_option maxHeartbeats 2000000 in
theorem idxf_any (B : Nat) (t : Int) (A : Option Addr) (n c : Nat) (vs : List OV) (hn : vs.length = n) (hn' : n ≤ 4398046511104) (w : World) (hB : w.cell? ⟨B, 0, none⟩ = some (.int .i64 t)) (hx : Cells w A (flat vs)) :
    Calls Tryd.prog 44 #[.slice A n c, .func (.func 45) #[] #[.pointer (some ⟨B, 0, none⟩)]] w
      fun e w' => e = .returned (.int .i64 (placeF (vs.map OV.opt) t)) ∧ Below w.heap.size w w' := by
  have Hn := Lib.hid hn
  have HX := Lib.hid hx
  have H2 := Lib.hid hB
  clear hn hx hB
  go_enter Tryd.func44, Tryd.ntmps44
  go_wp2
  go_loopw [8] (fun j wr => ∃ k : Nat, j = .int .i64 k ∧ k ≤ n ∧ Hid (∀ x ∈ (vs.map OV.opt).take k, x.1 ≠ t) ∧ Hid (Ext w wr)) (fun j _ => n - (intOf j).toNat)
  case atStart => exact ⟨0, rfl, by omega, (fun x hx => by simp at hx), (inferInstance : Ext w w)⟩
  case round =>
    obtain ⟨k, rfl, hk, HT, HE⟩ := hrel
    have XE : Ext w wr := HE.out
    by_cases hlt : k < n
    · obtain ⟨v, hv, hvm⟩ := optD (vs := vs) (k := k) (by rw [Hn.out]; exact hlt)
      obtain ⟨ad, rfl, hc0, hc1⟩ := opt_at (HX.out.ext (w' := wr)) hv
      have HLT := Lib.hid hlt
      have HV : Hid ((vs.map OV.opt)[k]? = some v.opt) := by unfold Hid; rw [List.getElem?_map, hv]; rfl
      obtain ⟨s, VA, vn, vc, xs⟩ := v
      simp only [OV.opt] at hc0 hc1 HV
      clear hv hvm
      go_wp2_with fail
      refine (nak1_any s t VA vn vc B _ (cell_ext H2.out)).mono ?_
      rintro e w1 ⟨rfl, hb1⟩
      have S1 : Step w1 _ := ⟨hb1⟩
      clear hb1
      by_cases he : s = t
      · subst he
        have HP := Lib.hid (placeF_at HT.out HV.out rfl)
        rw [beq_self_eq_true]
        go_wp2
        go_ret
        exact ⟨by rw [HP.out]; rfl, Ext.out⟩
      · rw [show (s == t) = false from by simpa using he]
        have HN : Hid (∀ x ∈ (vs.map OV.opt).take (k + 1), x.1 ≠ t) := by
          intro x hx
          rw [take_snoc HV.out, List.mem_append] at hx
          rcases hx with hx | hx
          · exact HT.out x hx
          · simp at hx
            subst hx
            exact he
        clear he
        go_wp2
        go_roundw
        case rel => exact ⟨k + 1, by go_num, HLT.out, HN, (inferInstance : Ext w w1)⟩
        case measure => have := HLT.out; simp [intOf]; omega
    · obtain rfl : k = n := by omega
      have HP : Hid (placeF (vs.map OV.opt) t = -1) := placeF_none (fun x hx => HT.out x (by rw [List.take_of_length_le (by rw [List.length_map, Hn.out]; omega)]; exact hx))
      go_wp2
      go_ret
      exact ⟨by rw [HP.out]; rfl, Ext.out⟩
/-- Where an option stands in a request, or behind it. -/
def atF (req : List (Int × List Int)) (t : Int) : Int := if placeF req t < 0 then req.length else placeF req t
def naksO (req : List (Int × List Int)) : Int → List (Int × List Int) → Bool
  | _, [] => true
  | last, o :: os => if atF req o.1 < last then false else naksO req (atF req o.1) os
theorem placeF_lt (req : List (Int × List Int)) (t : Int) (h : ¬ placeF req t < 0) : placeF req t < req.length := by
  unfold placeF at h ⊢
  split
  · rename_i i hi
    have := (List.findIdx?_eq_some_iff_getElem.1 hi).1
    omega
  · rename_i hi
    rw [hi] at h
    simp at h
theorem naks_same (req : List (Int × List Int)) : ∀ (os : List (Int × List Int)) (l : Int) (b : Bool) (m : Int), 0 ≤ m → m ≤ req.length → (b = true → m = req.length) → (b = false → m = l ∨ (l = -1 ∧ m = 0)) → naksO req m os = nakG req l b os
  | [], _, _, _, _, _, _, _ => rfl
  | o :: os, l, b, m, h0, h1, hb, hl => by
    rw [naksO, nakG]
    unfold atF
    by_cases h : placeF req o.1 < 0
    · rw [if_pos h, if_pos h, if_neg (by omega)]
      exact naks_same req os l true _ (by omega) (Int.le_refl _) (fun _ => rfl) (fun h => by cases h)
    · have hp := placeF_lt req o.1 h
      rw [if_neg h, if_neg h]
      rcases b with _ | _
      · by_cases hq : placeF req o.1 < m
        · rw [if_pos hq, if_pos (.inr (by rcases hl rfl with e | e <;> omega))]
        · rw [if_neg hq, if_neg (by rintro (e | e); cases e; rcases hl rfl with e1 | e1 <;> omega)]
          exact naks_same req os _ false _ (by omega) (by omega) (fun h => by cases h) (fun _ => .inl rfl)
      · have hm := hb rfl
        rw [if_pos (by omega), if_pos (.inl rfl)]
theorem naksO_step {req os : List (Int × List Int)} {k : Nat} {last : Int} {o : Int × List Int} {r : Bool} (h : naksO req last (os.drop k) = r) (ho : os[k]? = some o) (hl : ¬ atF req o.1 < last) : naksO req (atF req o.1) (os.drop (k + 1)) = r := by
  rw [drop_at ho, naksO, if_neg hl] at h
  exact h
theorem naksO_no {req os : List (Int × List Int)} {k : Nat} {last : Int} {o : Int × List Int} {r : Bool} (h : naksO req last (os.drop k) = r) (ho : os[k]? = some o) (hl : atF req o.1 < last) : r = false := by
  rw [drop_at ho, naksO, if_pos hl] at h
  exact h.symm
theorem naksO_end {req os : List (Int × List Int)} {k : Nat} {last : Int} {r : Bool} (h : naksO req last (os.drop k) = r) (hk : os.length ≤ k) : r = true := by
  rw [List.drop_eq_nil_of_le hk, naksO] at h
  exact h.symm
set_option maxRecDepth 100000 in
set_option maxHeartbeats 4000000 in
theorem naks_any (A B : Option Addr) (n c m d : Nat) (vs us : List OV) (hn : vs.length = n) (hm : us.length = m) (hn' : n ≤ 4398046511104) (hm' : m ≤ 4398046511104) (w : World) (hx : Cells w A (flat vs)) (hy : Cells w B (flat us)) :
    Calls Tryd.prog 37 #[.slice A n c, .slice B m d] w fun e w' => e = .returned (.bool (nakG (vs.map OV.opt) (-1) false (us.map OV.opt))) ∧ Below w.heap.size w w' := by
  have Hn := Lib.hid hn
  have Hm := Lib.hid hm
  have HX := Lib.hid hx
  have HY := Lib.hid hy
  clear hn hm hx hy
  obtain ⟨r, hr⟩ : ∃ r, nakG (vs.map OV.opt) (-1) false (us.map OV.opt) = r := ⟨_, rfl⟩
  rw [hr]
  rw [← naks_same (vs.map OV.opt) (us.map OV.opt) (-1) false 0 (Int.le_refl _) (by omega) (fun h => by cases h) (fun _ => .inr ⟨rfl, rfl⟩)] at hr
  have HR := Lib.hid hr
  clear hr
  have hmf : ∀ (fn : Fn) (first cap : Array Value) (w : World), (Instr.makeFunc fn first cap).run Tryd.prog w = .ok (.func fn first cap) w := fun _ _ _ _ => rfl
  go_enter Tryd.func37, Tryd.ntmps37
  go_wp2
  go_loopw [5, 11] (fun l i wr => ∃ (k : Nat) (last : Int), l = .int .i64 last ∧ i = .int .i64 k ∧ k ≤ m ∧ Hid (naksO (vs.map OV.opt) last ((us.map OV.opt).drop k) = r) ∧ Hid (Ext w wr)) (fun _ i _ => m - (intOf i).toNat)
  case atStart => exact ⟨0, 0, rfl, rfl, by omega, HR.out, (inferInstance : Ext w w)⟩
  case round =>
    obtain ⟨k, last, rfl, rfl, hk, HE, HW⟩ := hrel
    have Sr : Step wr w := ⟨HW.out.out⟩
    by_cases hlt : k < m
    · obtain ⟨v, hv, hvm⟩ := optD (vs := us) (k := k) (by rw [Hm.out]; exact hlt)
      obtain ⟨ad, rfl, hc0, hc1⟩ := opt_at (HY.out.ext (w' := wr)) hv
      have HLT := Lib.hid hlt
      have hkm : (k : Int) < (m : Int) := by omega
      have HV : Hid ((us.map OV.opt)[k]? = some v.opt) := by unfold Hid; rw [List.getElem?_map, hv]; rfl
      obtain ⟨t, VA, vn, vc, xs⟩ := v
      simp only [OV.opt] at hc0 hc1 HV
      clear hv hvm
      have hpl := placeF_lo (vs.map OV.opt) t
      rw [List.length_map, Hn.out] at hpl
      go_wp2_with fail
      refine (idxf_any wr.heap.size t A n c vs Hn.out hn' _ (at_cell (at_new wr (.cells #[.int .i64 t, .slice VA vn vc] 34)) 0) (by exact HX.out.ext)).mono ?_
      rintro e w1 ⟨rfl, hb1⟩
      have S1 : Step w1 _ := ⟨hb1⟩
      clear hb1
      have hat : atF (vs.map OV.opt) t = if placeF (vs.map OV.opt) t < 0 then (n : Int) else placeF (vs.map OV.opt) t := by unfold atF; rw [List.length_map, Hn.out]
      obtain ⟨p, hp⟩ : ∃ p, placeF (vs.map OV.opt) t = p := ⟨_, rfl⟩
      rw [hp] at hpl hat ⊢
      have HAT := Lib.hid hat
      clear hp hat
      by_cases hq : p < 0
      · have HA2 : Hid (atF (vs.map OV.opt) t = n) := HAT.out.trans (if_pos hq)
        by_cases hlast : (n : Int) < last
        · have HF := Lib.hid (naksO_no HE.out HV.out (by rw [HA2.out]; exact hlast))
          go_wp2
          go_ret
          exact ⟨ret_bool HF.out.symm, Ext.out⟩
        · have HN := naksO_step HE.out HV.out (by rw [HA2.out]; exact hlast)
          rw [HA2.out] at HN
          have HN := Lib.hid HN
          go_wp2
          go_roundw
          case rel => exact ⟨k + 1, n, rfl, by go_num, HLT.out, HN.out, (inferInstance : Ext w _)⟩
          case measure => have := HLT.out; simp [intOf]; omega
      · have HA2 : Hid (atF (vs.map OV.opt) t = p) := HAT.out.trans (if_neg hq)
        by_cases hlast : p < last
        · have HF := Lib.hid (naksO_no HE.out HV.out (by rw [HA2.out]; exact hlast))
          go_wp2
          go_ret
          exact ⟨ret_bool HF.out.symm, Ext.out⟩
        · have HN := naksO_step HE.out HV.out (by rw [HA2.out]; exact hlast)
          rw [HA2.out] at HN
          have HN := Lib.hid HN
          go_wp2
          go_roundw
          case rel => exact ⟨k + 1, p, rfl, by go_num, HLT.out, HN.out, (inferInstance : Ext w _)⟩
          case measure => have := HLT.out; simp [intOf]; omega
    · obtain rfl : k = m := by omega
      have HF := Lib.hid (naksO_end HE.out (by rw [List.length_map, Hm.out]; exact Nat.le_refl _))
      go_wp2
      go_ret
      exact ⟨ret_bool HF.out.symm, Ext.out⟩
set_option maxRecDepth 100000 in
set_option maxHeartbeats 2000000 in
theorem ofits_any (code : Int) (A B : Option Addr) (n c m d : Nat) (vs us : List OV) (hn : vs.length = n) (hm : us.length = m) (hn' : n ≤ 4398046511104) (hm' : m ≤ 4398046511104) (hnc : n ≤ c) (hmd : m ≤ d)
    (w : World) (hx : Cells w A (flat vs)) (hy : Cells w B (flat us)) (gx : Good w vs) (gy : Good w us) :
    Calls Tryd.prog 21 #[.int .i64 code, .slice A n c, .slice B m d] w (FitsTells (fitsF code (vs.map OV.opt) (us.map OV.opt)) w) := by
  have Hn := Lib.hid hn
  have Hm := Lib.hid hm
  have HX := Lib.hid hx
  have HY := Lib.hid hy
  have GX := Lib.hid gx
  have GY := Lib.hid gy
  clear hn hm hx hy gx gy
  by_cases h2 : code = 2
  · subst h2
    have HF : Hid (fitsF 2 (vs.map OV.opt) (us.map OV.opt) = (sameB (vs.map OV.opt) (us.map OV.opt), 0)) := rfl
    go_enter Tryd.func21, Tryd.ntmps21
    go_wp2_with fail
    refine (osame_any A B n m c d vs us Hn.out Hm.out hn' hm' _ (by exact HX.out.ext) (by exact HY.out.ext) (by exact GX.out.ext) (by exact GY.out.ext)).mono ?_
    rintro e w1 ⟨rfl, hb1⟩
    have S1 : Step w1 _ := ⟨hb1⟩
    clear hb1
    generalize sameB (vs.map OV.opt) (us.map OV.opt) = q at *
    go_wp2
    go_ret2
    exact fitsTells_of HF.out Ext.out
  have h2' : (code == 2) = false := by simpa using h2
  by_cases h4 : code = 4
  · subst h4
    clear h2 h2'
    by_cases hm0 : 0 < m
    · have HF : Hid (fitsF 4 (vs.map OV.opt) (us.map OV.opt) = (subB (us.map OV.opt) (vs.map OV.opt), 0)) := by
        unfold Hid fitsF
        simp only [Int.reduceEq, if_false, if_true, List.length_map, Hm.out, hm0, decide_true, Bool.true_and]
      go_enter Tryd.func21, Tryd.ntmps21
      go_wp2_with fail
      refine (subset_any A B n c m d us vs Hm.out Hn.out (by omega) (by omega) hmd _ (by exact HX.out.ext) (by exact HY.out.ext) (by exact GX.out.ext) (by exact GY.out.ext)).mono ?_
      rintro e w1 ⟨rfl, hb1⟩
      have S1 : Step w1 _ := ⟨hb1⟩
      clear hb1
      generalize subB (us.map OV.opt) (vs.map OV.opt) = q at *
      go_wp2
      go_ret2
      exact fitsTells_of HF.out Ext.out
    · obtain rfl : m = 0 := by omega
      have HF : Hid (fitsF 4 (vs.map OV.opt) (us.map OV.opt) = (false, 0)) := by
        unfold Hid fitsF
        simp [Hm.out]
      go_enter Tryd.func21, Tryd.ntmps21
      go_wp2
      go_ret2
      exact fitsTells_of HF.out Ext.out
  have h4' : (code == 4) = false := by simpa using h4
  by_cases h3 : code = 3
  · subst h3
    clear h2 h2' h4 h4'
    by_cases hm0 : 0 < m
    · have HF : Hid (fitsF 3 (vs.map OV.opt) (us.map OV.opt) = (nakG (vs.map OV.opt) (-1) false (us.map OV.opt), 0)) := by
        unfold Hid fitsF
        simp only [Int.reduceEq, if_false, if_true, List.length_map, Hm.out, hm0, decide_true, Bool.and_true]
      go_enter Tryd.func21, Tryd.ntmps21
      go_wp2_with fail
      refine (naks_any A B n c m d vs us Hn.out Hm.out hn' hm' _ (by exact HX.out.ext) (by exact HY.out.ext)).mono ?_
      rintro e w1 ⟨rfl, hb1⟩
      have S1 : Step w1 _ := ⟨hb1⟩
      clear hb1
      generalize nakG (vs.map OV.opt) (-1) false (us.map OV.opt) = q at *
      go_wp2
      go_ret2
      exact fitsTells_of HF.out Ext.out
    · obtain rfl : m = 0 := by omega
      have HF : Hid (fitsF 3 (vs.map OV.opt) (us.map OV.opt) = (false, 0)) := by
        unfold Hid fitsF
        simp [Hm.out]
      go_enter Tryd.func21, Tryd.ntmps21
      go_wp2
      go_ret2
      exact fitsTells_of HF.out Ext.out
  have h3' : (code == 3) = false := by simpa using h3
  have HF : Hid (fitsF code (vs.map OV.opt) (us.map OV.opt) = (false, 90)) := by unfold Hid fitsF; simp [h2, h3, h4]
  clear h2 h3 h4
  go_enter Tryd.func21, Tryd.ntmps21
  go_wp2
  go_ret2
  exact fitsTells_of HF.out Ext.out
end Go.Proofs.YthlfdckcnpnemaaDoor
