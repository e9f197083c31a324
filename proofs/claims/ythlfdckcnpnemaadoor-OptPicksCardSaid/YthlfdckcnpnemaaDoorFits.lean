/-
  What the reference's Fits of options tells. Conditions: the lists are no longer than the model's memory.
-/
import Derived.Test.YthlfdckcnpnemaaDoorR9b
namespace Go.Proofs.YthlfdckcnpnemaaDoor
open Go.RowKit
set_option linter.unusedVariables false
set_option linter.unusedSimpArgs false

def nakG (req : List (Int × List Int)) : Int → Bool → List (Int × List Int) → Bool
  | _, _, [] => true
  | last, behind, o :: os => if placeF req o.1 < 0 then nakG req last true os else if behind = true ∨ placeF req o.1 < last then false else nakG req (placeF req o.1) behind os
def fitsF (code : Int) (req rep : List (Int × List Int)) : Bool × Int :=
  if code = 2 then (sameB req rep, 0) else if code = 4 then (decide (0 < rep.length) && subB rep req, 0) else if code = 3 then (nakG req (-1) false rep && decide (0 < rep.length), 0) else (false, 90)
def FitsTells (r : Bool × Int) (w : World) (e : Ending) (w' : World) : Prop := e = .returned (.tuple #[.bool r.1, .int .i64 r.2]) ∧ Below w.heap.size w w'
theorem fitsTells_of {r : Bool × Int} {w w' : World} {a : Bool} {b : Int} (h : r = (a, b)) (hb : Below w.heap.size w w') : FitsTells r w (.returned (.tuple #[.bool a, .int .i64 b])) w' := ⟨by rw [h], hb⟩
theorem placeF_lo (req : List (Int × List Int)) (t : Int) : -1 ≤ placeF req t ∧ placeF req t ≤ req.length := by
  unfold placeF
  split
  · rename_i i h
    have := (List.findIdx?_eq_some_iff_getElem.1 h).1
    omega
  · omega
theorem drop_at {α : Type} {xs : List α} {k : Nat} {x : α} (h : xs[k]? = some x) : xs.drop k = x :: xs.drop (k + 1) := by
  have hk : k < xs.length := (List.getElem?_eq_some_iff.1 h).1
  rw [List.drop_eq_getElem_cons hk]
  rw [List.getElem?_eq_getElem hk] at h
  injection h with h
  rw [h]
section
variable {req : List (Int × List Int)} {last : Int} {b : Bool} {os : List (Int × List Int)} {k : Nat} {o : Int × List Int} {r : Bool}
theorem nakG_out (h : nakG req last b (os.drop k) = r) (ho : os[k]? = some o) (hp : placeF req o.1 < 0) : nakG req last true (os.drop (k + 1)) = r := by
  rw [drop_at ho, nakG, if_pos hp] at h
  exact h
theorem nakG_no (h : nakG req last b (os.drop k) = r) (ho : os[k]? = some o) (hp : ¬ placeF req o.1 < 0) (hb : b = true ∨ placeF req o.1 < last) : r = false := by
  rw [drop_at ho, nakG, if_neg hp, if_pos hb] at h
  exact h.symm
theorem nakG_in (h : nakG req last b (os.drop k) = r) (ho : os[k]? = some o) (hp : ¬ placeF req o.1 < 0) (hb : ¬ (b = true ∨ placeF req o.1 < last)) : nakG req (placeF req o.1) b (os.drop (k + 1)) = r := by
  rw [drop_at ho, nakG, if_neg hp, if_neg hb] at h
  exact h
theorem nakG_end (h : nakG req last b (os.drop k) = r) (hk : os.length ≤ k) : r = true := by
  rw [List.drop_eq_nil_of_le hk, nakG] at h
  exact h.symm
end
set_option maxRecDepth 100000 in
set_option maxHeartbeats 4000000 in
theorem fits9_any (code : Int) (A B : Option Addr) (n c m d : Nat) (vs us : List OV) (hn : vs.length = n) (hm : us.length = m) (hn' : n ≤ 4398046511104) (hm' : m ≤ 4398046511104)
    (w : World) (hx : Cells w A (flat vs)) (hy : Cells w B (flat us)) (gx : Good w vs) (gy : Good w us) :
    Calls Tryd.prog 22 #[.int .i64 code, .slice A n c, .slice B m d] w (FitsTells (fitsF code (vs.map OV.opt) (us.map OV.opt)) w) := by
  have Hn := Lib.hid hn
  have Hm := Lib.hid hm
  have HX := Lib.hid hx
  have HY := Lib.hid hy
  have GX := Lib.hid gx
  have GY := Lib.hid gy
  clear hn hm hx hy gx gy
  by_cases h2 : code = 2
  · subst h2
    have HF : Hid (fitsF 2 (vs.map OV.opt) (us.map OV.opt) = (sameB (vs.map OV.opt) (us.map OV.opt), 0)) := rfl
    go_enter Tryd.func22, Tryd.ntmps22
    go_wp2_with fail
    refine (same9_any A B n m c d vs us Hn.out Hm.out (by omega) (by omega) _ (by exact HX.out.ext) (by exact HY.out.ext) (by exact GX.out.ext) (by exact GY.out.ext)).mono ?_
    rintro e w1 ⟨rfl, hb1⟩
    have S1 : Step w1 _ := ⟨hb1⟩
    clear hb1
    generalize sameB (vs.map OV.opt) (us.map OV.opt) = q at *
    go_wp2
    go_ret2
    exact fitsTells_of HF.out Ext.out
  have h2' : (code == 2) = false := by simpa using h2
  by_cases h4 : code = 4
  · subst h4
    clear h2 h2'
    by_cases hm0 : 0 < m
    · have HF : Hid (fitsF 4 (vs.map OV.opt) (us.map OV.opt) = (subB (us.map OV.opt) (vs.map OV.opt), 0)) := by
        unfold Hid fitsF
        simp only [Int.reduceEq, if_false, if_true, List.length_map, Hm.out, hm0, decide_true, Bool.true_and]
      go_enter Tryd.func22, Tryd.ntmps22
      go_wp2_with fail
      refine (rsubset_any A B n c m d us vs Hm.out Hn.out (by omega) (by omega) _ (by exact HX.out.ext) (by exact HY.out.ext) (by exact GX.out.ext) (by exact GY.out.ext)).mono ?_
      rintro e w1 ⟨rfl, hb1⟩
      have S1 : Step w1 _ := ⟨hb1⟩
      clear hb1
      generalize subB (us.map OV.opt) (vs.map OV.opt) = q at *
      go_wp2
      go_ret2
      exact fitsTells_of HF.out Ext.out
    · obtain rfl : m = 0 := by omega
      have HF : Hid (fitsF 4 (vs.map OV.opt) (us.map OV.opt) = (false, 0)) := by
        unfold Hid fitsF
        simp [Hm.out]
      go_enter Tryd.func22, Tryd.ntmps22
      go_wp2
      go_ret2
      exact fitsTells_of HF.out Ext.out
  have h4' : (code == 4) = false := by simpa using h4
  by_cases h3 : code = 3
  · subst h3
    clear h2 h2' h4 h4'
    obtain ⟨r, hr⟩ : ∃ r, nakG (vs.map OV.opt) (-1) false (us.map OV.opt) = r := ⟨_, rfl⟩
    have HF : Hid (fitsF 3 (vs.map OV.opt) (us.map OV.opt) = (r && decide (0 < m), 0)) := by
      unfold Hid fitsF
      simp only [Int.reduceEq, if_false, if_true, List.length_map, Hm.out, hr]
    have HR0 := Lib.hid hr
    clear hr
    go_enter Tryd.func22, Tryd.ntmps22
    go_wp2
    go_loop [8, 9, 10] (fun l b i => ∃ (k : Nat) (last : Int) (q : Bool), l = .int .i64 last ∧ b = .bool q ∧ i = .int .i64 k ∧ k ≤ m ∧ Hid (nakG (vs.map OV.opt) last q ((us.map OV.opt).drop k) = r)) (fun _ _ i => m - (intOf i).toNat)
    case atStart => exact ⟨0, -1, false, rfl, rfl, rfl, by omega, HR0.out⟩
    case round =>
      obtain ⟨k, last, q, rfl, rfl, rfl, hk, HE⟩ := hrel
      by_cases hlt : k < m
      · obtain ⟨v, hv, hvm⟩ := optD (vs := us) (k := k) (by rw [Hm.out]; exact hlt)
        obtain ⟨ad, rfl, hc0, hc1⟩ := opt_at HY.out hv
        have HV : Hid ((us.map OV.opt)[k]? = some v.opt) := by unfold Hid; rw [List.getElem?_map, hv]; rfl
        clear hv hvm hc1
        obtain ⟨t, VA, vn, vc, xs⟩ := v
        simp only at hc0
        have hpl := placeF_lo (vs.map OV.opt) t
        rw [List.length_map, Hn.out] at hpl
        by_cases hp : placeF (vs.map OV.opt) t < 0
        · have HN := Lib.hid (nakG_out HE.out HV.out hp)
          go_wp2_with fail
          refine (place_any A n c vs t Hn.out hn' _ (by exact HX.out)).mono ?_
          rintro e w1 ⟨rfl, rfl⟩
          generalize placeF (vs.map OV.opt) t = p at *
          go_wp2
          go_round
          case rel => exact ⟨k + 1, last, true, rfl, rfl, by go_num, by omega, HN.out⟩
          case measure => simp [intOf]; omega
        · by_cases hq : q = true ∨ placeF (vs.map OV.opt) t < last
          · have HN := Lib.hid (nakG_no HE.out HV.out hp hq)
            have HF2 : Hid (fitsF 3 (vs.map OV.opt) (us.map OV.opt) = (false, 0)) := by
              have := HF.out
              rw [HN.out] at this
              exact this
            go_wp2_with fail
            refine (place_any A n c vs t Hn.out hn' _ (by exact HX.out)).mono ?_
            rintro e w1 ⟨rfl, rfl⟩
            generalize placeF (vs.map OV.opt) t = p at *
            cases q with
            | true =>
              clear hq
              go_wp2
              go_ret2
              exact fitsTells_of HF2.out Ext.out
            | false =>
              have hq2 : p < last := by simpa using hq
              clear hq
              go_wp2
              go_ret2
              exact fitsTells_of HF2.out Ext.out
          · have HN := Lib.hid (nakG_in HE.out HV.out hp hq)
            obtain rfl : q = false := by
              rcases q with _ | _
              · rfl
              · exact absurd (.inl rfl) hq
            have hq2 : ¬ placeF (vs.map OV.opt) t < last := fun h => hq (.inr h)
            clear hq
            go_wp2_with fail
            refine (place_any A n c vs t Hn.out hn' _ (by exact HX.out)).mono ?_
            rintro e w1 ⟨rfl, rfl⟩
            have HN2 : Hid (∃ p, p = placeF (vs.map OV.opt) t) := ⟨_, rfl⟩
            obtain ⟨p, hp'⟩ : ∃ p, placeF (vs.map OV.opt) t = p := ⟨_, rfl⟩
            have HN3 : Hid (nakG (vs.map OV.opt) p false ((us.map OV.opt).drop (k + 1)) = r) := by rw [← hp']; exact HN.out
            rw [hp'] at hp hq2 hpl ⊢
            clear hp' HN HN2
            go_wp2
            go_round
            case rel => exact ⟨k + 1, p, false, rfl, rfl, by go_num, by omega, HN3.out⟩
            case measure => simp [intOf]; omega
      · have HR := Lib.hid (nakG_end HE.out (by rw [List.length_map, Hm.out]; omega))
        by_cases hm0 : 0 < m
        · have HF2 : Hid (fitsF 3 (vs.map OV.opt) (us.map OV.opt) = (true, 0)) := by
            have := HF.out
            rw [HR.out] at this
            exact Lib.hid (by simpa [hm0] using this)
          go_wp2
          go_ret2
          exact fitsTells_of HF2.out Ext.out
        · obtain rfl : m = 0 := by omega
          have HF2 : Hid (fitsF 3 (vs.map OV.opt) (us.map OV.opt) = (false, 0)) := by
            have := HF.out
            rw [HR.out] at this
            exact Lib.hid (by simpa using this)
          go_wp2
          go_ret2
          exact fitsTells_of HF2.out Ext.out
  have h3' : (code == 3) = false := by simpa using h3
  have HF : Hid (fitsF code (vs.map OV.opt) (us.map OV.opt) = (false, 90)) := by unfold Hid fitsF; simp [h2, h3, h4]
  clear h2 h3 h4
  go_enter Tryd.func22, Tryd.ntmps22
  go_wp2
  go_ret2
  exact fitsTells_of HF.out Ext.out
end Go.Proofs.YthlfdckcnpnemaaDoor
