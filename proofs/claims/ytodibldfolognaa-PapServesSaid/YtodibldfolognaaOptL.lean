/-
  Lists of options: words for memory; what opt.one, opt.again and the reference's One and Same tell. No condition beyond sizes.
-/
import Derived.Test.YtodibldfolognaaBytes
import Derived.Test.YtodibldfolognaaOpts
namespace Go.Proofs.Ytodibldfolognaa
open Go.RowKit
set_option linter.unusedVariables false
set_option linter.unusedSimpArgs false

def oneB (a b : Int × List Int) : Bool := decide (a = b)
theorem oneB_type {a b : Int × List Int} (h : a.1 ≠ b.1) : oneB a b = false := by
  unfold oneB
  rw [decide_eq_false]
  rintro rfl
  exact h rfl
theorem oneB_data (t : Int) (x y : List Int) : oneB (t, x) (t, y) = decide (x = y) := by simp [oneB]

theorem OV.Ok.ext {w w' : World} [h : Ext w w'] {v : OV} (k : v.Ok w) : v.Ok w' := k.below h.out
theorem Good.ext {w w' : World} [h : Ext w w'] {vs : List OV} (k : Good w vs) : Good w' vs := k.below h.out

set_option maxRecDepth 100000 in
set_option maxHeartbeats 400000 in
theorem rone_any (t s : Int) (A B : Option Addr) (n m c d : Nat) (xs ys : List Int) (hn : xs.length = n) (hm : ys.length = m) (hn' : n ≤ 9223372036854775807) (hm' : m ≤ 9223372036854775807) (w : World) (hx : Cells w A (nums .u8 xs)) (hy : Cells w B (nums .u8 ys)) :
    Calls Try.prog 93 #[.agg #[.int .i64 t, .slice A n c], .agg #[.int .i64 s, .slice B m d]] w fun e w' => e = .returned (.bool (oneB (t, xs) (s, ys))) ∧ Below w.heap.size w w' := by
  by_cases h : t = s
  · subst h
    have HE := Lib.hid (oneB_data t xs ys)
    go_enter Try.func93, Try.ntmps93
    go_wp2_with fail
    refine (same_any A B n m c d xs ys hn hm hn' hm' _ (by exact hx.ext) (by exact hy.ext)).mono ?_
    rintro e w1 ⟨rfl, q, rfl⟩
    generalize decide (xs = ys) = b at *
    go_wp2_with fail
    go_ret
    exact ⟨ret_bool HE.out.symm, Ext.out⟩
  · have h' : (t == s) = false := by simpa using h
    have HE := Lib.hid (oneB_type (a := (t, xs)) (b := (s, ys)) h)
    clear hn hm h
    go_enter Try.func93, Try.ntmps93
    go_wp2
    go_ret
    exact ⟨ret_bool HE.out.symm, Ext.out⟩
/-- The cells of the option at a place. -/
theorem opt_at {w : World} {A : Option Addr} {vs : List OV} {k : Nat} {v : OV} (h : Cells w A (flat vs)) (hk : vs[k]? = some v) : ∃ ad, A = some ad ∧ w.cell? (ad.add (k * 2)) = some (.int .i64 v.t) ∧
    w.cell? ⟨(ad.add (k * 2)).block, (ad.add (k * 2)).off + 1, none⟩ = some (.slice v.A v.n v.c) := by
  obtain ⟨h0, h1⟩ := flat_get hk
  have hl : k < vs.length := (List.getElem?_eq_some_iff.1 hk).1
  obtain ⟨ad, rfl, hc⟩ := h (by rw [flat_length]; omega)
  refine ⟨ad, rfl, hc _ _ h0, ?_⟩
  have := hc _ _ h1
  rw [← add_of_add] at this
  exact this
theorem take_more {α : Type} {xs ys : List α} {k : Nat} {x : α} (h : xs.take k = ys.take k) (hx : xs[k]? = some x) (hy : ys[k]? = some x) : xs.take (k + 1) = ys.take (k + 1) := by
  rw [List.take_add_one, List.take_add_one, h, hx, hy]
theorem optD {vs : List OV} {k : Nat} (h : k < vs.length) : ∃ v, vs[k]? = some v ∧ v ∈ vs := ⟨vs[k], List.getElem?_eq_getElem h, List.getElem_mem h⟩

def sameB (a b : List (Int × List Int)) : Bool := decide (a = b)
set_option maxRecDepth 100000 in
set_option maxHeartbeats 1000000 in
theorem same9_any (A B : Option Addr) (n m c d : Nat) (vs us : List OV) (hn : vs.length = n) (hm : us.length = m) (hn' : n ≤ 4611686018427387903) (hm' : m ≤ 4611686018427387903)
    (w : World) (hx : Cells w A (flat vs)) (hy : Cells w B (flat us)) (gx : Good w vs) (gy : Good w us) :
    Calls Try.prog 29 #[.slice A n c, .slice B m d] w fun e w' => e = .returned (.bool (sameB (vs.map OV.opt) (us.map OV.opt))) ∧ Below w.heap.size w w' := by
  by_cases h : n = m
  · subst h
    have Hn := Lib.hid hn
    have Hm := Lib.hid hm
    have HX := Lib.hid hx
    have HY := Lib.hid hy
    have GX := Lib.hid gx
    have GY := Lib.hid gy
    clear hn hm hx hy gx gy
    go_enter Try.func29, Try.ntmps29
    go_wp2
    go_loopw [5] (fun i wr => ∃ k : Nat, i = .int .i64 k ∧ k ≤ n ∧ Hid ((vs.map OV.opt).take k = (us.map OV.opt).take k) ∧ Hid (Below w.heap.size w wr)) (fun i _ => n - (intOf i).toNat)
    case atStart => exact ⟨0, rfl, by omega, rfl, Below.refl _ _⟩
    case round =>
      obtain ⟨k, rfl, hk, hT, hD⟩ := hrel
      have X0 : Ext w wr := ⟨hD.out⟩
      by_cases hlt : k < n
      · obtain ⟨v, hv, hvm⟩ := optD (vs := vs) (k := k) (by rw [Hn.out]; exact hlt)
        obtain ⟨u, hu, hum⟩ := optD (vs := us) (k := k) (by rw [Hm.out]; exact hlt)
        obtain ⟨ad, rfl, hc0, hc1⟩ := opt_at (HX.out.ext (w' := wr)) hv
        obtain ⟨bd, rfl, hd0, hd1⟩ := opt_at (HY.out.ext (w' := wr)) hu
        have HV := Lib.hid hv
        have HU := Lib.hid hu
        have GV := Lib.hid ((GX.out v hvm).ext (w' := wr))
        have GU := Lib.hid ((GY.out u hum).ext (w' := wr))
        clear hv hu hvm hum
        obtain ⟨t, VA, vn, vc, xs⟩ := v
        obtain ⟨s, UA, un, uc, ys⟩ := u
        simp only at hc0 hc1 hd0 hd1
        rcases hO : oneB (t, xs) (s, ys) with _ | _
        ·
          have HO := Lib.hid hO
          clear hO
          go_wp2
          go_region_law
            (refine step_call ?hg Try.func93 (by kernel_rfl) (by kernel_rfl) #[.tmp 20, .tmp 24] #[119, 119] ?ho #[.agg #[.int .i64 t, .slice VA vn vc], .agg #[.int .i64 s, .slice UA un uc]] ?hv (rone_any t s VA UA vn un vc uc xs ys ?l1 ?l2 ?l3 ?l4 _ ?c1 ?c2) ?_
             (case hg => rfl)
             (case ho => rfl)
             (case hv => go_simp)
             (case l1 => exact GV.out.1)
             (case l2 => exact GU.out.1)
             (case l3 => have := GV.out.2.2.1; simp only at this; omega)
             (case l4 => have := GU.out.2.2.1; simp only at this; omega)
             (case c1 => exact Cells.ext GV.out.2.2.2.2)
             (case c2 => exact Cells.ext GU.out.2.2.2.2)
             rintro e w1 ⟨rfl, hb1⟩
             refine ⟨_, rfl, ?_⟩
             rw [HO.out]
             have S1 : Step w1 _ := ⟨hb1⟩
             have HX1 : Ext w w1 := inferInstance
             clear hb1)
          all_goals go_wp2
          all_goals go_ret
          all_goals
            refine ⟨ret_bool ?_, Ext.out⟩
            unfold sameB
            rw [decide_eq_false]
            intro he
            have h1 := congrArg (fun l => l[k]?) he
            simp only [List.getElem?_map, HV.out, HU.out, Option.map_some, Option.some.injEq] at h1
            have h2 := HO.out
            simp only [OV.opt] at h1
            rw [h1] at h2
            simp [oneB] at h2
        ·
          have HO := Lib.hid hO
          clear hO
          go_wp2
          go_region_law
            (refine step_call ?hg Try.func93 (by kernel_rfl) (by kernel_rfl) #[.tmp 20, .tmp 24] #[119, 119] ?ho #[.agg #[.int .i64 t, .slice VA vn vc], .agg #[.int .i64 s, .slice UA un uc]] ?hv (rone_any t s VA UA vn un vc uc xs ys ?l1 ?l2 ?l3 ?l4 _ ?c1 ?c2) ?_
             (case hg => rfl)
             (case ho => rfl)
             (case hv => go_simp)
             (case l1 => exact GV.out.1)
             (case l2 => exact GU.out.1)
             (case l3 => have := GV.out.2.2.1; simp only at this; omega)
             (case l4 => have := GU.out.2.2.1; simp only at this; omega)
             (case c1 => exact Cells.ext GV.out.2.2.2.2)
             (case c2 => exact Cells.ext GU.out.2.2.2.2)
             rintro e w1 ⟨rfl, hb1⟩
             refine ⟨_, rfl, ?_⟩
             rw [HO.out]
             have S1 : Step w1 _ := ⟨hb1⟩
             have HX1 : Ext w w1 := inferInstance
             clear hb1)
          all_goals go_wp2
          all_goals go_roundw
          all_goals first
            | exact ⟨k + 1, by go_num, by omega, take_more hT.out (by rw [List.getElem?_map, HV.out]; rfl) (by rw [List.getElem?_map, HU.out]; have h2 := HO.out; simp only [oneB, decide_eq_true_eq] at h2; simp only [Option.map_some, OV.opt, h2]), Ext.out⟩
            | (simp [intOf]; omega)
      · go_wp2
        go_ret
        refine ⟨ret_bool ?_, Ext.out⟩
        obtain rfl : k = n := by omega
        have hT := hT.out
        rw [List.take_of_length_le (by rw [List.length_map, Hn.out]; omega), List.take_of_length_le (by rw [List.length_map, Hm.out]; omega)] at hT
        simp [sameB, hT]
  · have hne : ((n : Int) != (m : Int)) = true := by simp only [bne_iff_ne, ne_eq]; omega
    have HF : Hid (sameB (vs.map OV.opt) (us.map OV.opt) = false) := by
      unfold Hid sameB
      rw [decide_eq_false]
      intro he
      have := congrArg List.length he
      simp at this
      omega
    clear hn hm h
    go_enter Try.func29, Try.ntmps29
    go_wp2
    go_ret
    exact ⟨ret_bool HF.out.symm, Ext.out⟩
end Go.Proofs.Ytodibldfolognaa
