/-
  What opt.Subset tells. No condition beyond sizes.
-/
import Derived.Test.YthlfdckcnpnemaaDoorOptW
import Derived.Deep.RegionWith
namespace Go.Proofs.YthlfdckcnpnemaaDoor
open Go.RowKit
set_option linter.unusedVariables false
set_option linter.unusedSimpArgs false

def subStep (a : List (Int × List Int)) (x : Int × List Int) : List (Int × List Int) :=
  match a with
  | [] => []
  | y :: a' => if oneB y x = true then a' else y :: a'
def subF (a l : List (Int × List Int)) : List (Int × List Int) := l.foldl subStep a
def subB (a l : List (Int × List Int)) : Bool := (subF a l).isEmpty
theorem subF_snoc (a l : List (Int × List Int)) (x : Int × List Int) : subF a (l ++ [x]) = subStep (subF a l) x := by simp [subF]
theorem subF_of_sublist : ∀ (l a : List (Int × List Int)), a.Sublist l → subF a l = []
  | [], a, h => by
    have : a = [] := by simpa using h
    subst this
    rfl
  | x :: l, a, h => by
    show subF (subStep a x) l = []
    apply subF_of_sublist l
    match a, h with
    | [], _ => exact List.nil_sublist _
    | y :: a', h =>
      unfold subStep
      simp only
      split
      · rename_i he
        cases h with
        | cons _ h => exact (List.sublist_cons_self _ _).trans h
        | cons_cons _ h => exact h
      · rename_i he
        cases h with
        | cons _ h => exact h
        | cons_cons _ h => simp [oneB] at he
theorem subB_of_sublist {a l : List (Int × List Int)} (h : a.Sublist l) : subB a l = true := by unfold subB; rw [subF_of_sublist l a h]; rfl

theorem flat_drop_one (vs : List OV) : (flat vs).drop (1 * 2) = flat vs.tail := by
  cases vs with
  | nil => rfl
  | cons v vs => rw [flat_cons]; rfl
set_option maxRecDepth 100000 in
set_option maxHeartbeats 1000000 in
theorem subset_any (A B : Option Addr) (n c m d : Nat) (us vs : List OV) (hm : us.length = m) (hn : vs.length = n) (hn' : n ≤ 4611686018427387903) (hm' : m ≤ 4611686018427387903) (hd : m ≤ d)
    (w : World) (hx : Cells w A (flat vs)) (hy : Cells w B (flat us)) (gx : Good w vs) (gy : Good w us) :
    Calls Tryd.prog 24 #[.slice B m d, .slice A n c] w fun e w' => e = .returned (.bool (subB (us.map OV.opt) (vs.map OV.opt))) ∧ Below w.heap.size w w' := by
  have Hn := Lib.hid hn
  have Hm := Lib.hid hm
  have HX := Lib.hid hx
  have HY := Lib.hid hy
  have GX := Lib.hid gx
  have GY := Lib.hid gy
  clear hn hm hx hy gx gy
  go_enter Tryd.func24, Tryd.ntmps24
  go_wp2
  go_loopw [0, 9] (fun b i wr => ∃ (k : Nat) (B' : Option Addr) (m' d' : Nat) (rs : List OV), b = .slice B' m' d' ∧ i = .int .i64 k ∧ k ≤ n ∧ m' ≤ d' ∧ m' ≤ 4611686018427387903 ∧ Hid (rs.length = m') ∧ Hid (Cells w B' (flat rs)) ∧ Hid (Good w rs) ∧
    Hid (rs.map OV.opt = subF (us.map OV.opt) ((vs.map OV.opt).take k)) ∧ Hid (Below w.heap.size w wr)) (fun _ i _ => n - (intOf i).toNat)
  case atStart => exact ⟨0, B, m, d, us, rfl, rfl, by omega, hd, hm', Hm.out, HY.out, GY.out, rfl, Below.refl _ _⟩
  case round =>
    obtain ⟨k, B', m', d', rs, rfl, rfl, hk, hmd, hmb, HR, HC, HG, HE, HB⟩ := hrel
    have X0 : Ext w wr := ⟨HB.out⟩
    by_cases hlt : k < n
    · obtain ⟨v, hv, hvm⟩ := optD (vs := vs) (k := k) (by rw [Hn.out]; exact hlt)
      obtain ⟨ad, rfl, hc0, hc1⟩ := opt_at (HX.out.ext (w' := wr)) hv
      have GV := Lib.hid (GX.out v hvm)
      have HT : Hid ((vs.map OV.opt).take (k + 1) = (vs.map OV.opt).take k ++ [v.opt]) := take_snoc (by rw [List.getElem?_map, hv]; rfl)
      clear hv hvm
      obtain ⟨t, VA, vn, vc, xs⟩ := v
      simp only at hc0 hc1
      by_cases h0 : m' = 0
      · subst h0
        have HN : Hid (rs = []) := List.eq_nil_of_length_eq_zero HR.out
        go_wp2
        go_quiet (fail)
        go_wp2
        go_roundw
        case rel =>
          refine ⟨k + 1, B', 0, d', rs, rfl, by go_num, by omega, hmd, hmb, HR.out, HC.out, HG.out, ?_, Ext.out⟩
          show _ = _
          rw [HT.out, subF_snoc, ← HE.out, HN.out]
          rfl
        case measure => simp [intOf]; omega
      · have h0' : 0 < m' := by omega
        have h0i : (0 : Int) < (m' : Int) := by omega
        obtain ⟨u, hu, hum⟩ := optD (vs := rs) (k := 0) (by rw [HR.out]; exact h0')
        obtain ⟨bd, rfl, hd0, hd1⟩ := opt_at (HC.out.ext (w' := wr)) hu
        have hd0' : wr.cell? bd = some (.int .i64 u.t) := hd0
        have hd1' : wr.cell? ⟨bd.block, bd.off + 1, none⟩ = some (.slice u.A u.n u.c) := hd1
        have GU := Lib.hid (HG.out u hum)
        have HS : Hid (rs = u :: rs.tail) := by
          cases rs with
          | nil => cases hu
          | cons y ys =>
            simp at hu
            subst hu
            rfl
        have hbl : bd.block < wr.heap.size := World.block_lt_of_cell? _ _ hd0'
        clear hu hum hd0 hd1
        obtain ⟨s, UA, un, uc, ys⟩ := u
        simp only at hd0' hd1'
        rcases hO : oneB (s, ys) (t, xs) with _ | _
        · have HO := Lib.hid hO
          clear hO
          go_wp2
          go_region_with ((go_at_call 40); (refine (one_any s t UA VA un vn uc vc ys xs GU.out.1 GV.out.1 GU.out.2.2.2.1 GV.out.2.2.2.1 _ (by exact Cells.ext GU.out.2.2.2.2) (by exact Cells.ext GV.out.2.2.2.2)).mono ?_); (rintro e w1 ⟨rfl, hb1⟩); (rw [HO.out]); (have S1 : Step w1 _ := ⟨hb1⟩); (have X1 : Ext w w1 := inferInstance); clear hb1)
          all_goals go_wp2
          all_goals go_roundw
          all_goals first
            | (refine ⟨k + 1, some bd, m', d', rs, rfl, by go_num, by omega, hmd, hmb, HR.out, HC.out, HG.out, ?_, Ext.out⟩
               show _ = _
               rw [HT.out, subF_snoc, ← HE.out, HS.out]
               have h3 := HO.out
               simp only [List.map_cons, subStep, OV.opt, h3]
               rfl)
            | (simp [intOf]; omega)
        · have HO := Lib.hid hO
          clear hO
          go_wp2
          go_region_with ((go_at_call 40); (refine (one_any s t UA VA un vn uc vc ys xs GU.out.1 GV.out.1 GU.out.2.2.2.1 GV.out.2.2.2.1 _ (by exact Cells.ext GU.out.2.2.2.2) (by exact Cells.ext GV.out.2.2.2.2)).mono ?_); (rintro e w1 ⟨rfl, hb1⟩); (rw [HO.out]); (have S1 : Step w1 _ := ⟨hb1⟩); (have X1 : Ext w w1 := inferInstance); clear hb1)
          all_goals go_wp2
          all_goals
            refine ⟨⟨k + 1, _, m' - 1, d' - 1, rs.tail, rfl, by go_num, by omega, by omega, by omega, ?_, ?_, ?_, ?_, Ext.out⟩, by simp [intOf]; omega⟩
            · show _ = _
              rw [List.length_tail, HR.out]
            · have h1 := HC.out.drop (n := m') (c := d') (size := 2) (by rw [flat_length, HR.out]) hmd 1 (by omega)
              rw [flat_drop_one] at h1
              exact h1
            · exact fun x hx => HG.out x (List.mem_of_mem_tail hx)
            · show _ = _
              have h1 := HE.out
              rw [HS.out] at h1
              rw [HT.out, subF_snoc, ← h1]
              have h3 := HO.out
              simp only [List.map_cons, subStep, OV.opt, h3]
              rfl
    · go_wp2
      go_ret
      obtain rfl : k = n := by omega
      have h1 := HE.out
      rw [List.take_of_length_le (by rw [List.length_map, Hn.out]; omega)] at h1
      refine ⟨ret_bool ?_, HB.out⟩
      unfold subB
      rw [← h1]
      have h2 := HR.out
      cases rs with
      | nil => simp at h2; subst h2; rfl
      | cons y ys => simp at h2; subst h2; simp; omega
end Go.Proofs.YthlfdckcnpnemaaDoor
