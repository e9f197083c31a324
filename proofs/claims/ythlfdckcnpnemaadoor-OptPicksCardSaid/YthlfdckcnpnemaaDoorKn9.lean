/-
  tetherlaw09.known. No condition.
-/
import Derived.Test.YthlfdckcnpnemaaDoorOpt
import Derived.Test.YthlfdckcnpnemaaDoorOpts
namespace Go.Proofs.YthlfdckcnpnemaaDoor
open Go.RowKit
set_option linter.unusedVariables false
set_option linter.unusedSimpArgs false

theorem known_opts : optsF [] [1, 4, 5, 220, 7, 2] = ([(1, [5, 220]), (7, [])], 0) := by
  rw [optsF_step (by simp) (by simp) (by simp) (by simp)]
  have e1 : ([1, 4, 5, 220, 7, 2] : List Int).drop (([1, 4, 5, 220, 7, 2] : List Int).getD 1 0).toNat = [7, 2] := by decide
  have e2 : (([1, 4, 5, 220, 7, 2] : List Int).drop 2).take ((([1, 4, 5, 220, 7, 2] : List Int).getD 1 0).toNat - 2) = [5, 220] := by decide
  rw [e1, e2]
  rw [optsF_step (by simp) (by simp) (by simp) (by simp)]
  have e3 : ([7, 2] : List Int).drop (([7, 2] : List Int).getD 1 0).toNat = [] := by decide
  rw [e3, optsF_done (by simp)]
  rfl
set_option maxHeartbeats 4000000 in
theorem known09_any (w : World) : Calls Tryd.prog 11 #[] w fun e w' => e = .returned (.bool true) ∧ Below w.heap.size w w' := by
  go_enter Tryd.func11, Tryd.ntmps11
  go_wp2_with fail
  refine (pack_any 1 1 none 0 0 [] rfl (by omega) (by omega) (by omega) (by omega) (by omega) _ (Cells.nil_ _ _)).mono ?_
  rintro e w1 ⟨v1, rfl, ho1, hb1⟩
  have e1 : packE 1 1 [] = 0 := by decide
  have l1 : packL 1 1 [] = [1, 1, 0, 4] := by decide
  rw [e1]
  rw [l1] at ho1
  obtain ⟨A1, c1, rfl, hc1⟩ := own_slice ho1
  have HC1 := Lib.hid (own_cells ho1)
  have HB1 := Lib.hid hb1
  clear ho1 hb1 e1 l1 hc1
  go_wp2_with fail
  refine (options_any (some ⟨w1.heap.size, 0, none⟩) 6 6 [1, 4, 5, 220, 7, 2] rfl (by omega) (Nat.le_refl _) (by intro x hx; simp at hx; omega) _ (cells_box w1 _ rfl (nums .u8 [1, 4, 5, 220, 7, 2]) _)).mono ?_
  rintro e w2 ⟨v2, vs, rfl, hvs, ho2, _, hv2, hb2⟩
  rw [known_opts] at hvs
  rw [known_opts]
  obtain ⟨a, vs', rfl, ha0, hvs'⟩ := List.map_eq_cons_iff.1 hvs
  obtain ⟨b, vs'', rfl, hb0, hvs''⟩ := List.map_eq_cons_iff.1 hvs'
  obtain rfl := List.map_eq_nil_iff.1 hvs''
  have ha : a.t = 1 := congrArg Prod.fst ha0
  have hb : b.t = 7 := congrArg Prod.fst hb0
  have had : a.d = [5, 220] := congrArg Prod.snd ha0
  have han : a.n = 2 := by rw [← (hv2 a (by simp)).1, had]; rfl
  obtain ⟨g, c2, rfl, hg1, hg2, hc2⟩ := own_form ho2 (by simp)
  have hcell := own_cells ho2 (by simp [flat_cons])
  obtain ⟨ad, he, hcell⟩ := hcell
  injection he with he
  subst he
  have hd0 := hcell 0 _ rfl
  have hd1 := hcell 1 _ rfl
  have hd2 := hcell 2 _ rfl
  rw [add_plain] at hd0 hd1 hd2
  rw [ha] at hd0
  rw [han] at hd1
  rw [hb] at hd2
  have HC12 := Lib.hid (HC1.out.below ((((Below.refl _ _).alloc (Nat.le_refl _) _)).trans (hb2.mono (by simp))))
  have HB2 := Lib.hid (below_then HB1.out HB1.out.size ((((Below.refl _ _).alloc (Nat.le_refl _) _)).trans (hb2.mono (by simp))))
  clear hcell ho2 hv2 hvs hvs' hvs'' ha0 hb0 had hb2 ha han hb hc2
  go_wp2_with fail
  refine (same_any _ _ 4 4 _ _ [1, 1, 0, 4] [1, 1, 0, 4] rfl rfl (by omega) (by omega) _ ?_ (cells_box w2 _ rfl (nums .u8 [1, 1, 0, 4]) _)).mono ?_
  · exact HC12.out.alloc _
  rintro e w3 ⟨rfl, hd3⟩
  simp only [decide_true]
  have hb3 : Below w2.heap.size w2 w3 := below_drawn ((Below.refl _ _).alloc (Nat.le_refl _) _) hd3
  have HB3 := Lib.hid (below_then HB2.out HB2.out.size hb3)
  have hc0 := (hb3.cell (World.block_lt_of_cell? _ _ hd0)).trans hd0
  have hc1 := (hb3.cell (World.block_lt_of_cell? _ _ hd1)).trans hd1
  have hc2 := (hb3.cell (World.block_lt_of_cell? _ _ hd2)).trans hd2
  clear hd3 hb3 hd0 hd1 hd2
  go_wp2_with fail
  go_ret
  exact ⟨rfl, HB3.out⟩

end Go.Proofs.YthlfdckcnpnemaaDoor
