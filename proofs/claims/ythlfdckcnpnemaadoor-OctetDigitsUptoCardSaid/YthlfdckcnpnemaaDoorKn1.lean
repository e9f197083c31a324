/-
  tetherlaw01.known. No condition.
-/
import Derived.Test.YthlfdckcnpnemaaDoorPut
namespace Go.Proofs.YthlfdckcnpnemaaDoor
open Go.RowKit
set_option linter.unusedVariables false
set_option linter.unusedSimpArgs false

set_option maxHeartbeats 1000000 in
theorem known01_any (w : World) : Calls Tryd.prog 10 #[] w fun e w' => e = .returned (.bool true) ∧ Below w.heap.size w w' := by
  go_enter Tryd.func10, Tryd.ntmps10
  go_wp2_with fail
  refine (put_any none 0 0 4660 2 [] rfl (by omega) (by omega) (by omega) (by omega) (by omega) w (Cells.nil_ _ _)).mono ?_
  rintro e w1 ⟨v1, rfl, ho1, hb1⟩
  rw [show putE 4660 2 = 0 from by decide]
  rw [show putL [] 4660 2 = [18, 52] from by decide] at ho1
  obtain ⟨g1, c1, rfl, hg1, hl1, hc1⟩ := own_form ho1 (by decide)
  have HO1 := Lib.hid ho1
  clear ho1
  simp only [List.length_cons, List.length_nil, Nat.zero_add, Nat.reduceAdd] at hc1 ⊢
  go_wp2_with fail
  refine (put_any none 0 0 256 1 [] rfl (by omega) (by omega) (by omega) (by omega) (by omega) w1 (Cells.nil_ _ _)).mono ?_
  rintro e w2 ⟨v2, rfl, ho2, hb2⟩
  rw [show putE 256 1 = 1 from by decide]
  have HO2 := Lib.hid (own_below HO1.out hb2)
  clear HO1 ho2
  go_wp2_with fail
  refine (get_any (some ⟨w2.heap.size, 0, none⟩) 3 3 1 2 [18, 52, 86] rfl (by omega) (by omega) (by omega) (by omega) (by omega) (by omega) _ ?_ ?_).mono ?_
  · intro _
    exact ⟨_, rfl, World.news_of_block (cs := #[.int .u8 18, .int .u8 52, .int .u8 86]) (t := 5) (fr := (0, 0)) (heap_alloc_new _ _)⟩
  · exact Byt.cons (by omega) (by omega) (Byt.cons (by omega) (by omega) (Byt.one (by omega) (by omega)))
  rintro e w3 ⟨rfl, q, rfl⟩
  rw [show getF [18, 52, 86] 1 2 = (13398, 0) from by decide]
  have hcell := ((HO2.out.alloc (.cells #[.int .u8 18, .int .u8 52, .int .u8 86] 5)).cellAt 0 (by decide))
  have hcell' : ((w2.alloc (.cells #[.int .u8 18, .int .u8 52, .int .u8 86] 5)).drewN q).cell? ⟨g1, 0, none⟩ = some (.int .u8 18) := hcell
  clear hcell
  have HB := Lib.hid (below_drewN (((hb1.trans (hb2.mono hb1.size))).alloc (Nat.le_trans hb1.size hb2.size) (.cells #[.int .u8 18, .int .u8 52, .int .u8 86] 5)) q)
  go_wp2
  go_ret
  exact ⟨rfl, HB.out⟩

end Go.Proofs.YthlfdckcnpnemaaDoor
