/-
  tetherlaw17.known answers true: what must come of fixed calls. No condition.
-/
import Derived.Test.YtmopdimokoogmaaIp6E
import Derived.Test.YtmopdimokoogmaaIp6J
import Derived.Test.YtmopdimokoogmaaIp6K
import Derived.Test.YtmopdimokoogmaaConf
namespace Go.Proofs.Ytmopdimokoogmaa
open Go.RowKit
set_option linter.unusedVariables false
set_option linter.unusedSimpArgs false

theorem opts_one {us : List OV} {t : Int} {d : List Int} (h : us.map OV.opt = [(t, d)]) : ∃ u, us = [u] ∧ u.t = t ∧ u.d = d := by
  match us, h with
  | [u], h =>
    simp only [List.map_cons, List.map_nil, List.cons.injEq, and_true] at h
    exact ⟨u, rfl, congrArg Prod.fst h, congrArg Prod.snd h⟩
abbrev lit6 : Array Value := #[.int .u8 254, .int .u8 128, .int .u8 0, .int .u8 0, .int .u8 0, .int .u8 0, .int .u8 0, .int .u8 0, .int .u8 0, .int .u8 0, .int .u8 0, .int .u8 0, .int .u8 0, .int .u8 0, .int .u8 0, .int .u8 1]
theorem addr_one : (nums .u8 (addr17 1)).toArray = lit6 := rfl
set_option maxHeartbeats 4000000 in
theorem known17_any (w : World) : Calls Try.prog 13 #[] w fun e w' => e = .returned (.bool true) ∧ Below w.heap.size w w' := by
  go_enter Try.func13, Try.ntmps13
  go_wp2_with fail
  refine (opts17_any 5 (by omega) (by omega) _).mono ?_
  rintro e w1 ⟨v, us, rfl, ho, hu, hb1⟩
  have S1 : Step w1 _ := ⟨hb1⟩
  obtain ⟨A1, c1, rfl, _⟩ := own_slice ho.1
  obtain ⟨u, rfl, _, _⟩ := opts_one hu
  have HO := Lib.hid ho
  have HU := Lib.hid hu
  clear ho hu hb1
  go_wp2_with fail
  refine (judge17_any _ 5 0 5 5 A1 1 c1 [u] rfl rfl (by omega) ⟨by decide, by decide⟩ ⟨by decide, by decide⟩ _ (by exact own_cells (own_ext HO.out.1)) (by exact HO.out.good.ext)).mono ?_
  rintro e w2 ⟨v2, us2, rfl, ho2, hu2, hb2⟩
  have S2 : Step w2 _ := ⟨hb2⟩
  rw [HU.out] at hu2 ⊢
  have HJ : judgeF 5 0 5 5 [(1, be 5 8)] = (3, [(1, be 6 8)]) := by decide
  rw [HJ] at hu2 ⊢
  obtain ⟨A2, c2, rfl, _⟩ := own_slice ho2.1
  obtain ⟨u2, rfl, ht2, hd2⟩ := opts_one hu2
  have hl2 : u2.n = 8 := by have := (ho2.2.2.2.2 u2 (by simp)).1; rw [← this, hd2]; rfl
  have HO2 := Lib.hid ho2
  clear ho2 hu2 hb2 HJ
  go_wp2_with fail
  refine (addr17_any 1 (by omega) (by omega) _).mono ?_
  rintro e w3 ⟨rfl, hb3⟩
  have S3 : Step w3 _ := ⟨hb3⟩
  rw [addr_one]
  clear hb3
  have X3 : Ext w2 w3 := inferInstance
  obtain ⟨ad, rfl, hc0, hc1⟩ := opt_at (k := 0) (own_cells (own_ext (w' := w3) HO2.out.1)) rfl
  rw [hl2] at hc1
  have hc1' : w3.cell? ⟨ad.block, ad.off + 1, none⟩ = some (.slice u2.A 8 u2.c) := hc1
  have hoc := HO2.out.2.1 u2 (by simp)
  rw [hl2, hd2] at hoc
  obtain ⟨bd, hbd, hcb⟩ := (own_cells (own_ext (w' := w3) hoc)).num (i := 7) (by rw [be_length]; omega)
  rw [hbd] at hc1'
  have hcb' : w3.cell? ⟨bd.block, bd.off + 7, none⟩ = some (.int .u8 6) := hcb
  have hq1 : ∀ o, (w3.alloc o).cell? ⟨ad.block, ad.off + 1, none⟩ = some (.slice (some bd) 8 u2.c) := fun o => cell_ext hc1'
  have hq2 : ∀ o, (w3.alloc o).cell? ⟨bd.block, bd.off + 7, none⟩ = some (.int .u8 6) := fun o => cell_ext hcb'
  clear hoc hbd hcb hc0 hc1 hl2 ht2 hd2
  go_wp2_with fail
  refine (given_any 0 1 (by omega) (by omega) (by omega) (by omega) _).mono ?_
  rintro e w4 ⟨rfl, rfl⟩
  rw [show givF 0 1 = 2 by decide]
  go_wp2
  go_ret
  exact ⟨rfl, Ext.out⟩
end Go.Proofs.Ytmopdimokoogmaa
