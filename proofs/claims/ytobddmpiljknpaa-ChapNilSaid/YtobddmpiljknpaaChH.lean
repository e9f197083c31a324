/-
  chap: judges: New of one secret; what a judge holds. No condition beyond sizes.
-/
import Derived.Test.YtobddmpiljknpaaChG
import Derived.Test.YtobddmpiljknpaaPpI
namespace Go.Proofs.Ytobddmpiljknpaa
open Go.RowKit
set_option linter.unusedVariables false
set_option linter.unusedSimpArgs false

theorem csecs_any (A : Option Addr) (n c : Nat) (us : List SV) (hn : us.length = n) (hn' : n * 72 ≤ 140737488351232) (w : World) (hx : Cells w A (secs us)) :
    Calls Try.prog 100 #[.slice A n c] w fun e w' => ∃ v, e = .returned v ∧ w'.ownsRow w.heap.size 44 4 v n (secs us) ∧ Below w.heap.size w w' := by
  have keq := fun W => Lib.run_eql_slice_nil (P := Try.prog) W 37 44 A n c 0 0 Try.underlying37
  have Hn := Lib.hid hn
  rcases A with _ | ad
  · have hz : n = 0 := by
      rcases Nat.eq_zero_or_pos n with h | h
      · exact h
      · obtain ⟨_, h2, _⟩ := hx (by rw [secs_length]; omega)
        cases h2
    subst hz
    have HZ : Hid (us = []) := List.eq_nil_of_length_eq_zero hn
    clear hn
    go_enter Try.func100, Try.ntmps100
    go_wp2
    go_ret
    exact ⟨_, rfl, by rw [HZ.out]; exact own_nil _ _ _ _, Below.refl _ _⟩
  · clear hn
    go_enter Try.func100, Try.ntmps100
    have ho0 : (w.alloc (.cells #[] 44)).ownsRow w.heap.size 44 4 (.slice (some ⟨w.heap.size, 0, none⟩) 0 0) 0 [] :=
      own_of_block (cur := []) (heap_alloc_new w _) (Nat.le_refl _) (Nat.le_refl _) (by omega) rfl
    have HO0 := Lib.hid ho0
    clear ho0
    go_wp2_with
      (at_builtin
       refine wp_append_cells (w0 := w) w.heap.size rfl (.tmp 5) (.tmp 6) 37 44 (.agg zSec) 4 72 rfl Try.underlying37 info_sec rfl (by decide) (by decide) (.slice (some ⟨w.heap.size, 0, none⟩) 0 0) 0 [] (some ad) n c (secs us) rfl rfl ?_ (secs_one _) HO0.out (hx.alloc _) ((Below.refl _ _).alloc (Nat.le_refl _) _) (by simp) ?_ ?_
       · rw [secs_length, Hn.out]
       · omega
       intro v1 w1 ho1 hb1 _ _
       have HO1 := Lib.hid ho1
       have HB1 := Lib.hid hb1
       clear ho1 hb1)
    go_ret
    refine ⟨_, rfl, ?_, HB1.out⟩
    have h := HO1.out
    rwa [Nat.zero_add, List.nil_append] at h
abbrev bAlice : ByteArray := ⟨#[97, 108, 105, 99, 101]⟩
abbrev bMill : ByteArray := ⟨#[109, 105, 108, 108]⟩
abbrev bX : ByteArray := ⟨#[120]⟩
/-- A judge, at block J. -/
def JudgeAt (w : World) (J : Nat) (nm : ByteArray) (LA : Option Addr) (ln lc : Nat) (st : Int) (who : ByteArray) (ask pc pid : Int) (PA : Option Addr) (pn pk : Nat) : Prop :=
  w.heap[J]? = some (.cells #[.string nm, .slice LA ln lc, .int .i64 st, .string who, .int .i64 ask, .int .i64 pc, .int .i64 pid, .slice PA pn pk] 137 (0, 0))
def NewJ (w : World) (e : Ending) (w' : World) : Prop := ∃ J LA lc A' k', e = .returned (.tuple #[.pointer (some ⟨J, 0, none⟩), .int .i64 0]) ∧ w.heap.size ≤ J ∧ JudgeAt w' J bMill LA 1 lc 0 ⟨#[]⟩ 0 0 0 none 0 0 ∧
  Cells w' LA (secs [⟨bAlice, bMill, bX, A', 0, k', []⟩]) ∧ (∀ ad, LA = some ad → ad.block ≠ J ∧ ad.block < w'.heap.size) ∧ Below w.heap.size w w'
theorem wrong_alice : wrongF [⟨bAlice, bMill, bX, none, 0, 0, []⟩] = (0, 0) := by decide +kernel
set_option maxRecDepth 100000 in
set_option maxHeartbeats 4000000 in
theorem newJ_any (ad : Addr) (c : Nat) (w : World) (hx : Cells w (some ad) (secs [⟨bAlice, bMill, bX, none, 0, 0, []⟩])) :
    Calls Try.prog 66 #[.string bMill, .slice (some ad) 1 c] w (NewJ w) := by
  have HX := Lib.hid hx
  clear hx
  have HSX : Hid (SecsAt w (some ad) [⟨bAlice, bMill, bX, none, 0, 0, []⟩]) := ⟨HX.out, fun u hu => by
    simp only [List.mem_singleton] at hu
    subst hu
    exact ⟨by decide, by decide, by decide, rfl, Nat.zero_le _, Nat.le_refl _, Cells.nil_ _ _⟩⟩
  go_enter Try.func66, Try.ntmps66
  go_wp2_with fail
  refine (named_any bMill (by decide) _).mono ?_
  rintro e w1 ⟨rfl, rfl⟩
  rw [show nameF (strB bMill) = true by decide +kernel]
  go_wp2_with fail
  refine (new_any (some ad) 1 c [⟨bAlice, bMill, bX, none, 0, 0, []⟩] rfl (by decide) _ HSX.out).mono ?_
  rintro e w1 ⟨hb1, he⟩
  rw [if_neg (by rw [wrong_alice]; simp)] at he
  obtain ⟨T, vs, rfl, _⟩ := he
  have S1 : Step w1 w := ⟨hb1⟩
  clear hb1
  go_wp2_with fail
  refine (csecs_any (some ad) 1 c [⟨bAlice, bMill, bX, none, 0, 0, []⟩] rfl (by decide) _ HX.out.ext).mono ?_
  rintro e w2 ⟨v, rfl, ho2, hb2⟩
  have S2 : Step w2 w1 := ⟨hb2⟩
  obtain ⟨g, cap, rfl, hbg, hgl, hcap⟩ := own_form ho2 (by omega)
  have HO2 := Lib.hid ho2
  have X2 : Hid (Ext w w2) := (inferInstance : Ext w w2)
  have HG : Hid (w.heap.size ≤ g) := Nat.le_trans S1.out.size hbg
  obtain ⟨cur, hrow, hcur⟩ : ∃ cur : Array Value, w2.heap[g]? = some (.cells cur 44 (0, 0)) ∧ cur.toList.take 4 = secs [⟨bAlice, bMill, bX, none, 0, 0, []⟩] := by
    rcases ho2.2 with ⟨h, _⟩ | ⟨g', cap', cur, hv, _, hg, _, _, _, ht⟩
    · cases h
    · injection hv with h1 _ _
      injection h1 with h1
      injection h1 with h1
      subst h1
      exact ⟨cur, hg, ht⟩
  have HROW := Lib.hid hrow
  have HCUR := Lib.hid hcur
  have p3 : w2.cell? ⟨g, 3, none⟩ = some (.slice none 0 0) := by
    rw [at_cell hrow, ← Array.getElem?_toList]
    have h : (cur.toList.take 4)[3]? = some (.slice none 0 0) := by rw [hcur]; rfl
    rwa [List.getElem?_take_of_lt (by decide)] at h
  have f3 : w2.frozen? ⟨g, 3, none⟩ = false := at_frozen hrow 3
  clear ho2 hb2 hrow hcur
  go_wp2_with fail
  refine wp_loop_rounds 2 ?_
  rw [rounds_succ]
  go_wp2_with fail
  refine (clone64_any none 0 0 [] rfl (by decide) _ (Cells.nil_ _ _)).mono ?_
  rintro e w3 ⟨v, rfl, ho3, hb3⟩
  obtain ⟨A3, c3, rfl, hc3⟩ := own_slice ho3
  have S3 : Step w3 w2 := ⟨hb3⟩
  have p3 : w3.cell? ⟨g, 3, none⟩ = some (.slice none 0 0) := cell_ext p3
  have f3 : w3.frozen? ⟨g, 3, none⟩ = false := at_frozen (at_ext HROW.out) 3
  go_wp2_with fail
  rw [rounds_succ]
  go_wp2_with fail
  have HSET : Hid ((w3.setCell ⟨g, 3, none⟩ (.slice A3 0 c3)).heap[g]? = some (.cells (cur.setIfInBounds 3 (.slice A3 0 c3)) 44 (0, 0))) := at_set (at_ext HROW.out) 3 _
  have HCE : Hid (Cells (w3.setCell ⟨g, 3, none⟩ (.slice A3 0 c3)) (some ⟨g, 0, none⟩) (secs [⟨bAlice, bMill, bX, A3, 0, c3, []⟩])) := by
    intro _
    refine ⟨_, rfl, fun j u hu => ?_⟩
    rw [add_plain]
    refine (at_cell HSET.out j).trans ?_
    have hj : j < 4 := by
      have h := (List.getElem?_eq_some_iff.1 hu).1
      exact h
    have h4 : ∀ i, i < 4 → cur[i]? = (secs [⟨bAlice, bMill, bX, none, 0, 0, []⟩])[i]? := fun i hi => by
      rw [← HCUR.out, List.getElem?_take_of_lt hi, Array.getElem?_toList]
    have h3 := h4 3 (by decide)
    have h3' : 3 < cur.size := by
      rcases Nat.lt_or_ge 3 cur.size with h | h
      · exact h
      · rw [Array.getElem?_eq_none h] at h3
        cases h3
    rw [Array.getElem?_setIfInBounds]
    by_cases hq : 3 = j
    · subst hq
      rw [if_pos rfl, if_pos h3']
      exact hu
    · rw [if_neg hq, h4 j hj]
      rcases j with _ | _ | _ | _ | j
      · exact hu
      · exact hu
      · exact hu
      · exact absurd rfl hq
      · omega
  have HB : Hid (Below w.heap.size w (w3.setCell ⟨g, 3, none⟩ (.slice A3 0 c3))) := (Ext.out (w := w) (w' := w3)).setCell (p := ⟨g, 3, none⟩) HG.out _
  go_ret2
  refine ⟨w3.heap.size, some ⟨g, 0, none⟩, cap, A3, c3, rfl, (inferInstance : Ext w w3).out.size, ?_, HCE.out.alloc _, ?_, ?_⟩
  · unfold JudgeAt
    exact at_new1 (by simp)
  · intro ad ha
    injection ha with ha
    rw [← ha]
    have := S3.out.size
    refine ⟨?_, ?_⟩
    · show g ≠ _; omega
    · simp; omega
  · exact HB.out.alloc (by simp; exact (inferInstance : Ext w w3).out.size) _
end Go.Proofs.Ytobddmpiljknpaa
