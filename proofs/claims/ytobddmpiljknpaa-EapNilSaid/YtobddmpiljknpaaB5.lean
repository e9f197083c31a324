/-
  chap: judges: New of one secret; what a judge holds. No condition beyond sizes.
  chap: Judge.Ask of a Challenge that can be made. Conditions: sizes.
  chap: Judge.verdict of one that has passed; Take of a Response that holds. Conditions: sizes.
  chap: a judge that is not there; law13.known: chapter 13's example. No condition.
  law13.known: chapter 13's example. No condition.
-/
import Derived.Test.YtobddmpiljknpaaB4
import Derived.Test.YtobddmpiljknpaaB3
namespace Go.Proofs.Ytobddmpiljknpaa
open Go.RowKit
set_option linter.unusedVariables false
set_option linter.unusedSimpArgs false

theorem csecs_any (A : Option Addr) (n c : Nat) (us : List SV) (hn : us.length = n) (hn' : n * 72 ≤ 140737488351232) (w : World) (hx : Cells w A (secs us)) :
    Calls Try.prog 100 #[.slice A n c] w fun e w' => ∃ v, e = .returned v ∧ w'.ownsRow w.heap.size 44 4 v n (secs us) ∧ Below w.heap.size w w' := by
  have keq := fun W => Lib.run_eql_slice_nil (P := Try.prog) W 37 44 A n c 0 0 Try.underlying37
  have Hn := Lib.hid hn
  rcases A with _ | ad
  · have hz : n = 0 := by
      rcases Nat.eq_zero_or_pos n with h | h
      · exact h
      · obtain ⟨_, h2, _⟩ := hx (by rw [secs_length]; omega)
        cases h2
    subst hz
    have HZ : Hid (us = []) := List.eq_nil_of_length_eq_zero hn
    clear hn
    go_enter Try.func100, Try.ntmps100
    go_wp2
    go_ret
    exact ⟨_, rfl, by rw [HZ.out]; exact own_nil _ _ _ _, Below.refl _ _⟩
  · clear hn
    go_enter Try.func100, Try.ntmps100
    have ho0 : (w.alloc (.cells #[] 44)).ownsRow w.heap.size 44 4 (.slice (some ⟨w.heap.size, 0, none⟩) 0 0) 0 [] :=
      own_of_block (cur := []) (heap_alloc_new w _) (Nat.le_refl _) (Nat.le_refl _) (by omega) rfl
    have HO0 := Lib.hid ho0
    clear ho0
    go_wp2_with
      (at_builtin
       refine wp_append_cells (w0 := w) w.heap.size rfl (.tmp 5) (.tmp 6) 37 44 (.agg zSec) 4 72 rfl Try.underlying37 info_sec rfl (by decide) (by decide) (.slice (some ⟨w.heap.size, 0, none⟩) 0 0) 0 [] (some ad) n c (secs us) rfl rfl ?_ (secs_one _) HO0.out (hx.alloc _) ((Below.refl _ _).alloc (Nat.le_refl _) _) (by simp) ?_ ?_
       · rw [secs_length, Hn.out]
       · omega
       intro v1 w1 ho1 hb1 _ _
       have HO1 := Lib.hid ho1
       have HB1 := Lib.hid hb1
       clear ho1 hb1)
    go_ret
    refine ⟨_, rfl, ?_, HB1.out⟩
    have h := HO1.out
    rwa [Nat.zero_add, List.nil_append] at h
abbrev bAlice : ByteArray := ⟨#[97, 108, 105, 99, 101]⟩
abbrev bMill : ByteArray := ⟨#[109, 105, 108, 108]⟩
abbrev bX : ByteArray := ⟨#[120]⟩
/-- A judge, at block J. -/
def JudgeAt (w : World) (J : Nat) (nm : ByteArray) (LA : Option Addr) (ln lc : Nat) (st : Int) (who : ByteArray) (ask pc pid : Int) (PA : Option Addr) (pn pk : Nat) : Prop :=
  w.heap[J]? = some (.cells #[.string nm, .slice LA ln lc, .int .i64 st, .string who, .int .i64 ask, .int .i64 pc, .int .i64 pid, .slice PA pn pk] 137 (0, 0))
def NewJ (w : World) (e : Ending) (w' : World) : Prop := ∃ J LA lc A' k', e = .returned (.tuple #[.pointer (some ⟨J, 0, none⟩), .int .i64 0]) ∧ w.heap.size ≤ J ∧ JudgeAt w' J bMill LA 1 lc 0 ⟨#[]⟩ 0 0 0 none 0 0 ∧
  Cells w' LA (secs [⟨bAlice, bMill, bX, A', 0, k', []⟩]) ∧ (∀ ad, LA = some ad → ad.block ≠ J ∧ ad.block < w'.heap.size) ∧ Below w.heap.size w w'
theorem wrong_alice : wrongF [⟨bAlice, bMill, bX, none, 0, 0, []⟩] = (0, 0) := by decide +kernel
set_option maxRecDepth 100000 in
set_option maxHeartbeats 4000000 in
theorem newJ_any (ad : Addr) (c : Nat) (w : World) (hx : Cells w (some ad) (secs [⟨bAlice, bMill, bX, none, 0, 0, []⟩])) :
    Calls Try.prog 66 #[.string bMill, .slice (some ad) 1 c] w (NewJ w) := by
  have HX := Lib.hid hx
  clear hx
  have HSX : Hid (SecsAt w (some ad) [⟨bAlice, bMill, bX, none, 0, 0, []⟩]) := ⟨HX.out, fun u hu => by
    simp only [List.mem_singleton] at hu
    subst hu
    exact ⟨by decide, by decide, by decide, rfl, Nat.zero_le _, Nat.le_refl _, Cells.nil_ _ _⟩⟩
  go_enter Try.func66, Try.ntmps66
  go_wp2_with fail
  refine (named_any bMill (by decide) _).mono ?_
  rintro e w1 ⟨rfl, rfl⟩
  rw [show nameF (strB bMill) = true by decide +kernel]
  go_wp2_with fail
  refine (new_any (some ad) 1 c [⟨bAlice, bMill, bX, none, 0, 0, []⟩] rfl (by decide) _ HSX.out).mono ?_
  rintro e w1 ⟨hb1, he⟩
  rw [if_neg (by rw [wrong_alice]; simp)] at he
  obtain ⟨T, vs, rfl, _⟩ := he
  have S1 : Step w1 w := ⟨hb1⟩
  clear hb1
  go_wp2_with fail
  refine (csecs_any (some ad) 1 c [⟨bAlice, bMill, bX, none, 0, 0, []⟩] rfl (by decide) _ HX.out.ext).mono ?_
  rintro e w2 ⟨v, rfl, ho2, hb2⟩
  have S2 : Step w2 w1 := ⟨hb2⟩
  obtain ⟨g, cap, rfl, hbg, hgl, hcap⟩ := own_form ho2 (by omega)
  have HO2 := Lib.hid ho2
  have X2 : Hid (Ext w w2) := (inferInstance : Ext w w2)
  have HG : Hid (w.heap.size ≤ g) := Nat.le_trans S1.out.size hbg
  obtain ⟨cur, hrow, hcur⟩ : ∃ cur : Array Value, w2.heap[g]? = some (.cells cur 44 (0, 0)) ∧ cur.toList.take 4 = secs [⟨bAlice, bMill, bX, none, 0, 0, []⟩] := by
    rcases ho2.2 with ⟨h, _⟩ | ⟨g', cap', cur, hv, _, hg, _, _, _, ht⟩
    · cases h
    · injection hv with h1 _ _
      injection h1 with h1
      injection h1 with h1
      subst h1
      exact ⟨cur, hg, ht⟩
  have HROW := Lib.hid hrow
  have HCUR := Lib.hid hcur
  have p3 : w2.cell? ⟨g, 3, none⟩ = some (.slice none 0 0) := by
    rw [at_cell hrow, ← Array.getElem?_toList]
    have h : (cur.toList.take 4)[3]? = some (.slice none 0 0) := by rw [hcur]; rfl
    rwa [List.getElem?_take_of_lt (by decide)] at h
  have f3 : w2.frozen? ⟨g, 3, none⟩ = false := at_frozen hrow 3
  clear ho2 hb2 hrow hcur
  go_wp2_with fail
  refine wp_loop_rounds 2 ?_
  rw [rounds_succ]
  go_wp2_with fail
  refine (clone64_any none 0 0 [] rfl (by decide) _ (Cells.nil_ _ _)).mono ?_
  rintro e w3 ⟨v, rfl, ho3, hb3⟩
  obtain ⟨A3, c3, rfl, hc3⟩ := own_slice ho3
  have S3 : Step w3 w2 := ⟨hb3⟩
  have p3 : w3.cell? ⟨g, 3, none⟩ = some (.slice none 0 0) := cell_ext p3
  have f3 : w3.frozen? ⟨g, 3, none⟩ = false := at_frozen (at_ext HROW.out) 3
  go_wp2_with fail
  rw [rounds_succ]
  go_wp2_with fail
  have HSET : Hid ((w3.setCell ⟨g, 3, none⟩ (.slice A3 0 c3)).heap[g]? = some (.cells (cur.setIfInBounds 3 (.slice A3 0 c3)) 44 (0, 0))) := at_set (at_ext HROW.out) 3 _
  have HCE : Hid (Cells (w3.setCell ⟨g, 3, none⟩ (.slice A3 0 c3)) (some ⟨g, 0, none⟩) (secs [⟨bAlice, bMill, bX, A3, 0, c3, []⟩])) := by
    intro _
    refine ⟨_, rfl, fun j u hu => ?_⟩
    rw [add_plain]
    refine (at_cell HSET.out j).trans ?_
    have hj : j < 4 := by
      have h := (List.getElem?_eq_some_iff.1 hu).1
      exact h
    have h4 : ∀ i, i < 4 → cur[i]? = (secs [⟨bAlice, bMill, bX, none, 0, 0, []⟩])[i]? := fun i hi => by
      rw [← HCUR.out, List.getElem?_take_of_lt hi, Array.getElem?_toList]
    have h3 := h4 3 (by decide)
    have h3' : 3 < cur.size := by
      rcases Nat.lt_or_ge 3 cur.size with h | h
      · exact h
      · rw [Array.getElem?_eq_none h] at h3
        cases h3
    rw [Array.getElem?_setIfInBounds]
    by_cases hq : 3 = j
    · subst hq
      rw [if_pos rfl, if_pos h3']
      exact hu
    · rw [if_neg hq, h4 j hj]
      rcases j with _ | _ | _ | _ | j
      · exact hu
      · exact hu
      · exact hu
      · exact absurd rfl hq
      · omega
  have HB : Hid (Below w.heap.size w (w3.setCell ⟨g, 3, none⟩ (.slice A3 0 c3))) := (Ext.out (w := w) (w' := w3)).setCell (p := ⟨g, 3, none⟩) HG.out _
  go_ret2
  refine ⟨w3.heap.size, some ⟨g, 0, none⟩, cap, A3, c3, rfl, (inferInstance : Ext w w3).out.size, ?_, HCE.out.alloc _, ?_, ?_⟩
  · unfold JudgeAt
    exact at_new1 (by simp)
  · intro ad ha
    injection ha with ha
    rw [← ha]
    have := S3.out.size
    refine ⟨?_, ?_⟩
    · show g ≠ _; omega
    · simp; omega
  · exact HB.out.alloc (by simp; exact (inferInstance : Ext w w3).out.size) _
end Go.Proofs.Ytobddmpiljknpaa

namespace Go.Proofs.Ytobddmpiljknpaa
open Go.RowKit
set_option linter.unusedVariables false
set_option linter.unusedSimpArgs false

theorem at_setj {w : World} {J : Nat} {t : TypeId} {x0 x1 x2 x3 x4 x5 x6 x7 a b c d e : Value} (h : w.heap[J]? = some (.cells #[x0, x1, x2, x3, x4, x5, x6, x7] t (0, 0))) :
    (((((w.setCell ⟨J, 5, none⟩ a).setCell ⟨J, 6, none⟩ b).setCell ⟨J, 7, none⟩ c).setCell ⟨J, 2, none⟩ d).setCell ⟨J, 4, none⟩ e).heap[J]? = some (.cells #[x0, x1, d, x3, e, a, b, c] t (0, 0)) :=
  at_set (at_set (at_set (at_set (at_set h 5 a) 6 b) 7 c) 2 d) 4 e
theorem at_setj_o {w : World} {J g : Nat} {a b c d e : Value} (h : g ≠ J) :
    (((((w.setCell ⟨J, 5, none⟩ a).setCell ⟨J, 6, none⟩ b).setCell ⟨J, 7, none⟩ c).setCell ⟨J, 2, none⟩ d).setCell ⟨J, 4, none⟩ e).heap[g]? = w.heap[g]? := by
  rw [Below.heap_setCell _ _ _ _ h, Below.heap_setCell _ _ _ _ h, Below.heap_setCell _ _ _ _ h, Below.heap_setCell _ _ _ _ h, Below.heap_setCell _ _ _ _ h]
theorem size_setj {w : World} {J : Nat} {a b c d e : Value} :
    (((((w.setCell ⟨J, 5, none⟩ a).setCell ⟨J, 6, none⟩ b).setCell ⟨J, 7, none⟩ c).setCell ⟨J, 2, none⟩ d).setCell ⟨J, 4, none⟩ e).heap.size = w.heap.size := by
  simp only [World.size_setCell]
theorem But.then_ {w w1 w2 : World} {B : Nat} (h : But w w1 B) (e : Ext w1 w2) : But w w2 B :=
  ⟨e.out.os.trans h.os, e.out.tape.trans h.tape, e.out.output.trans h.output, Nat.le_trans h.size e.out.size, fun k hk hB => (e.out.block k (Nat.lt_of_lt_of_le hk h.size)).trans (h.block k hk hB)⟩
theorem But.row_ {w w1 : World} {B g : Nat} (h : But w w1 B) (hg : w.heap.size ≤ g) (cs : Array Value) : But w (w1.setRow g cs) B :=
  ⟨h.os, h.tape, h.output, by have := h.size; simpa using this, fun k hk hB => (setRow_other _ _ _ _ (by omega)).trans (h.block k hk hB)⟩
def JAsked (J : Nat) (nm : ByteArray) (LA : Option Addr) (ln lc : Nat) (c i : Int) (rd : List Int) (w : World) (e : Ending) (w' : World) : Prop :=
  ∃ A k PA pk, e = .returned (.tuple #[.agg #[.int .i64 c, .int .i64 i, .slice A rd.length k], .int .i64 0]) ∧ Cells w' A (nums .u8 rd) ∧ JudgeAt w' J nm LA ln lc 1 ⟨#[]⟩ 1 c i PA rd.length pk ∧ Cells w' PA (nums .u8 rd) ∧
  But w w' J
set_option maxRecDepth 100000 in
set_option maxHeartbeats 8000000 in
theorem ask_any (J : Nat) (nm : ByteArray) (hnm : nm.size ≤ 140737488355328) (LA : Option Addr) (ln lc : Nat) (id : Int) (A : Option Addr) (n c : Nat) (xs : List Int) (hn : xs.length = n) (hn' : n ≤ 140737488355200) (ci ii : Int) (rd : List Int) (hmk : mkF 1 id xs (strB nm) = ((ci, ii), rd, 0)) (hrd : rd.length ≤ 140737488355300) (w : World)
    (hj : JudgeAt w J nm LA ln lc 0 ⟨#[]⟩ 0 0 0 none 0 0) (hx : Cells w A (nums .u8 xs)) :
    Calls Try.prog 46 #[.pointer (some ⟨J, 0, none⟩), .int .i64 id, .slice A n c] w (JAsked J nm LA ln lc ci ii rd w) := by
  have HJ := Lib.hid hj
  have HX := Lib.hid hx
  have HN := Lib.hid hn
  have HM := Lib.hid hmk
  have HL : Hid (J < w.heap.size) := at_lt (show w.heap[J]? = some _ from hj)
  clear hj hx hn hmk
  go_enter Try.func46, Try.ntmps46
  go_upto_region 1 with fail
  obtain ⟨wb, hwb⟩ : ∃ wb, w.alloc zPk = wb := ⟨_, rfl⟩
  have HZ : Hid (wb.heap[w.heap.size]? = some zPk) := by unfold Hid; rw [← hwb]; exact at_new w _
  have HW : Hid (Ext w wb) := by unfold Hid; rw [← hwb]; exact inferInstance
  have HLB : Hid (w.heap.size < wb.heap.size) := at_lt HZ.out
  have HJB : Hid (wb.heap[J]? = some (.cells #[.string nm, .slice LA ln lc, .int .i64 0, .string ⟨#[]⟩, .int .i64 0, .int .i64 0, .int .i64 0, .slice none 0 0] 137 (0, 0))) := at_ext (h := HW.out) HJ.out
  rw [hwb]
  clear hwb
  have p0 : wb.cell? ⟨J, 0, none⟩ = some (.string nm) := at_cell HJB.out 0
  go_wp2_with fail
  refine (make_any 1 id A n c xs nm HN.out hnm (by omega) _ (HX.out.ext (h := HW.out))).mono ?_
  rintro e w1 ⟨A1, c1, rfl, ho1, hb1⟩
  rw [HM.out] at ho1 ⊢
  simp only at ho1 ⊢
  have X1 : Hid (Ext wb w1) := ⟨hb1⟩
  have HO1 := Lib.hid ho1
  have HZ1 : Hid (w1.heap[w.heap.size]? = some zPk) := at_ext (h := X1.out) HZ.out
  have HJ1 : Hid (w1.heap[J]? = some (.cells #[.string nm, .slice LA ln lc, .int .i64 0, .string ⟨#[]⟩, .int .i64 0, .int .i64 0, .int .i64 0, .slice none 0 0] 137 (0, 0))) := at_ext (h := X1.out) HJB.out
  clear hb1 ho1 p0
  go_upto_region 4 with fail
  obtain ⟨w2, hw2⟩ : ∃ w2, w1.alloc (.cells #[.int .i64 ci, .int .i64 ii, .slice A1 rd.length c1] 24) = w2 := ⟨_, rfl⟩
  have HP2 : Hid (w2.heap[w1.heap.size]? = some (.cells #[.int .i64 ci, .int .i64 ii, .slice A1 rd.length c1] 24 (0, 0))) := by unfold Hid; rw [← hw2]; exact at_new w1 _
  have X2 : Hid (Ext w1 w2) := by unfold Hid; rw [← hw2]; exact inferInstance
  rw [hw2]
  clear hw2
  have HJ2 : Hid (w2.heap[J]? = some (.cells #[.string nm, .slice LA ln lc, .int .i64 0, .string ⟨#[]⟩, .int .i64 0, .int .i64 0, .int .i64 0, .slice none 0 0] 137 (0, 0))) := at_ext (h := X2.out) HJ1.out
  have p0 : w2.cell? ⟨w1.heap.size, 0, none⟩ = some (.int .i64 ci) := at_cell HP2.out 0
  have p1 : w2.cell? ⟨w1.heap.size, 1, none⟩ = some (.int .i64 ii) := at_cell HP2.out 1
  have p2 : w2.cell? ⟨w1.heap.size, 2, none⟩ = some (.slice A1 rd.length c1) := at_cell HP2.out 2
  have q2 : w2.cell? ⟨J, 2, none⟩ = some (.int .i64 0) := at_cell HJ2.out 2
  have q4 : w2.cell? ⟨J, 4, none⟩ = some (.int .i64 0) := at_cell HJ2.out 4
  have q5 : w2.cell? ⟨J, 5, none⟩ = some (.int .i64 0) := at_cell HJ2.out 5
  have q6 : w2.cell? ⟨J, 6, none⟩ = some (.int .i64 0) := at_cell HJ2.out 6
  have q7 : w2.cell? ⟨J, 7, none⟩ = some (.slice none 0 0) := at_cell HJ2.out 7
  have r2 : w2.frozen? ⟨J, 2, none⟩ = false := at_frozen HJ2.out 2
  have r4 : w2.frozen? ⟨J, 4, none⟩ = false := at_frozen HJ2.out 4
  have r5 : w2.frozen? ⟨J, 5, none⟩ = false := at_frozen HJ2.out 5
  have r6 : w2.frozen? ⟨J, 6, none⟩ = false := at_frozen HJ2.out 6
  have r7 : w2.frozen? ⟨J, 7, none⟩ = false := at_frozen HJ2.out 7
  go_upto_region 7 with
   (refine wpList_load_row rfl 24 (.tmp 8) rfl w1.heap.size rfl 24 #[.int .i64 ci, .int .i64 ii, .slice A1 rd.length c1] (0, 0) _ HP2.out Try.underlying24 rfl (by kernel_rfl) ?_)
  obtain ⟨w3, hw3⟩ : ∃ w3, (((((w2.setCell ⟨J, 5, none⟩ (.int .i64 ci)).setCell ⟨J, 6, none⟩ (.int .i64 ii)).setCell ⟨J, 7, none⟩ (.slice A1 rd.length c1)).setCell ⟨J, 2, none⟩ (.int .i64 1)).setCell ⟨J, 4, none⟩ (.int .i64 1)) = w3 := ⟨_, rfl⟩
  have HJ3 : Hid (JudgeAt w3 J nm LA ln lc 1 ⟨#[]⟩ 1 ci ii A1 rd.length c1) := by unfold Hid; rw [← hw3]; exact at_setj HJ2.out
  have HO3 : Hid (∀ g, g ≠ J → w3.heap[g]? = w2.heap[g]?) := fun g hg => by rw [← hw3]; exact at_setj_o hg
  have HS3 : Hid (w3.heap.size = w2.heap.size) := by unfold Hid; rw [← hw3]; exact size_setj
  have HB3 : Hid (But w w3 J) := by
    unfold Hid
    rw [← hw3]
    exact But.set (But.set (But.set (But.set (But.set (But.of (h := Ext.trans_ (Ext.trans_ HW.out X1.out) X2.out)) 5 _) 6 _) 7 _) 2 _) 4 _
  rw [hw3]
  clear hw3 p0 p1 p2 q2 q4 q5 q6 q7 r2 r4 r5 r6 r7
  have HP3 : Hid (w3.heap[w1.heap.size]? = some (.cells #[.int .i64 ci, .int .i64 ii, .slice A1 rd.length c1] 24 (0, 0))) := (HO3.out _ (by have := HL.out; have := HW.out.out.size; have := X1.out.out.size; omega)).trans HP2.out
  have HZ3 : Hid (w3.heap[w.heap.size]? = some zPk) := (HO3.out _ (by have := HL.out; omega)).trans (at_ext (h := X2.out) HZ1.out)
  have HC3 : Hid (Cells w3 A1 (nums .u8 rd)) := own_cells (own_heap (w := w2) (own_ext (h := X2.out) HO1.out) fun k hk => HO3.out k (by have := HL.out; have := HW.out.out.size; omega))
  go_wp2_with
   (refine wpList_load_row rfl 24 (.tmp 8) rfl w1.heap.size rfl 24 #[.int .i64 ci, .int .i64 ii, .slice A1 rd.length c1] (0, 0) _ HP3.out Try.underlying24 rfl (by kernel_rfl) ?_)
  refine (cagain_any ci ii A1 rd.length c1 rd rfl hrd _ HC3.out).mono ?_
  rintro e w4 ⟨A4, c4, rfl, ho4, hb4⟩
  have X4 : Hid (Ext w3 w4) := ⟨hb4⟩
  have HO4 := Lib.hid ho4
  have HZ4 : Hid (w4.heap[w.heap.size]? = some zPk) := at_ext (h := X4.out) HZ3.out
  clear ho4 hb4
  go_wp2_with
    (refine wpList_store_row rfl 24 (.tmp 6) (.tmp 38) rfl w.heap.size #[.int .i64 ci, .int .i64 ii, .slice A4 rd.length c4] rfl rfl 24 #[.int .i64 0, .int .i64 0, .slice none 0 0] HZ4.out (by kernel_rfl) rfl (by simp [Value.oneCell']) ?_)
  have HX2 : Hid (Ext w w2) := Ext.trans_ (Ext.trans_ HW.out X1.out) X2.out
  refine bodyPost_ret (results_cell_row2 Try.results46 _ _ w.heap.size 24 #[.int .i64 ci, .int .i64 ii, .slice A4 rd.length c4] (0, 0) _ (.int .i64 0) rfl rfl (setRow_heap _ _ _ _ _ _ HZ4.out) Try.underlying24 rfl (by kernel_rfl)) rfl ?_
  have hne : ∀ g, g ≠ w.heap.size → (w4.setRow w.heap.size #[.int .i64 ci, .int .i64 ii, .slice A4 rd.length c4]).heap[g]? = w4.heap[g]? := fun g hg => setRow_other _ _ _ _ hg
  have hw2 := HX2.out.out.size
  have hlt := HL.out
  have hJ4 : w4.heap[J]? = w3.heap[J]? := X4.out.out.block J (by rw [HS3.out]; omega)
  refine ⟨A4, c4, A1, c1, rfl, ?_, ?_, ?_, ?_⟩
  · refine cells_setRow (own_cells HO4.out) (fun ad ha e => ?_) _
    have h1 := own_base HO4.out ad.block (by rw [ha]; rfl)
    rw [HS3.out] at h1
    have := at_lt HZ.out
    have := X1.out.out.size
    have := X2.out.out.size
    omega
  · exact (hne J (by omega)).trans (hJ4.trans HJ3.out)
  · refine cells_setRow (HC3.out.ext (h := X4.out)) (fun ad ha e => ?_) _
    have h1 := own_base HO1.out ad.block (by rw [ha]; rfl)
    have := HLB.out
    omega
  · exact (HB3.out.then_ X4.out).row_ (Nat.le_refl _) _
end Go.Proofs.Ytobddmpiljknpaa

namespace Go.Proofs.Ytobddmpiljknpaa
open Go.RowKit
set_option linter.unusedVariables false
set_option linter.unusedSimpArgs false

abbrev bWelc : ByteArray := ⟨#[119, 101, 108, 99, 111, 109, 101]⟩
def JTook (J : Nat) (w : World) (id : Int) (e : Ending) (w' : World) : Prop :=
  ∃ A k, e = .returned (.tuple #[.agg #[.int .i64 3, .int .i64 id, .slice A 7 k], .int .i64 0]) ∧ But w w' J
theorem td_welc {id : Int} (h0 : 0 ≤ id) (h1 : id ≤ 255) : tdF 3 id (strB bWelc) = ((3, id), strB bWelc, 0) := by
  unfold tdF
  rw [if_neg (by omega), if_neg (by rw [show plainF (strB bWelc) = true by decide +kernel]; simp), if_neg (by decide +kernel)]
set_option maxRecDepth 100000 in
set_option maxHeartbeats 8000000 in
theorem verdict_any (J : Nat) (nm : ByteArray) (LA : Option Addr) (ln lc : Nat) (who : ByteArray) (ask pc pid : Int) (PA : Option Addr) (pn pk : Nat) (id : Int) (h0 : 0 ≤ id) (h1 : id ≤ 255) (w : World)
    (hj : JudgeAt w J nm LA ln lc 2 who ask pc pid PA pn pk) :
    Calls Try.prog 89 #[.pointer (some ⟨J, 0, none⟩), .int .i64 id] w fun e w' => ∃ A k, e = .returned (.tuple #[.agg #[.int .i64 3, .int .i64 id, .slice A 7 k], .int .i64 0]) ∧ Below w.heap.size w w' := by
  have HJ := Lib.hid hj
  clear hj
  have HT := Lib.hid (td_welc h0 h1)
  go_enter Try.func89, Try.ntmps89
  go_upto_region 1 with fail
  obtain ⟨wb, hwb⟩ : ∃ wb, w.alloc zPk = wb := ⟨_, rfl⟩
  have HZ : Hid (wb.heap[w.heap.size]? = some zPk) := by unfold Hid; rw [← hwb]; exact at_new w _
  have HW : Hid (Ext w wb) := by unfold Hid; rw [← hwb]; exact inferInstance
  have HJB : Hid (wb.heap[J]? = some (.cells #[.string nm, .slice LA ln lc, .int .i64 2, .string who, .int .i64 ask, .int .i64 pc, .int .i64 pid, .slice PA pn pk] 137 (0, 0))) := at_ext (h := HW.out) HJ.out
  rw [hwb]
  clear hwb
  have p2 : wb.cell? ⟨J, 2, none⟩ = some (.int .i64 2) := at_cell HJB.out 2
  go_wp2_with fail
  refine (told_any 3 id bWelc (by decide) _).mono ?_
  rintro e w1 ⟨A1, c1, rfl, _, _, hb1⟩
  rw [HT.out]
  simp only [show (strB bWelc).length = 7 from rfl]
  have X1 : Hid (Ext wb w1) := ⟨hb1⟩
  have HZ1 : Hid (w1.heap[w.heap.size]? = some zPk) := at_ext (h := X1.out) HZ.out
  clear hb1 p2
  go_wp2_with
    (refine wpList_store_row rfl 24 (.tmp 4) (.tmp 13) rfl w.heap.size #[.int .i64 3, .int .i64 id, .slice A1 7 c1] rfl rfl 24 #[.int .i64 0, .int .i64 0, .slice none 0 0] HZ1.out (by kernel_rfl) rfl (by simp [Value.oneCell']) ?_)
  refine bodyPost_ret (results_cell_row2 Try.results89 _ _ w.heap.size 24 #[.int .i64 3, .int .i64 id, .slice A1 7 c1] (0, 0) _ (.int .i64 0) rfl rfl (setRow_heap _ _ _ _ _ _ HZ1.out) Try.underlying24 rfl (by kernel_rfl)) rfl ?_
  exact ⟨A1, c1, rfl, (Ext.setRow_ (Ext.trans_ HW.out X1.out) (Nat.le_refl _) _).out⟩
set_option maxRecDepth 100000 in
set_option maxHeartbeats 8000000 in
theorem jtake_any (J : Nat) (nm : ByteArray) (LA : Option Addr) (ln lc : Nat) (us : List SV) (pc pid : Int) (PA : Option Addr) (pk : Nat) (ys : List Int) (id : Int) (h0 : 0 ≤ id) (h1 : id ≤ 255) (A : Option Addr) (k : Nat) (xs : List Int) (who : ByteArray)
    (hln : us.length = ln) (hln' : ln ≤ 17592186044416) (hyb : Byt ys) (hyl : ys.length ≤ 140737488355200) (hxb : Byt xs) (hxl : xs.length ≤ 140737488355200) (hpid : pid = id) (hr : ptsF xs = ((ptsF xs).1, 0)) (hh : hoF pc pid ys 2 id xs nm us = (who, 0)) (w : World)
    (hj : JudgeAt w J nm LA ln lc 1 ⟨#[]⟩ 1 pc pid PA ys.length pk) (hs : SecsAt w LA us) (hy : Cells w PA (nums .u8 ys)) (hx : Cells w A (nums .u8 xs)) :
    Calls Try.prog 48 #[.pointer (some ⟨J, 0, none⟩), .agg #[.int .i64 2, .int .i64 id, .slice A xs.length k]] w fun e w' => JTook J w id e w' ∧ ∃ PA' pn' pk', JudgeAt w' J nm LA ln lc 2 who 1 pc pid PA' pn' pk' := by
  subst hpid
  have HJ := Lib.hid hj
  have HS := Lib.hid hs
  have HY := Lib.hid hy
  have HX := Lib.hid hx
  have HLN := Lib.hid hln
  have HYB := Lib.hid hyb
  have HXB := Lib.hid hxb
  have HR := Lib.hid hr
  have HH := Lib.hid hh
  have HL : Hid (J < w.heap.size) := at_lt (show w.heap[J]? = some _ from hj)
  have HI : Hid (0 ≤ pid ∧ pid ≤ 255) := ⟨h0, h1⟩
  clear hj hs hy hx hln hyb hxb hr hh h0 h1
  go_enter Try.func48, Try.ntmps48
  go_upto_region 1 with fail
  obtain ⟨wb, hwb⟩ : ∃ wb, (w.alloc (.cells #[.int .i64 2, .int .i64 pid, .slice A xs.length k] 24)).alloc zPk = wb := ⟨_, rfl⟩
  have HP : Hid (wb.heap[w.heap.size]? = some (.cells #[.int .i64 2, .int .i64 pid, .slice A xs.length k] 24 (0, 0))) := by unfold Hid; rw [← hwb]; exact at_ext (at_new w _)
  have HZ : Hid (wb.heap[w.heap.size + 1]? = some zPk) := by unfold Hid; rw [← hwb]; exact at_new1 (by simp)
  have HW : Hid (Ext w wb) := by unfold Hid; rw [← hwb]; exact inferInstance
  have HLB : Hid (w.heap.size + 1 < wb.heap.size) := at_lt HZ.out
  have HJB : Hid (wb.heap[J]? = some (.cells #[.string nm, .slice LA ln lc, .int .i64 1, .string ⟨#[]⟩, .int .i64 1, .int .i64 pc, .int .i64 pid, .slice PA ys.length pk] 137 (0, 0))) := at_ext (h := HW.out) HJ.out
  rw [hwb]
  clear hwb
  have p0 : wb.cell? ⟨w.heap.size, 0, none⟩ = some (.int .i64 2) := at_cell HP.out 0
  have q2 : wb.cell? ⟨J, 2, none⟩ = some (.int .i64 1) := at_cell HJB.out 2
  go_upto_region 7 with fail
  refine wp_region_held_drew (S := Ext wb) (by kernel_rfl) (by exact inferInstance) (fun hHeld => ?_)
  refine wpAnyH_take (i := 0) (v := ?_) rfl (by kernel_rfl) (by kernel_rfl) (by kernel_rfl) (fun _ _ _ h => h) (Yields.yieldsIf (Or.inl ⟨by rfl, ?_⟩)) hHeld ?_
  rotate_left
  · intro W
    go_simp
    try with_reducible rfl
  simp only [List.getElem_toArray, List.getElem_cons_succ, List.getElem_cons_zero, Act.put, List.setIfInBounds_toArray, List.set_cons_zero, List.set_cons_succ]
  refine wpAnyH_take (i := 1) (v := ?_) rfl (by kernel_rfl) (by kernel_rfl) (by kernel_rfl) (fun _ _ _ h => h) (Or.inl ⟨by rfl, ?_⟩) hHeld ?_
  rotate_left
  · intro W hW
    have hcl := cell_ext (h := hW) (at_cell HP.out 1)
    go_simp
    try with_reducible rfl
  simp only [List.getElem_toArray, List.getElem_cons_succ, List.getElem_cons_zero, Act.put, List.setIfInBounds_toArray, List.set_cons_zero, List.set_cons_succ]
  refine wpAnyH_take (i := 2) (v := ?_) rfl (by kernel_rfl) (by kernel_rfl) (by kernel_rfl) (fun _ _ _ h => h) (Yields.yieldsIf (Or.inl ⟨by rfl, ?_⟩)) hHeld ?_
  rotate_left
  · intro W
    go_simp
    try with_reducible rfl
  simp only [List.getElem_toArray, List.getElem_cons_succ, List.getElem_cons_zero, Act.put, List.setIfInBounds_toArray, List.set_cons_zero, List.set_cons_succ]
  refine wpAnyH_take (i := 3) (v := ?_) rfl (by kernel_rfl) (by kernel_rfl) (by kernel_rfl) (fun _ _ _ h => h) (Yields.yieldsIf (Or.inl ⟨by rfl, ?_⟩)) hHeld ?_
  rotate_left
  · intro W
    go_simp
    try with_reducible rfl
  simp only [List.getElem_toArray, List.getElem_cons_succ, List.getElem_cons_zero, Act.put, List.setIfInBounds_toArray, List.set_cons_zero, List.set_cons_succ]
  refine wpAnyH_take (i := 4) (v := ?_) rfl (by kernel_rfl) (by kernel_rfl) (by kernel_rfl) (fun _ _ _ h => h) (Yields.yieldsIf (Or.inl ⟨by rfl, ?_⟩)) hHeld ?_
  rotate_left
  · intro W
    go_simp
    try with_reducible rfl
  simp only [List.getElem_toArray, List.getElem_cons_succ, List.getElem_cons_zero, Act.put, List.setIfInBounds_toArray, List.set_cons_zero, List.set_cons_succ]
  refine wpAnyH_take (i := 5) (v := ?_) rfl (by kernel_rfl) (by kernel_rfl) (by kernel_rfl) (fun _ _ _ h => h) (Yields.yieldsIf (Or.inl ⟨by rfl, ?_⟩)) hHeld ?_
  rotate_left
  · intro W
    go_simp
    try with_reducible rfl
  simp only [List.getElem_toArray, List.getElem_cons_succ, List.getElem_cons_zero, Act.put, List.setIfInBounds_toArray, List.set_cons_zero, List.set_cons_succ]
  refine wpAnyH_take (i := 6) (v := ?_) rfl (by kernel_rfl) (by kernel_rfl) (by kernel_rfl) (fun _ _ _ h => h) (Or.inl ⟨by rfl, ?_⟩) hHeld ?_
  rotate_left
  · intro W hW
    have hcl := cell_ext (h := hW) (at_cell HJB.out 6)
    go_simp
    try with_reducible rfl
  simp only [List.getElem_toArray, List.getElem_cons_succ, List.getElem_cons_zero, Act.put, List.setIfInBounds_toArray, List.set_cons_zero, List.set_cons_succ]
  refine wpAnyH_take (i := 7) (v := ?_) rfl (by kernel_rfl) (by kernel_rfl) (by kernel_rfl) (fun _ _ _ h => h) (Yields.yieldsIf (Or.inl ⟨by rfl, ?_⟩)) hHeld ?_
  rotate_left
  · intro W
    go_simp
    try with_reducible rfl
  simp only [List.getElem_toArray, List.getElem_cons_succ, List.getElem_cons_zero, Act.put, List.setIfInBounds_toArray, List.set_cons_zero, List.set_cons_succ]
  refine wpAnyH_take (i := 8) (v := ?_) rfl (by kernel_rfl) (by kernel_rfl) (by kernel_rfl) (fun _ _ _ h => h) (Yields.yieldsIf (Or.inl ⟨by rfl, ?_⟩)) hHeld ?_
  rotate_left
  · intro W
    go_simp
    try with_reducible rfl
  simp only [List.getElem_toArray, List.getElem_cons_succ, List.getElem_cons_zero, Act.put, List.setIfInBounds_toArray, List.set_cons_zero, List.set_cons_succ]
  refine wpAnyH_done (by kernel_rfl) ?_ _
  clear hHeld
  obtain ⟨wd, hwd⟩ : ∃ wd, wb.drew = wd := ⟨_, rfl⟩
  have XD : Hid (Ext wb wd) := by unfold Hid; rw [← hwd]; exact inferInstance
  have HXS : Hid (Cells wd A (nums .u8 xs)) := by have := HW.out; have := XD.out; exact HX.out.ext (w' := wb) |>.ext
  rw [hwd]
  clear hwd p0 q2
  have p0 : wd.cell? ⟨w.heap.size, 0, none⟩ = some (.int .i64 2) := cell_ext (h := XD.out) (at_cell HP.out 0)
  have p1 : wd.cell? ⟨w.heap.size, 1, none⟩ = some (.int .i64 pid) := cell_ext (h := XD.out) (at_cell HP.out 1)
  have p2 : wd.cell? ⟨w.heap.size, 2, none⟩ = some (.slice A xs.length k) := cell_ext (h := XD.out) (at_cell HP.out 2)
  have q2 : wd.cell? ⟨J, 2, none⟩ = some (.int .i64 1) := cell_ext (h := XD.out) (at_cell HJB.out 2)
  go_wp2_with fail
  refine (kind_any 2 pid A xs.length k _).mono ?_
  rintro e w1 ⟨rfl, hb1⟩
  rw [show kindV 2 pid A xs.length k = .iface 140 (.agg #[.slice A xs.length k]) from if_neg (by have := HI.out; unfold badP; rw [decide_eq_false (by omega)]; simp)]
  have X1 : Hid (Ext wd w1) := ⟨hb1⟩
  have hta : ∀ W : World, (Instr.typeAssert (.iface 140 (.agg #[.slice A xs.length k])) 102 140 true).run Try.prog W = .ok (.tuple #[.agg #[.slice A xs.length k], .bool true]) W := fun _ => by kernel_rfl
  have pn : ∀ o, (w1.alloc o).heap[w1.heap.size]? = some o := at_new w1
  clear hb1 p0 p1 p2 q2
  go_wp2_with fail
  refine (parts_any A xs.length k xs rfl hxl HXB.out _ (by have := X1.out; exact HXS.out.ext (w' := w1) |>.alloc _)).mono ?_
  rintro e w2 ⟨A2, c2, rfl, _, hb2⟩
  rw [HR.out]
  simp only
  have X2 : Hid (Ext wb w2) := Ext.trans_ (Ext.trans_ XD.out X1.out) (Ext.trans_ (inferInstance : Ext w1 (w1.alloc _)) ⟨hb2⟩)
  obtain ⟨rp, hrp⟩ : ∃ rp, (ptsF xs).1.1 = rp := ⟨_, rfl⟩
  obtain ⟨rn, hrn⟩ : ∃ rn, strOfNums (ptsF xs).1.2 = rn := ⟨_, rfl⟩
  simp only [hrp, hrn]
  clear hb2 hta pn hrp hrn
  go_upto_region 19 with fail
  refine wp_region_held_drew (S := Ext w2) (by kernel_rfl) (by exact inferInstance) (fun hHeld => ?_)
  have HP2 : Hid (w2.heap[w.heap.size]? = some (.cells #[.int .i64 2, .int .i64 pid, .slice A xs.length k] 24 (0, 0))) := at_ext (h := X2.out) HP.out
  have HJ2 : Hid (w2.heap[J]? = some (.cells #[.string nm, .slice LA ln lc, .int .i64 1, .string ⟨#[]⟩, .int .i64 1, .int .i64 pc, .int .i64 pid, .slice PA ys.length pk] 137 (0, 0))) := at_ext (h := X2.out) HJB.out
  refine wpAnyH_take (i := 0) (v := ?_) rfl (by kernel_rfl) (by kernel_rfl) (by kernel_rfl) (fun _ _ _ h => h) (Yields.yieldsIf (Or.inl ⟨by rfl, ?_⟩)) hHeld ?_
  rotate_left
  · intro W
    go_simp
    try with_reducible rfl
  simp only [List.getElem_toArray, List.getElem_cons_succ, List.getElem_cons_zero, Act.put, List.setIfInBounds_toArray, List.set_cons_zero, List.set_cons_succ]
  refine wpAnyH_take (i := 1) (v := ?_) rfl (by kernel_rfl) (by kernel_rfl) (by kernel_rfl) (fun _ _ _ h => h) (Yields.yieldsIf (Or.inl ⟨by rfl, ?_⟩)) hHeld ?_
  rotate_left
  · intro W
    go_simp
    try with_reducible rfl
  simp only [List.getElem_toArray, List.getElem_cons_succ, List.getElem_cons_zero, Act.put, List.setIfInBounds_toArray, List.set_cons_zero, List.set_cons_succ]
  refine wpAnyH_take (i := 2) (v := ?_) rfl (by kernel_rfl) (by kernel_rfl) (by kernel_rfl) (fun _ _ _ h => h) (Yields.yieldsIf (Or.inl ⟨by rfl, ?_⟩)) hHeld ?_
  rotate_left
  · intro W
    go_simp
    try with_reducible rfl
  simp only [List.getElem_toArray, List.getElem_cons_succ, List.getElem_cons_zero, Act.put, List.setIfInBounds_toArray, List.set_cons_zero, List.set_cons_succ]
  refine wpAnyH_take (i := 3) (v := ?_) rfl (by kernel_rfl) (by kernel_rfl) (by kernel_rfl) (fun _ _ _ h => h) (Or.inl ⟨by rfl, ?_⟩) hHeld ?_
  rotate_left
  · intro W hW
    have hcl0 := cell_ext (h := hW) (at_cell HJ2.out 5)
    have hcl1 := cell_ext (h := hW) (at_cell HJ2.out 6)
    have hcl2 := cell_ext (h := hW) (at_cell HJ2.out 7)
    go_simp
    try with_reducible rfl
  simp only [List.getElem_toArray, List.getElem_cons_succ, List.getElem_cons_zero, Act.put, List.setIfInBounds_toArray, List.set_cons_zero, List.set_cons_succ]
  refine wpAnyH_take (i := 4) (v := ?_) rfl (by kernel_rfl) (by kernel_rfl) (by kernel_rfl) (fun _ _ _ h => h) (Or.inl ⟨by rfl, ?_⟩) hHeld ?_
  rotate_left
  · intro W hW
    have hcl0 := cell_ext (h := hW) (at_cell HP2.out 0)
    have hcl1 := cell_ext (h := hW) (at_cell HP2.out 1)
    have hcl2 := cell_ext (h := hW) (at_cell HP2.out 2)
    go_simp
    try with_reducible rfl
  simp only [List.getElem_toArray, List.getElem_cons_succ, List.getElem_cons_zero, Act.put, List.setIfInBounds_toArray, List.set_cons_zero, List.set_cons_succ]
  refine wpAnyH_take (i := 5) (v := ?_) rfl (by kernel_rfl) (by kernel_rfl) (by kernel_rfl) (fun _ _ _ h => h) (Yields.yieldsIf (Or.inl ⟨by rfl, ?_⟩)) hHeld ?_
  rotate_left
  · intro W
    go_simp
    try with_reducible rfl
  simp only [List.getElem_toArray, List.getElem_cons_succ, List.getElem_cons_zero, Act.put, List.setIfInBounds_toArray, List.set_cons_zero, List.set_cons_succ]
  refine wpAnyH_take (i := 6) (v := ?_) rfl (by kernel_rfl) (by kernel_rfl) (by kernel_rfl) (fun _ _ _ h => h) (Yields.yieldsIf (Or.inl ⟨by rfl, ?_⟩)) hHeld ?_
  rotate_left
  · intro W
    go_simp
    try with_reducible rfl
  simp only [List.getElem_toArray, List.getElem_cons_succ, List.getElem_cons_zero, Act.put, List.setIfInBounds_toArray, List.set_cons_zero, List.set_cons_succ]
  refine wpAnyH_take (i := 7) (v := ?_) rfl (by kernel_rfl) (by kernel_rfl) (by kernel_rfl) (fun _ _ _ h => h) (Yields.yieldsIf (Or.inl ⟨by rfl, ?_⟩)) hHeld ?_
  rotate_left
  · intro W
    go_simp
    try with_reducible rfl
  simp only [List.getElem_toArray, List.getElem_cons_succ, List.getElem_cons_zero, Act.put, List.setIfInBounds_toArray, List.set_cons_zero, List.set_cons_succ]
  refine wpAnyH_take (i := 8) (v := ?_) rfl (by kernel_rfl) (by kernel_rfl) (by kernel_rfl) (fun _ _ _ h => h) (Or.inl ⟨by rfl, ?_⟩) hHeld ?_
  rotate_left
  · intro W hW
    have hcl := cell_ext (h := hW) (at_cell HJ2.out 0)
    go_simp
    try with_reducible rfl
  simp only [List.getElem_toArray, List.getElem_cons_succ, List.getElem_cons_zero, Act.put, List.setIfInBounds_toArray, List.set_cons_zero, List.set_cons_succ]
  refine wpAnyH_take (i := 9) (v := ?_) rfl (by kernel_rfl) (by kernel_rfl) (by kernel_rfl) (fun _ _ _ h => h) (Yields.yieldsIf (Or.inl ⟨by rfl, ?_⟩)) hHeld ?_
  rotate_left
  · intro W
    go_simp
    try with_reducible rfl
  simp only [List.getElem_toArray, List.getElem_cons_succ, List.getElem_cons_zero, Act.put, List.setIfInBounds_toArray, List.set_cons_zero, List.set_cons_succ]
  refine wpAnyH_take (i := 10) (v := ?_) rfl (by kernel_rfl) (by kernel_rfl) (by kernel_rfl) (fun _ _ _ h => h) (Yields.yieldsIf (Or.inl ⟨by rfl, ?_⟩)) hHeld ?_
  rotate_left
  · intro W
    go_simp
    try with_reducible rfl
  simp only [List.getElem_toArray, List.getElem_cons_succ, List.getElem_cons_zero, Act.put, List.setIfInBounds_toArray, List.set_cons_zero, List.set_cons_succ]
  refine wpAnyH_take (i := 11) (v := ?_) rfl (by kernel_rfl) (by kernel_rfl) (by kernel_rfl) (fun _ _ _ h => h) (Yields.yieldsIf (Or.inl ⟨by rfl, ?_⟩)) hHeld ?_
  rotate_left
  · intro W
    go_simp
    try with_reducible rfl
  simp only [List.getElem_toArray, List.getElem_cons_succ, List.getElem_cons_zero, Act.put, List.setIfInBounds_toArray, List.set_cons_zero, List.set_cons_succ]
  refine wpAnyH_take (i := 12) (v := ?_) rfl (by kernel_rfl) (by kernel_rfl) (by kernel_rfl) (fun _ _ _ h => h) (Or.inl ⟨by rfl, ?_⟩) hHeld ?_
  rotate_left
  · intro W hW
    have hcl := cell_ext (h := hW) (at_cell HJ2.out 1)
    go_simp
    try with_reducible rfl
  simp only [List.getElem_toArray, List.getElem_cons_succ, List.getElem_cons_zero, Act.put, List.setIfInBounds_toArray, List.set_cons_zero, List.set_cons_succ]
  have X3 : Hid (Ext w w2.drew) := Ext.trans_ HW.out (Ext.trans_ X2.out (inferInstance : Ext w2 w2.drew))
  refine wpAnyH_ready (rs := [13]) (by kernel_rfl) (by simp) ?_
  refine AllReadyH.cons rfl (fun K hK => ?_) AllReadyH.nil
  refine step_call_w (by rfl) Try.func27 (by kernel_rfl) (by kernel_rfl) #[.tmp 67, .tmp 68, .tmp 72, .tmp 76] #[24, 24, 9, 37] rfl #[.agg #[.int .i64 pc, .int .i64 pid, .slice PA ys.length pk], .agg #[.int .i64 2, .int .i64 pid, .slice A xs.length k], .string nm, .slice LA ln lc] ?hv (holds_any pc pid PA ys.length pk ys 2 pid A xs.length k xs nm LA ln lc us rfl hyl HYB.out rfl hxl HXB.out HLN.out hln' _ (HY.out.ext (h := X3.out)) (HX.out.ext (h := X3.out)) (HS.out.ext (h := X3.out))) ?_
  case hv => go_simp
  rintro e w4 ⟨rfl, hb4⟩
  refine ⟨_, rfl, ?_⟩
  rw [HH.out]
  simp only
  have X4 : Hid (Ext w2 w4) := Ext.trans_ (inferInstance : Ext w2 w2.drew) ⟨hb4⟩
  clear hb4 hHeld
  refine hK.out _ _ X4.out (fun hHeld => ?_)
  clear hK K
  simp only [List.getElem_toArray, List.getElem_cons_succ, List.getElem_cons_zero, Act.put, List.setIfInBounds_toArray, List.set_cons_zero, List.set_cons_succ]
  refine wpAnyH_take (i := 14) (v := ?_) rfl (by kernel_rfl) (by kernel_rfl) (by kernel_rfl) (fun _ _ _ h => h) (Yields.yieldsIf (Or.inl ⟨by rfl, ?_⟩)) hHeld ?_
  rotate_left
  · intro W
    go_simp
    try with_reducible rfl
  simp only [List.getElem_toArray, List.getElem_cons_succ, List.getElem_cons_zero, Act.put, List.setIfInBounds_toArray, List.set_cons_zero, List.set_cons_succ]
  refine wpAnyH_take (i := 15) (v := ?_) rfl (by kernel_rfl) (by kernel_rfl) (by kernel_rfl) (fun _ _ _ h => h) (Yields.yieldsIf (Or.inl ⟨by rfl, ?_⟩)) hHeld ?_
  rotate_left
  · intro W
    go_simp
    try with_reducible rfl
  simp only [List.getElem_toArray, List.getElem_cons_succ, List.getElem_cons_zero, Act.put, List.setIfInBounds_toArray, List.set_cons_zero, List.set_cons_succ]
  refine wpAnyH_take (i := 16) (v := ?_) rfl (by kernel_rfl) (by kernel_rfl) (by kernel_rfl) (fun _ _ _ h => h) (Yields.yieldsIf (Or.inl ⟨by rfl, ?_⟩)) hHeld ?_
  rotate_left
  · intro W
    go_simp
    try with_reducible rfl
  simp only [List.getElem_toArray, List.getElem_cons_succ, List.getElem_cons_zero, Act.put, List.setIfInBounds_toArray, List.set_cons_zero, List.set_cons_succ]
  refine wpAnyH_take (i := 17) (v := ?_) rfl (by kernel_rfl) (by kernel_rfl) (by kernel_rfl) (fun _ _ _ h => h) (Yields.yieldsIf (Or.inl ⟨by rfl, ?_⟩)) hHeld ?_
  rotate_left
  · intro W
    go_simp
    try with_reducible rfl
  simp only [List.getElem_toArray, List.getElem_cons_succ, List.getElem_cons_zero, Act.put, List.setIfInBounds_toArray, List.set_cons_zero, List.set_cons_succ]
  refine wpAnyH_take (i := 18) (v := ?_) rfl (by kernel_rfl) (by kernel_rfl) (by kernel_rfl) (fun _ _ _ h => h) (Yields.yieldsIf (Or.inl ⟨by rfl, ?_⟩)) hHeld ?_
  rotate_left
  · intro W
    go_simp
    try with_reducible rfl
  simp only [List.getElem_toArray, List.getElem_cons_succ, List.getElem_cons_zero, Act.put, List.setIfInBounds_toArray, List.set_cons_zero, List.set_cons_succ]
  refine wpAnyH_done (by kernel_rfl) ?_ _
  clear hHeld
  have X5 : Hid (Ext w w4) := Ext.trans_ HW.out (Ext.trans_ X2.out X4.out)
  have HJ4 : Hid (w4.heap[J]? = some (.cells #[.string nm, .slice LA ln lc, .int .i64 1, .string ⟨#[]⟩, .int .i64 1, .int .i64 pc, .int .i64 pid, .slice PA ys.length pk] 137 (0, 0))) := at_ext (h := X4.out) HJ2
  have HP4 : Hid (w4.heap[w.heap.size]? = some (.cells #[.int .i64 2, .int .i64 pid, .slice A xs.length k] 24 (0, 0))) := at_ext (h := X4.out) HP2
  have HZ4 : Hid (w4.heap[w.heap.size + 1]? = some zPk) := at_ext (h := X4.out) (at_ext (h := X2.out) HZ.out)
  have q2 : w4.cell? ⟨J, 2, none⟩ = some (.int .i64 1) := at_cell HJ4.out 2
  have q3 : w4.cell? ⟨J, 3, none⟩ = some (.string ⟨#[]⟩) := at_cell HJ4.out 3
  have r2 : w4.frozen? ⟨J, 2, none⟩ = false := at_frozen HJ4.out 2
  have r3 : w4.frozen? ⟨J, 3, none⟩ = false := at_frozen HJ4.out 3
  clear HP2 HJ2
  go_upto_region 21 with fail
  obtain ⟨w5, hw5⟩ : ∃ w5, (w4.setCell ⟨J, 2, none⟩ (.int .i64 2)).setCell ⟨J, 3, none⟩ (.string who) = w5 := ⟨_, rfl⟩
  have HJ5 : Hid (JudgeAt w5 J nm LA ln lc 2 who 1 pc pid PA ys.length pk) := by unfold Hid; rw [← hw5]; exact at_set (at_set HJ4.out 2 _) 3 _
  have HO5 : Hid (∀ g, g ≠ J → w5.heap[g]? = w4.heap[g]?) := fun g hg => by rw [← hw5, Below.heap_setCell _ _ _ _ hg, Below.heap_setCell _ _ _ _ hg]
  have HS5 : Hid (w5.heap.size = w4.heap.size) := by unfold Hid; rw [← hw5]; simp only [World.size_setCell]
  have HB5 : Hid (But w w5 J) := by
    unfold Hid
    rw [← hw5]
    exact But.set (But.set (But.of (h := X5.out)) 2 _) 3 _
  rw [hw5]
  clear hw5 q2 q3 r2 r3
  have p1 : w5.cell? ⟨w.heap.size, 1, none⟩ = some (.int .i64 pid) := at_cell ((HO5.out _ (by have := HL.out; omega)).trans HP4.out) 1
  go_wp2_with fail
  refine (verdict_any J nm LA ln lc who 1 pc pid PA ys.length pk pid HI.out.1 HI.out.2 _ HJ5.out).mono ?_
  rintro e w6 ⟨A6, c6, rfl, hb6⟩
  have X6 : Hid (Ext w5 w6) := ⟨hb6⟩
  have HZ6 : Hid (w6.heap[w.heap.size + 1]? = some zPk) := at_ext (h := X6.out) ((HO5.out _ (by have := HL.out; omega)).trans HZ4.out)
  clear hb6 p1
  go_wp2_with
    (refine wpList_store_row rfl 24 (.tmp 4) (.tmp 96) rfl (w.heap.size + 1) #[.int .i64 3, .int .i64 pid, .slice A6 7 c6] rfl rfl 24 #[.int .i64 0, .int .i64 0, .slice none 0 0] HZ6.out (by kernel_rfl) rfl (by simp [Value.oneCell']) ?_)
  refine bodyPost_ret (results_cell_row2 Try.results48 _ _ (w.heap.size + 1) 24 #[.int .i64 3, .int .i64 pid, .slice A6 7 c6] (0, 0) _ (.int .i64 0) rfl rfl (setRow_heap _ _ _ _ _ _ HZ6.out) Try.underlying24 rfl (by kernel_rfl)) rfl ?_
  have hlt := HL.out
  have hs5 := HS5.out
  have hx5 := X5.out.out.size
  have hx6 := X6.out.out.size
  refine ⟨⟨A6, c6, rfl, (HB5.out.then_ X6.out).row_ (by omega) _⟩, PA, ys.length, pk, ?_⟩
  · exact (setRow_other _ _ _ _ (by omega)).trans ((X6.out.out.block J (by omega)).trans HJ5.out)
end Go.Proofs.Ytobddmpiljknpaa

namespace Go.Proofs.Ytobddmpiljknpaa
open Go.RowKit
set_option linter.unusedVariables false
set_option linter.unusedSimpArgs false

theorem jask_nil (id : Int) (A : Option Addr) (n c : Nat) (w : World) : Calls Try.prog 46 #[.pointer none, .int .i64 id, .slice A n c] w fun e w' => e = .returned (.tuple #[.agg #[.int .i64 0, .int .i64 0, .slice none 0 0], .int .i64 2]) ∧ Below w.heap.size w w' := by
  go_enter Try.func46, Try.ntmps46
  go_wp2
  refine bodyPost_ret (results_cell_row2 Try.results46 _ _ w.heap.size 24 #[.int .i64 0, .int .i64 0, .slice none 0 0] (0, 0) _ (.int .i64 2) rfl rfl (at_new w zPk) Try.underlying24 rfl (by kernel_rfl)) rfl ?_
  exact ⟨rfl, Ext.out⟩
theorem jagain_nil (w : World) : Calls Try.prog 47 #[.pointer none] w fun e w' => e = .returned (.tuple #[.agg #[.int .i64 0, .int .i64 0, .slice none 0 0], .int .i64 2]) ∧ Below w.heap.size w w' := by
  go_enter Try.func47, Try.ntmps47
  go_wp2
  refine bodyPost_ret (results_cell_row2 Try.results47 _ _ w.heap.size 24 #[.int .i64 0, .int .i64 0, .slice none 0 0] (0, 0) _ (.int .i64 2) rfl rfl (at_new w zPk) Try.underlying24 rfl (by kernel_rfl)) rfl ?_
  exact ⟨rfl, Ext.out⟩
theorem jtake_nil (code id : Int) (A : Option Addr) (n c : Nat) (w : World) : Calls Try.prog 48 #[.pointer none, .agg #[.int .i64 code, .int .i64 id, .slice A n c]] w fun e w' => e = .returned (.tuple #[.agg #[.int .i64 0, .int .i64 0, .slice none 0 0], .int .i64 2]) ∧ Below w.heap.size w w' := by
  go_enter Try.func48, Try.ntmps48
  go_wp2
  refine bodyPost_ret (results_cell_row2 Try.results48 _ _ (w.heap.size + 1) 24 #[.int .i64 0, .int .i64 0, .slice none 0 0] (0, 0) _ (.int .i64 2) rfl rfl (at_new1 (o := zPk) (by simp)) Try.underlying24 rfl (by kernel_rfl)) rfl ?_
  exact ⟨rfl, Ext.out⟩
theorem jstate_nil (w : World) : Calls Try.prog 49 #[.pointer none] w fun e w' => e = .returned (.int .i64 0) ∧ w = w' := by
  go_enter Try.func49, Try.ntmps49
  go_wp2
  go_ret
  exact ⟨rfl, rfl⟩
theorem jwho_nil (w : World) : Calls Try.prog 50 #[.pointer none] w fun e w' => e = .returned (.string ⟨#[]⟩) ∧ w = w' := by
  go_enter Try.func50, Try.ntmps50
  go_wp2
  go_ret
  exact ⟨rfl, rfl⟩
theorem jasked_nil (w : World) : Calls Try.prog 51 #[.pointer none] w fun e w' => e = .returned (.int .i64 0) ∧ w = w' := by
  go_enter Try.func51, Try.ntmps51
  go_wp2
  go_ret
  exact ⟨rfl, rfl⟩
section
variable (J : Nat) (nm : ByteArray) (LA : Option Addr) (ln lc : Nat) (st : Int) (who : ByteArray) (ask pc pid : Int) (PA : Option Addr) (pn pk : Nat) (w : World) (h : JudgeAt w J nm LA ln lc st who ask pc pid PA pn pk)
include h
theorem jstate_any : Calls Try.prog 49 #[.pointer (some ⟨J, 0, none⟩)] w fun e w' => e = .returned (.int .i64 st) ∧ w = w' := by
  have HJ := Lib.hid h
  have p2 : w.cell? ⟨J, 2, none⟩ = some (.int .i64 st) := at_cell HJ.out 2
  clear h
  go_enter Try.func49, Try.ntmps49
  go_wp2
  go_ret
  exact ⟨rfl, rfl⟩
theorem jwho_any : Calls Try.prog 50 #[.pointer (some ⟨J, 0, none⟩)] w fun e w' => e = .returned (.string who) ∧ w = w' := by
  have HJ := Lib.hid h
  have p2 : w.cell? ⟨J, 3, none⟩ = some (.string who) := at_cell HJ.out 3
  clear h
  go_enter Try.func50, Try.ntmps50
  go_wp2
  go_ret
  exact ⟨rfl, rfl⟩
end
abbrev bStar : ByteArray := ⟨#[42]⟩
abbrev chX : List Int := [3, 97, 98, 99, 109, 105, 108, 108]
theorem mk_mill : mkF 1 7 [97, 98, 99] (strB bMill) = ((1, 7), chX, 0) := by decide +kernel
theorem rd_mill : rdF 1 7 chX = (([97, 98, 99], [109, 105, 108, 108]), 0) := by decide +kernel
theorem str_mill : strOfNums [109, 105, 108, 108] = bMill := by rfl
theorem str_alice : strOfNums (strB bAlice) = bAlice := by rfl
theorem secW_star (A : Option Addr) (n k : Nat) : secW (strB bAlice) (strB (rmF bMill ⟨#[]⟩)) [⟨bAlice, bStar, bX, A, n, k, []⟩] = bX := by kernel_rfl
theorem secW_mill (A : Option Addr) (n k : Nat) : secW (strB bAlice) (strB bMill) [⟨bAlice, bMill, bX, A, n, k, []⟩] = bX := by kernel_rfl
def rsX : List Int := [16] ++ respD 7 bX [97, 98, 99] ++ strB bAlice
theorem rsX_len : rsX.length = 22 := by
  unfold rsX
  simp only [List.length_append, respD_len]
  rfl
theorem rsX_byt : Byt rsX := by
  unfold rsX
  intro x hx
  simp only [List.mem_append] at hx
  rcases hx with (h | h) | h
  · simp at h; omega
  · exact respD_byt x h
  · exact strB_byt bAlice x h
theorem an_mill (A : Option Addr) (n k : Nat) : anF 1 7 chX bAlice ⟨#[]⟩ [⟨bAlice, bStar, bX, A, n, k, []⟩] = ((2, 7), rsX, 0) := by
  unfold anF
  rw [if_neg (by decide), rd_mill]
  simp only [str_mill]
  rw [if_neg (by decide), if_neg (by decide +kernel), secW_star, if_neg (by decide +kernel)]
  unfold mkF rsX
  rw [respD_len, if_neg (by decide), if_neg (by decide), if_neg (by decide +kernel)]
  rfl
theorem pts_rs : ptsF rsX = ((respD 7 bX [97, 98, 99], strB bAlice), 0) := by
  have h1 : prtF rsX = some (respD 7 bX [97, 98, 99], strB bAlice) := by
    show (if ((respD 7 bX [97, 98, 99] ++ strB bAlice).length : Int) < 16 then none else some ((respD 7 bX [97, 98, 99] ++ strB bAlice).take 16, (respD 7 bX [97, 98, 99] ++ strB bAlice).drop 16)) = _
    rw [if_neg (by rw [List.length_append, respD_len]; omega), List.take_left' (respD_len _ _ _), List.drop_left' (respD_len _ _ _)]
  have h2 : respD 7 bX [97, 98, 99] ≠ [] := fun h => by have := respD_len 7 bX [97, 98, 99]; rw [h] at this; cases this
  unfold ptsF
  rw [h1]
  simp only
  rw [if_neg h2, if_neg (by decide +kernel)]
theorem ho_alice (A : Option Addr) (n k : Nat) : hoF 1 7 chX 2 7 rsX bMill [⟨bAlice, bMill, bX, A, n, k, []⟩] = (bAlice, 0) := by
  have h1 : rdF 2 7 rsX = ((respD 7 bX [97, 98, 99], strB bAlice), 0) := by
    unfold rdF
    rw [if_neg (by decide), pts_rs]
  unfold hoF
  rw [if_neg (by decide), rd_mill, h1]
  simp only [str_alice]
  rw [if_neg (by decide), if_neg (by decide), if_neg (by decide), secW_mill, if_neg (by decide +kernel), if_neg (by simp)]
end Go.Proofs.Ytobddmpiljknpaa

namespace Go.Proofs.Ytobddmpiljknpaa
open Go.RowKit
set_option linter.unusedVariables false
set_option linter.unusedSimpArgs false

theorem conv13 {w : World} {A : Option Addr} {n c : Nat} {xs : List Int} {s : ByteArray} (hn : xs.length = n) (hx : Cells w A (nums .u8 xs)) (hs : strOfNums xs = s) : (convert 22 9 (.slice A n c)).run Try.prog w = .ok (.string s) w := by
  rw [← hs]
  exact conv_cells (P := Try.prog) (c := c) 22 5 9 Try.underlying22 Try.underlying5 Try.underlying9 hn hx
theorem Cells.move {w w' : World} {A : Option Addr} {cs : List Value} (h : Cells w A cs) (hk : ∀ ad, A = some ad → w'.heap[ad.block]? = w.heap[ad.block]?) : Cells w' A cs :=
  h.keep fun p _ ad hv e hp => (World.cell?_of_block (by rw [hp]; exact hk ad e)).trans hv
theorem abc_cells (w : World) (o : Obj) (ho : o = .cells #[.int .u8 97, .int .u8 98, .int .u8 99] 5 (3, 4)) : Cells (w.alloc o) (some ⟨w.heap.size, 0, none⟩) (nums .u8 [97, 98, 99]) :=
  fun _ => ⟨_, rfl, fun j u hu => by rw [add_plain, ho, World.cell?_alloc_mark]; simpa [nums] using hu⟩
set_option maxRecDepth 100000 in
set_option maxHeartbeats 8000000 in
theorem known13_any (w : World) : Calls Try.prog 24 #[] w fun e w' => e = .returned (.bool true) ∧ Below w.heap.size w w' := by
  have kc := Lib.run_convert_bytes_const (P := Try.prog) w 22 5 #[.int .u8 97, .int .u8 98, .int .u8 99] 3 3 Try.underlying22 Try.underlying5
  go_enter Try.func24, Try.ntmps24
  go_wp2_with fail
  refine (make_any 1 7 (some ⟨w.heap.size, 0, none⟩) 3 3 [97, 98, 99] bMill rfl (by decide) (by decide) _ (abc_cells w _ rfl)).mono ?_
  rintro e w1 ⟨A1, c1, rfl, ho1, hb1⟩
  rw [mk_mill] at ho1 ⊢
  simp only at ho1 ⊢
  have S1 : Step w1 _ := ⟨hb1⟩
  have HO1 := Lib.hid ho1
  have HX1 : Hid (Ext w w1) := (inferInstance : Ext w w1)
  clear hb1 ho1 kc
  have p1 : ∀ o, (w1.alloc o).heap[w1.heap.size]? = some o := at_new w1
  go_wp2_with
    (refine wpList_store_row_o rfl 24 (.tmp 1) (.tmp 15) rfl w1.heap.size #[.int .i64 1, .int .i64 7, .slice A1 8 c1] rfl rfl 24 #[.int .i64 0, .int .i64 0, .slice none 0 0] (p1 _) (by kernel_rfl) rfl (by simp [Value.oneCell']) ?_
     intro w2 hr2 ho2 hz2 hb2
     have HR2 := Lib.hid hr2
     have H12 : Hid (Ext w1 w2) := ⟨hb2 _ _ (inferInstance : Ext w1 (w1.alloc _)).out (Nat.le_refl _)⟩
     clear hr2 ho2 hz2 hb2 p1)
  have X2 : Hid (Ext w w2) := Ext.trans_ HX1.out H12.out
  refine (newJ_any ⟨w2.heap.size, 0, none⟩ 1 _ (cells_box w2 _ rfl (secs [⟨bAlice, bMill, bX, none, 0, 0, []⟩]) _)).mono ?_
  rintro e w3 ⟨J, LA, lc, A', k', rfl, hJs, hJ, hLC, hLA, hb3⟩
  have hJ2 : w2.heap.size < J := by simp at hJs; omega
  have X23 : Hid (Ext w2 w3) := Ext.trans_ (inferInstance : Ext w2 (w2.alloc _)) ⟨hb3⟩
  have HJ := Lib.hid hJ
  have HJ2 := Lib.hid hJ2
  have HLC := Lib.hid hLC
  have HLA := Lib.hid hLA
  have HJL : Hid (J < w3.heap.size) := at_lt (show w3.heap[J]? = some _ from hJ)
  have HP3 : Hid (w3.heap[w1.heap.size]? = some (.cells #[.int .i64 1, .int .i64 7, .slice A1 8 c1] 24 (0, 0))) := at_ext (h := X23.out) HR2.out
  have HC3 : Hid (Cells w3 A1 (nums .u8 chX)) := (own_cells HO1.out).ext (h := H12.out) |>.ext (h := X23.out)
  have HA1 : Hid (∀ ad, A1 = some ad → ad.block < w1.heap.size) := fun ad h => by subst h; exact own_lt HO1.out _ rfl
  clear hJs hJ hJ2 hLC hLA hb3
  have kc := Lib.run_convert_bytes_const (P := Try.prog) w3 22 5 #[.int .u8 97, .int .u8 98, .int .u8 99] 3 3 Try.underlying22 Try.underlying5
  go_wp2_with fail
  refine (ask_any J bMill (by decide) LA 1 lc 7 (some ⟨w3.heap.size, 0, none⟩) 3 3 [97, 98, 99] rfl (by decide) 1 7 chX mk_mill (by decide) _ (at_ext (w := w3) HJ.out) (abc_cells w3 _ rfl)).mono ?_
  rintro e w4 ⟨A4, k4, PA, pk, rfl, hc4, hj4, hp4, hb4⟩
  have HC4 := Lib.hid hc4
  have HJ4 := Lib.hid hj4
  have HP4 := Lib.hid hp4
  have HB4 := Lib.hid hb4
  have hs3 := HX1.out.out.size
  have hs2 := H12.out.out.size
  have hs4 := X23.out.out.size
  have hJ2 := HJ2.out
  have HP4' : Hid (w4.heap[w1.heap.size]? = some (.cells #[.int .i64 1, .int .i64 7, .slice A1 8 c1] 24 (0, 0))) := hb4.at (by omega) (at_ext (w := w3) HP3.out)
  have HC14 : Hid (Cells w4 A1 (nums .u8 chX)) := HC3.out.move fun ad ha => by
    have h2 := HA1.out ad ha
    exact (hb4.block ad.block (by simp; omega) (by omega)).trans (Below.heap_alloc _ _ _ (by omega))
  have HLC4 : Hid (Cells w4 LA (secs [⟨bAlice, bMill, bX, A', 0, k', []⟩])) := HLC.out.move fun ad ha => by
    have h2 := HLA.out ad ha
    exact (hb4.block ad.block (by simp; omega) (by omega)).trans (Below.heap_alloc _ _ _ (by omega))
  clear hc4 hj4 hp4 hb4 hs3 hs2 hs4 hJ2 kc
  have X4 : Hid (Ext w w4) := HB4.out.ext (w := w) (Ext.trans_ X2.out (Ext.trans_ X23.out (inferInstance : Ext w3 (w3.alloc _)))) (by have := X2.out.out.size; have := HJ2.out; omega)
  have p1 : ∀ o, (w4.alloc o).heap[w4.heap.size]? = some o := at_new w4
  go_wp2_with
    (refine wpList_store_row_o rfl 24 (.tmp 5) (.tmp 38) rfl w4.heap.size #[.int .i64 1, .int .i64 7, .slice A4 8 k4] rfl rfl 24 #[.int .i64 0, .int .i64 0, .slice none 0 0] (p1 _) (by kernel_rfl) rfl (by simp [Value.oneCell']) ?_
     intro w5 hr5 ho5 hz5 hb5
     have HR5 := Lib.hid hr5
     have X45 : Hid (Ext w4 w5) := ⟨hb5 _ _ (inferInstance : Ext w4 (w4.alloc _)).out (Nat.le_refl _)⟩
     have j0 : w5.cell? ⟨w4.heap.size, 0, none⟩ = some (.int .i64 1) := at_cell HR5.out 0
     have j1 : w5.cell? ⟨w4.heap.size, 1, none⟩ = some (.int .i64 7) := at_cell HR5.out 1
     have j2 : w5.cell? ⟨w4.heap.size, 2, none⟩ = some (.slice A4 8 k4) := at_cell HR5.out 2
     clear hr5 ho5 hz5 hb5 p1)
  have HC5 : Hid (Cells w5 A4 (nums .u8 chX)) := HC4.out.ext (h := X45.out)
  have HAL := Lib.hid (an_mill none 0 0)
  refine (canswer_any 1 7 A4 8 k4 chX bAlice ⟨#[]⟩ (some ⟨w5.heap.size, 0, none⟩) 1 1 [⟨bAlice, bStar, bX, none, 0, 0, []⟩] rfl (by decide) (by unfold Byt; decide) (by decide) rfl (by decide) _ (HC5.out.alloc _) ⟨cells_box w5 _ rfl (secs [⟨bAlice, bStar, bX, none, 0, 0, []⟩]) _, fun u hu => by
    simp only [List.mem_singleton] at hu
    subst hu
    exact ⟨by decide, by decide, by decide, rfl, Nat.zero_le _, Nat.le_refl _, Cells.nil_ _ _⟩⟩).mono ?_
  rintro e w6 ⟨A6, c6, rfl, ho6, hb6⟩
  rw [HAL.out] at ho6 ⊢
  simp only [rsX_len] at ho6 ⊢
  have X56 : Hid (Ext w5 w6) := Ext.trans_ (inferInstance : Ext w5 (w5.alloc _)) ⟨hb6⟩
  have HO6 := Lib.hid ho6
  clear ho6 hb6 j0 j1 j2
  have p1 : ∀ o, (w6.alloc o).heap[w6.heap.size]? = some o := at_new w6
  go_wp2_with
    (refine wpList_store_row_o rfl 24 (.tmp 7) (.tmp 45) rfl w6.heap.size #[.int .i64 2, .int .i64 7, .slice A6 22 c6] rfl rfl 24 #[.int .i64 0, .int .i64 0, .slice none 0 0] (p1 _) (by kernel_rfl) rfl (by simp [Value.oneCell']) ?_
     intro w7 hr7 ho7 hz7 hb7
     have HR7 := Lib.hid hr7
     have X67 : Hid (Ext w6 w7) := ⟨hb7 _ _ (inferInstance : Ext w6 (w6.alloc _)).out (Nat.le_refl _)⟩
     have j0 : w7.cell? ⟨w6.heap.size, 0, none⟩ = some (.int .i64 2) := at_cell HR7.out 0
     have j1 : w7.cell? ⟨w6.heap.size, 1, none⟩ = some (.int .i64 7) := at_cell HR7.out 1
     have j2 : w7.cell? ⟨w6.heap.size, 2, none⟩ = some (.slice A6 22 c6) := at_cell HR7.out 2
     clear hr7 ho7 hz7 hb7 p1)
  have X47 : Hid (Ext w4 w7) := Ext.trans_ X45.out (Ext.trans_ X56.out X67.out)
  have HC7 : Hid (Cells w7 A6 (nums .u8 rsX)) := (own_cells HO6.out).ext (h := X67.out)
  have HL7 : Hid (SecsAt w7 LA [⟨bAlice, bMill, bX, A', 0, k', []⟩]) := ⟨HLC4.out.ext (h := X47.out), fun u hu => by
    simp only [List.mem_singleton] at hu
    subst hu
    exact ⟨show bAlice.size ≤ _ by decide, show bMill.size ≤ _ by decide, show bX.size ≤ _ by decide, rfl, Nat.zero_le _, Nat.zero_le _, fun h => absurd h (Nat.lt_irrefl _)⟩⟩
  have HHO := Lib.hid (ho_alice A' 0 k')
  have HJ7 : Hid (JudgeAt w7 J bMill LA 1 lc 1 ⟨#[]⟩ 1 1 7 PA 8 pk) := at_ext (h := X47.out) HJ4.out
  have HJL7 : Hid (J < w4.heap.size) := at_lt (show w4.heap[J]? = some _ from HJ4.out)
  rw [show (22 : Nat) = rsX.length from rsX_len.symm]
  refine (jtake_any J bMill LA 1 lc [⟨bAlice, bMill, bX, A', 0, k', []⟩] 1 7 PA pk chX 7 (by decide) (by decide) A6 c6 rsX bAlice rfl (by decide) (by unfold Byt; decide) (by decide) rsX_byt (by rw [rsX_len]; decide) rfl (by rw [pts_rs]) HHO.out _ HJ7.out HL7.out (HP4.out.ext (h := X47.out)) HC7.out).mono ?_
  rintro e w8 ⟨⟨A8, k8, rfl, hb8⟩, PA', pn', pk', hj8⟩
  have hw4 := X4.out.out.size
  have hw2 := X2.out.out.size
  have hw7 := X47.out.out.size
  have hJL := HJL7.out
  have hJ2 := HJ2.out
  have hs2 := H12.out.out.size
  have hP1 := at_lt HR2.out
  have HJ8 := Lib.hid hj8
  have X8 : Hid (Ext w w8) := hb8.ext (w := w) (Ext.trans_ X4.out X47.out) (by omega)
  have HP8 : Hid (w8.heap[w1.heap.size]? = some (.cells #[.int .i64 1, .int .i64 7, .slice A1 8 c1] 24 (0, 0))) := hb8.at (by omega) (at_ext (h := X47.out) HP4'.out)
  have HC8 : Hid (Cells w8 A1 (nums .u8 chX)) := HC14.out.move fun ad ha => by
    have h2 := HA1.out ad ha
    have h3 : ad.block < w4.heap.size := by omega
    exact (hb8.block ad.block (by omega) (by omega)).trans (X47.out.out.block _ h3)
  clear hb8 hj8 hw4 hw2 hw7 hJL hJ2 hs2 hP1 j0 j1 j2
  have p1 : ∀ o, (w8.alloc o).heap[w8.heap.size]? = some o := at_new w8
  go_upto_region 8 with
    (refine wpList_store_row_o rfl 24 (.tmp 9) (.tmp 51) rfl w8.heap.size #[.int .i64 3, .int .i64 7, .slice A8 7 k8] rfl rfl 24 #[.int .i64 0, .int .i64 0, .slice none 0 0] (p1 _) (by kernel_rfl) rfl (by simp [Value.oneCell']) ?_
     intro w9 hr9 ho9 hz9 hb9
     have HR9 := Lib.hid hr9
     have X89 : Hid (Ext w8 w9) := ⟨hb9 _ _ (inferInstance : Ext w8 (w8.alloc _)).out (Nat.le_refl _)⟩
     clear hr9 ho9 hz9 hb9 p1)
  have k2 : w9.cell? ⟨w1.heap.size, 2, none⟩ = some (.slice A1 8 c1) := at_cell (at_ext (h := X89.out) HP8.out) 2
  have j0 : w9.cell? ⟨w8.heap.size, 0, none⟩ = some (.int .i64 3) := at_cell HR9.out 0
  have hcv1 := conv13 (n := 8) (c := c1) (s := ⟨#[3, 97, 98, 99, 109, 105, 108, 108]⟩) rfl (HC8.out.ext (h := X89.out)) (by rfl)
  have HJ9 : Hid (JudgeAt w9 J bMill LA 1 lc 2 bAlice 1 1 7 PA' pn' pk') := at_ext (h := X89.out) HJ8.out
  go_wp2_with fail
  refine (jwho_any J bMill LA 1 lc 2 bAlice 1 1 7 PA' pn' pk' _ HJ9.out).mono ?_
  rintro e w10 ⟨rfl, rfl⟩
  go_wp2_with fail
  refine (jstate_any J bMill LA 1 lc 2 bAlice 1 1 7 PA' pn' pk' _ HJ9.out).mono ?_
  rintro e w10 ⟨rfl, rfl⟩
  go_wp2_with fail
  go_ret
  exact ⟨rfl, (Ext.trans_ X8.out X89.out).out⟩
end Go.Proofs.Ytobddmpiljknpaa
