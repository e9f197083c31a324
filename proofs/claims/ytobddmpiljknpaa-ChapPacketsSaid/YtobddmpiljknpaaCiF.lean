/-
  ref09.SamePacket; tetherlaw13.ChapAnswers: to any packet an end answers what the document says, by any secrets: for every input the call answers true. No condition.
-/
import Derived.Test.YtobddmpiljknpaaB6
import Derived.Test.YtobddmpiljknpaaB5
import Derived.Test.YtobddmpiljknpaaB1
import Derived.Test.YtobddmpiljknpaaB3
namespace Go.Proofs.Ytobddmpiljknpaa
open Go.RowKit
set_option linter.unusedVariables false
set_option linter.unusedSimpArgs false

set_option maxHeartbeats 1000000 in
theorem samePacket_any (c1 i1 c2 i2 : Int) (A B : Option Addr) (n m c d : Nat) (xs ys : List Int) (hn : xs.length = n) (hm : ys.length = m) (hn' : n ≤ 9223372036854775807) (hm' : m ≤ 9223372036854775807)
    (w : World) (hx : Cells w A (nums .u8 xs)) (hy : Cells w B (nums .u8 ys)) :
    Calls Try.prog 16 #[.agg #[.int .i64 c1, .int .i64 i1, .slice A n c], .agg #[.int .i64 c2, .int .i64 i2, .slice B m d]] w fun e w' => e = .returned (.bool (pkSame c1 i1 xs c2 i2 ys)) ∧ Below w.heap.size w w' := by
  have Hn := Lib.hid hn
  have Hm := Lib.hid hm
  clear hn hm
  by_cases h1 : c1 = c2
  · by_cases h2 : i1 = i2
    · have HE : Hid (pkSame c1 i1 xs c2 i2 ys = decide (xs = ys)) := by unfold Hid pkSame; simp [h1, h2]
      subst h1
      subst h2
      go_enter Try.func16, Try.ntmps16
      go_wp2_with fail
      refine (same_any A B n m c d xs ys Hn.out Hm.out hn' hm' _ ((hx.alloc _).alloc _) ((hy.alloc _).alloc _)).mono ?_
      rintro e w1 ⟨rfl, hd⟩
      have HB := Lib.hid (below_drawn (((Below.refl w.heap.size w).alloc (Nat.le_refl _) _).alloc (by simp) _) hd)
      clear hd
      generalize decide (xs = ys) = b at *
      go_wp2_with fail
      go_ret
      exact ⟨ret_bool HE.out.symm, HB.out⟩
    · have h2' : (i1 == i2) = false := by simpa using h2
      have HE : Hid (pkSame c1 i1 xs c2 i2 ys = false) := by unfold Hid pkSame; simp [h2]
      go_enter Try.func16, Try.ntmps16
      go_wp2
      go_ret
      exact ⟨ret_bool HE.out.symm, ((Below.refl w.heap.size w).alloc (Nat.le_refl _) _).alloc (by simp) _⟩
  · have h1' : (c1 == c2) = false := by simpa using h1
    have HE : Hid (pkSame c1 i1 xs c2 i2 ys = false) := by unfold Hid pkSame; simp [h1]
    go_enter Try.func16, Try.ntmps16
    go_wp2
    go_ret
    exact ⟨ret_bool HE.out.symm, ((Below.refl w.heap.size w).alloc (Nat.le_refl _) _).alloc (by simp) _⟩
theorem mkF_len {code id : Int} {v n : List Int} : (mkF code id v n).2.1.length ≤ 400 := by
  unfold mkF
  split
  · simp
  split
  · simp
  split
  · simp
  · rename_i h1 h2 h3
    have h4 : nameF n = true := by simpa using h3
    unfold nameF at h4
    simp only [Bool.and_eq_true, decide_eq_true_eq] at h4
    simp only [List.length_append, List.length_cons, List.length_nil]
    omega
theorem anF_len {code id : Int} {xs : List Int} {nm rm : ByteArray} {us : List SV} : (anF code id xs nm rm us).2.1.length ≤ 400 := by
  unfold anF
  split
  · simp
  split
  · simp
  split
  · simp
  split
  · simp
  · exact mkF_len
set_option maxRecDepth 100000 in
set_option maxHeartbeats 8000000 in
theorem answers13_law (code id : Int) (A : Option Addr) (n c : Nat) (xs : List Int) (nm rm : ByteArray) (LA : Option Addr) (ln lc : Nat) (us : List SV) (hn : xs.length = n) (hn' : n ≤ 140737488351232) (hnc : n ≤ c) (hb : Byt xs) (hnm : nm.size ≤ 140737488355328) (hln : us.length = ln) (hln' : ln ≤ 17592186044416) (w : World) (hx : Cells w A (nums .u8 xs)) (hs : SecsAt w LA us) :
    Calls Try.prog 4 #[.agg #[.int .i64 code, .int .i64 id, .slice A n c], .string nm, .string rm, .slice LA ln lc] w fun e w' => e = .returned (.bool true) ∧ Below w.heap.size w w' := by
  have Hn := Lib.hid hn
  have HX := Lib.hid hx
  have HB := Lib.hid hb
  have HLN := Lib.hid hln
  have HS := Lib.hid hs
  have HAL := Lib.hid (anF_len (code := code) (id := id) (xs := xs) (nm := nm) (rm := rm) (us := us))
  clear hn hx hb hln hs
  obtain ⟨⟨⟨ra, rb⟩, rd, re⟩, hr⟩ : ∃ F, anF code id xs nm rm us = F := ⟨_, rfl⟩
  rw [hr] at HAL
  have HRD : Hid (rd.length ≤ 400) := HAL.out
  have HF := Lib.hid hr
  clear hr HAL
  go_enter Try.func4, Try.ntmps4
  go_upto_region 1 with fail
  obtain ⟨wb, hwb⟩ : ∃ wb, w.alloc (.cells #[.int .i64 code, .int .i64 id, .slice A n c] 24) = wb := ⟨_, rfl⟩
  have HP : Hid (wb.heap[w.heap.size]? = some (.cells #[.int .i64 code, .int .i64 id, .slice A n c] 24 (0, 0))) := by unfold Hid; rw [← hwb]; exact at_new w _
  have Sb : Step wb w := ⟨by rw [← hwb]; exact Ext.out⟩
  rw [hwb]
  clear hwb
  have pa : wb.cell? ⟨w.heap.size, 0, none⟩ = some (.int .i64 code) := at_cell HP.out 0
  have pb : wb.cell? ⟨w.heap.size, 1, none⟩ = some (.int .i64 id) := at_cell HP.out 1
  have pc : wb.cell? ⟨w.heap.size, 2, none⟩ = some (.slice A n c) := at_cell HP.out 2
  go_wp2_with fail
  refine (canswer_any code id A n c xs nm rm LA ln lc us Hn.out (by omega) HB.out hnm HLN.out hln' _ (by exact HX.out.ext) (by exact HS.out.ext)).mono ?_
  rintro e w1 ⟨A1, k1, rfl, ho1, hb1⟩
  rw [HF.out] at ho1 ⊢
  simp only at ho1 ⊢
  have S1 : Step w1 wb := ⟨hb1⟩
  have HO1 := Lib.hid ho1
  have p1 : ∀ o, (w1.alloc o).heap[w1.heap.size]? = some o := at_new w1
  clear ho1 hb1 pa pb pc
  go_upto_region 2 with
    (refine wpList_store_row_o rfl 24 (.tmp 9) (.tmp 19) rfl w1.heap.size #[.int .i64 ra, .int .i64 rb, .slice A1 rd.length k1] rfl rfl 24 #[.int .i64 0, .int .i64 0, .slice none 0 0] (p1 _) (by kernel_rfl) rfl (by simp [Value.oneCell']) ?_
     intro w2 hr2 ho2 hz2 hb2
     have HRw2 := Lib.hid hr2
     have Xw2 : Hid (Ext w1 w2) := ⟨hb2 _ _ (inferInstance : Ext w1 (w1.alloc _)).out (Nat.le_refl _)⟩
     have Sw2 : Step w2 w1 := ⟨Xw2.out.out⟩
     clear hr2 ho2 hz2 hb2 p1)
  have HPb := Lib.hid (at_ext (w' := w2) HP.out)
  have pa : w2.cell? ⟨w.heap.size, 0, none⟩ = some (.int .i64 code) := at_cell HPb.out 0
  have pb : w2.cell? ⟨w.heap.size, 1, none⟩ = some (.int .i64 id) := at_cell HPb.out 1
  have pc : w2.cell? ⟨w.heap.size, 2, none⟩ = some (.slice A n c) := at_cell HPb.out 2
  go_wp2_with fail
  refine (ranswer_any code id A n c xs nm rm LA ln lc us Hn.out (by omega) hnc HB.out hnm HLN.out hln' _ (by exact HX.out.ext) (by exact HS.out.ext)).mono ?_
  rintro e w3 ⟨A3, k3, rfl, ho3, hb3⟩
  rw [HF.out] at ho3 ⊢
  simp only at ho3 ⊢
  have S3 : Step w3 w2 := ⟨hb3⟩
  have HO3 := Lib.hid ho3
  have p1 : ∀ o, (w3.alloc o).heap[w3.heap.size]? = some o := at_new w3
  clear ho3 hb3 pa pb pc HPb
  go_upto_region 3 with
    (refine wpList_store_row_o rfl 24 (.tmp 11) (.tmp 27) rfl w3.heap.size #[.int .i64 ra, .int .i64 rb, .slice A3 rd.length k3] rfl rfl 24 #[.int .i64 0, .int .i64 0, .slice none 0 0] (p1 _) (by kernel_rfl) rfl (by simp [Value.oneCell']) ?_
     intro w4 hr2 ho2 hz2 hb2
     have HRw4 := Lib.hid hr2
     have Xw4 : Hid (Ext w3 w4) := ⟨hb2 _ _ (inferInstance : Ext w3 (w3.alloc _)).out (Nat.le_refl _)⟩
     have Sw4 : Step w4 w3 := ⟨Xw4.out.out⟩
     clear hr2 ho2 hz2 hb2 p1)
  have HPb := Lib.hid (at_ext (w' := w4) HRw2.out)
  have pa : w4.cell? ⟨w1.heap.size, 0, none⟩ = some (.int .i64 ra) := at_cell HPb.out 0
  have pb : w4.cell? ⟨w1.heap.size, 1, none⟩ = some (.int .i64 rb) := at_cell HPb.out 1
  have pc : w4.cell? ⟨w1.heap.size, 2, none⟩ = some (.slice A1 rd.length k1) := at_cell HPb.out 2
  have qa : w4.cell? ⟨w3.heap.size, 0, none⟩ = some (.int .i64 ra) := at_cell HRw4.out 0
  have qb : w4.cell? ⟨w3.heap.size, 1, none⟩ = some (.int .i64 rb) := at_cell HRw4.out 1
  have qc : w4.cell? ⟨w3.heap.size, 2, none⟩ = some (.slice A3 rd.length k3) := at_cell HRw4.out 2
  go_wp2_with fail
  refine (samePacket_any ra rb ra rb A1 A3 rd.length rd.length k1 k3 rd rd rfl rfl (by have := HRD.out; omega) (by have := HRD.out; omega) _ (Cells.ext (w := w1) (own_cells HO1.out)) (Cells.ext (w := w3) (own_cells HO3.out))).mono ?_
  rintro e w5 ⟨rfl, hb5⟩
  have S5 : Step w5 w4 := ⟨hb5⟩
  rw [pkSame_self]
  clear hb5 pa pb pc qa qb qc HPb
  go_wp2_with fail
  refine (known13_any _).mono ?_
  rintro e w6 ⟨rfl, hb6⟩
  have S6 : Step w6 w5 := ⟨hb6⟩
  clear hb6
  go_wp2
  go_ret
  exact ⟨rfl, Ext.out⟩
namespace ChapAnswers
set_option maxRecDepth 100000 in
theorem walk (U : Nat) (W : World) (vs : List Value) (h : Args U Try.prog W Try.f4.params.toList vs) : Calls Try.prog 4 vs.toArray W fun e W' => e = .returned (.bool true) ∧ Below W.heap.size W W' := by
  rw [Try.params4] at h
  match vs, h with
  | [v0, v1, v2, v3], ⟨h0, h1, h2, h3, _⟩ =>
    obtain ⟨code, id, A, n, c, xs, rfl, hl, hn, hnc, hC, hB, k1, k2⟩ := arg_packet h0
    obtain ⟨nm, rfl, hnm⟩ := h1.str Try.underlying9
    obtain ⟨rm, rfl, hrm⟩ := h2.str Try.underlying9
    obtain ⟨LA, ln, lc, us, rfl, hll, hln, _, hs⟩ := Arg.secs h3
    exact answers13_law code id A n c xs nm rm LA ln lc us hl hn hnc hB (by omega) hll hln W hC hs

set_option maxRecDepth 100000 in
theorem lifted (os : Os) (started : os.Started) (H : Type) (enc : TypeId × Value → H) :
    ReturnsInHanded {} Try.checked os 4 .any (Rows.chapAnswersSpec.pre6 enc Try.prog Try.f4 Rows.chapAnswersRow.domain false) (Rows.chapAnswersSpec.post enc Try.prog Try.f4 false true false false) :=
  law_lifted (C := Try.checked) laid_out own_knob started (by kernel_rfl) Try.func4 H enc rfl
    (fun ds hd => by
      have : ds.length = 4 := hd
      match ds, this with
      | [_, _, _, _], _ => exact ⟨rfl, rfl, rfl⟩) rfl Try.underlying4 (by
      have : (Try.f4.params.toList.all fun t => Try.prog.readableRec t && decide (t < Try.prog.types.size)) = true := by kernel_rfl
      intro t ht
      have h := List.all_eq_true.1 this t ht
      rw [Bool.and_eq_true, decide_eq_true_eq] at h
      exact h)
    (ChangeSpec.witness6 (enc := enc) (C := Try.checked) false ⟨#[], #[.agg #[.int .i64 0, .int .i64 0, .slice none 0 0], .string ⟨#[]⟩, .string ⟨#[]⟩, .slice none 0 0], []⟩ 8 (by kernel_rfl) (by kernel_rfl) (by kernel_rfl) (by kernel_rfl)) walk

theorem over : Rows.chapAnswersRow.holds Try.pinned (OpenSpec.ofChange Rows.chapAnswersSpec) :=
  OpenClaim.holds_of_wide 4 Try.f4 rfl rfl rfl rfl rfl rfl rfl ⟨rfl, rfl, rfl, rfl, rfl⟩ rfl rfl rfl rfl rfl (by kernel_rfl) Try.func4 (by kernel_rfl)
    (of_decide_eq_true (by kernel_rfl)) (by unfold Func.isWrapper; first | (rw [if_pos (by decide +kernel)]; kernel_rfl) | (rw [if_neg (by decide +kernel)]; exact ⟨rfl, rfl⟩))
    (fun os started H enc _ => lifted os started H enc)

/-- The statement. -/
theorem proved : Rows.ChapAnswersSaid := over
#print axioms proved
end ChapAnswers
end Go.Proofs.Ytobddmpiljknpaa
