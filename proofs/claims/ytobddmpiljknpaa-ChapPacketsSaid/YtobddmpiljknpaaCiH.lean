/-
  tetherlaw13.ChapPackets: challenges, responses and what is told: for every input the call answers true. No condition.
-/
import Derived.Test.YtobddmpiljknpaaCiF
import Derived.Test.YtobddmpiljknpaaB6
namespace Go.Proofs.Ytobddmpiljknpaa
open Go.RowKit
set_option linter.unusedVariables false
set_option linter.unusedSimpArgs false

theorem mk_back {code id a b : Int} {v n d : List Int} (h : mkF code id v n = ((a, b), d, 0)) : rdF a b d = ((v, n), 0) := by
  unfold mkF at h
  split at h
  · simp at h
  split at h
  · simp at h
  split at h
  · simp at h
  rename_i h1 h2 h3
  injection h with h4 h5
  injection h4 with h6 h7
  injection h5 with h8 _
  subst h6 h7 h8
  have hp : prtF ([(v.length : Int)] ++ v ++ n) = some (v, n) := by
    show (if ((v ++ n).length : Int) < (v.length : Int) then none else some ((v ++ n).take (v.length : Int).toNat, (v ++ n).drop (v.length : Int).toNat)) = some (v, n)
    rw [if_neg (by rw [List.length_append]; omega), Int.toNat_natCast, List.take_left' rfl, List.drop_left' rfl]
  unfold rdF badP
  rw [decide_eq_false (by omega), if_neg (by simp)]
  unfold ptsF
  rw [hp]
  simp only
  rw [if_neg (fun e => by rw [e] at h2; simp at h2), if_neg h3]
theorem tdF_len {code id : Int} {t : List Int} : (tdF code id t).2.1.length ≤ 400 := by
  unfold tdF
  split
  · simp
  split
  · simp
  split
  · simp
  · simp only; omega
theorem mkF_byt {code id : Int} {v n : List Int} (hv : Byt v) (hn : Byt n) : Byt (mkF code id v n).2.1 := by
  unfold mkF
  split
  · exact fun _ h => by cases h
  split
  · exact fun _ h => by cases h
  split
  · exact fun _ h => by cases h
  · intro x hx
    simp only [List.mem_append, List.mem_singleton] at hx
    rcases hx with (h | h) | h
    · omega
    · exact hv x h
    · exact hn x h
set_option maxRecDepth 100000 in
set_option maxHeartbeats 16000000 in
theorem packets13_law (code id : Int) (A : Option Addr) (n c : Nat) (xs : List Int) (nm : ByteArray) (pc pi : Int) (B : Option Addr) (m d : Nat) (ys : List Int) (hn : xs.length = n) (hn' : n ≤ 140737488351232) (hnm : nm.size ≤ 140737488355328) (hm : ys.length = m) (hm' : m ≤ 140737488351232) (hmd : m ≤ d) (hbx : Byt xs) (hby : Byt ys) (w : World) (hx : Cells w A (nums .u8 xs)) (hy : Cells w B (nums .u8 ys)) :
    Calls Try.prog 3 #[.int .i64 code, .int .i64 id, .slice A n c, .string nm, .agg #[.int .i64 pc, .int .i64 pi, .slice B m d]] w fun e w' => e = .returned (.bool true) ∧ Below w.heap.size w w' := by
  have Hn := Lib.hid hn
  have HX := Lib.hid hx
  have Hm := Lib.hid hm
  have HY := Lib.hid hy
  have HBY := Lib.hid hby
  clear hn hx hm hy hby
  have HAL := mkF_len (code := code) (id := id) (v := xs) (n := strB nm)
  have HRB := mkF_byt (code := code) (id := id) hbx (strB_byt nm)
  have HTL := tdF_len (code := code) (id := id) (t := strB nm)
  obtain ⟨⟨⟨ra, rb⟩, rd, re⟩, hr⟩ : ∃ F, mkF code id xs (strB nm) = F := ⟨_, rfl⟩
  obtain ⟨⟨⟨ta, tb⟩, td, te⟩, ht⟩ : ∃ F, tdF code id (strB nm) = F := ⟨_, rfl⟩
  rw [hr] at HAL HRB
  have HRB := Lib.hid HRB
  rw [ht] at HTL
  have HRD : Hid (rd.length ≤ 400) := HAL
  have HTD : Hid (td.length ≤ 400) := HTL
  have HF := Lib.hid hr
  have HG := Lib.hid ht
  clear hr ht HAL HTL
  go_enter Try.func3, Try.ntmps3
  go_upto_region 1 with fail
  obtain ⟨wb, hwb⟩ : ∃ wb, w.alloc (.cells #[.int .i64 pc, .int .i64 pi, .slice B m d] 24) = wb := ⟨_, rfl⟩
  have HP : Hid (wb.heap[w.heap.size]? = some (.cells #[.int .i64 pc, .int .i64 pi, .slice B m d] 24 (0, 0))) := by unfold Hid; rw [← hwb]; exact at_new w _
  have Sb : Step wb w := ⟨by rw [← hwb]; exact Ext.out⟩
  rw [hwb]
  clear hwb
  go_wp2_with fail
  refine (lent_any A n c xs Hn.out hn' _ (by exact HX.out.ext)).mono ?_
  rintro e w1 ⟨g1, cap1, rfl, hcap1, ho1, hb1⟩
  have S1 : Step w1 wb := ⟨hb1⟩
  have HO1 := Lib.hid ho1
  have HC1 := Lib.hid (show Cells w1 (some ⟨g1, 0, none⟩) (nums .u8 xs) from by have := own_cells ho1; rw [nums_append] at this; exact this.left)
  clear ho1 hb1
  go_wp2_with fail
  refine (make_any code id (some ⟨g1, 0, none⟩) n cap1 xs nm Hn.out hnm (by omega) _ HC1.out).mono ?_
  rintro e w2 ⟨A2, k2, rfl, ho2, hb2⟩
  rw [HF.out] at ho2 ⊢
  simp only at ho2 ⊢
  have S2 : Step w2 w1 := ⟨hb2⟩
  have HO2 := Lib.hid ho2
  have pp : ∀ o, (w2.alloc o).heap[w2.heap.size]? = some o := at_new w2
  clear ho2 hb2
  go_upto_region 3 with
    (refine wpList_store_row_o rfl 24 (.tmp 12) (.tmp 39) rfl w2.heap.size #[.int .i64 ra, .int .i64 rb, .slice A2 rd.length k2] rfl rfl 24 #[.int .i64 0, .int .i64 0, .slice none 0 0] (pp _) (by kernel_rfl) rfl (by simp [Value.oneCell']) ?_
     intro w3 hr2 ho2 hz2 hb2
     have HRw3 := Lib.hid hr2
     have Xw3 : Hid (Ext w2 w3) := ⟨hb2 _ _ (inferInstance : Ext w2 (w2.alloc _)).out (Nat.le_refl _)⟩
     have Sw3 : Step w3 w2 := ⟨Xw3.out.out⟩
     clear hr2 ho2 hz2 hb2 pp)
  go_wp2_with fail
  refine (rmake_any code id A n c xs nm Hn.out hnm (by omega) _ (by exact HX.out.ext)).mono ?_
  rintro e w4 ⟨A4, k4, rfl, ho4, hb4⟩
  rw [HF.out] at ho4 ⊢
  simp only at ho4 ⊢
  have S4 : Step w4 w3 := ⟨hb4⟩
  have HO4 := Lib.hid ho4
  have pp : ∀ o, (w4.alloc o).heap[w4.heap.size]? = some o := at_new w4
  clear ho4 hb4
  go_upto_region 4 with
    (refine wpList_store_row_o rfl 24 (.tmp 14) (.tmp 47) rfl w4.heap.size #[.int .i64 ra, .int .i64 rb, .slice A4 rd.length k4] rfl rfl 24 #[.int .i64 0, .int .i64 0, .slice none 0 0] (pp _) (by kernel_rfl) rfl (by simp [Value.oneCell']) ?_
     intro w5 hr2 ho2 hz2 hb2
     have HRw5 := Lib.hid hr2
     have Xw5 : Hid (Ext w4 w5) := ⟨hb2 _ _ (inferInstance : Ext w4 (w4.alloc _)).out (Nat.le_refl _)⟩
     have Sw5 : Step w5 w4 := ⟨Xw5.out.out⟩
     clear hr2 ho2 hz2 hb2 pp)
  have HPb := Lib.hid (at_ext (w' := w5) HRw3.out)
  have ua : w5.cell? ⟨w2.heap.size, 0, none⟩ = some (.int .i64 ra) := at_cell HPb.out 0
  have ub : w5.cell? ⟨w2.heap.size, 1, none⟩ = some (.int .i64 rb) := at_cell HPb.out 1
  have uc : w5.cell? ⟨w2.heap.size, 2, none⟩ = some (.slice A2 rd.length k2) := at_cell HPb.out 2
  have qa : w5.cell? ⟨w4.heap.size, 0, none⟩ = some (.int .i64 ra) := at_cell HRw5.out 0
  have qb : w5.cell? ⟨w4.heap.size, 1, none⟩ = some (.int .i64 rb) := at_cell HRw5.out 1
  have qc : w5.cell? ⟨w4.heap.size, 2, none⟩ = some (.slice A4 rd.length k4) := at_cell HRw5.out 2
  go_wp2_with fail
  refine (samePacket_any ra rb ra rb A2 A4 rd.length rd.length k2 k4 rd rd rfl rfl (by have := HRD.out; omega) (by have := HRD.out; omega) _ (Cells.ext (w := w2) (own_cells HO2.out)) (Cells.ext (w := w4) (own_cells HO4.out))).mono ?_
  rintro e w6 ⟨rfl, hb6⟩
  have S6 : Step w6 w5 := ⟨hb6⟩
  rw [pkSame_self]
  clear hb6 ua ub uc qa qb qc HPb
  go_wp2_with fail
  refine (kept_true g1 cap1 n n c _ A xs Hn.out rfl hcap1 hn' _ (own_ext HO1.out) (HX.out.ext)).mono ?_
  rintro e w7 ⟨rfl, hd7⟩
  have S7 : Step w7 w6 := Step.drawn hd7
  clear hd7
  go_wp2_with fail
  refine (told_any code id nm hnm _).mono ?_
  rintro e w8 ⟨A8, k8, rfl, hk8, ho8, hb8⟩
  rw [HG.out] at hk8 ho8 ⊢
  simp only at hk8 ho8 ⊢
  have S8 : Step w8 w7 := ⟨hb8⟩
  have HO8 := Lib.hid ho8
  have pp : ∀ o, (w8.alloc o).heap[w8.heap.size]? = some o := at_new w8
  clear ho8 hb8 hk8
  go_upto_region 7 with
    (refine wpList_store_row_o rfl 24 (.tmp 16) (.tmp 69) rfl w8.heap.size #[.int .i64 ta, .int .i64 tb, .slice A8 td.length k8] rfl rfl 24 #[.int .i64 0, .int .i64 0, .slice none 0 0] (pp _) (by kernel_rfl) rfl (by simp [Value.oneCell']) ?_
     intro w9 hr2 ho2 hz2 hb2
     have HRw9 := Lib.hid hr2
     have Xw9 : Hid (Ext w8 w9) := ⟨hb2 _ _ (inferInstance : Ext w8 (w8.alloc _)).out (Nat.le_refl _)⟩
     have Sw9 : Step w9 w8 := ⟨Xw9.out.out⟩
     clear hr2 ho2 hz2 hb2 pp)
  go_wp2_with fail
  refine (rtold_any code id nm hnm _).mono ?_
  rintro e w10 ⟨A10, k10, rfl, hk10, ho10, hb10⟩
  rw [HG.out] at hk10 ho10 ⊢
  simp only at hk10 ho10 ⊢
  have S10 : Step w10 w9 := ⟨hb10⟩
  have HO10 := Lib.hid ho10
  have pp : ∀ o, (w10.alloc o).heap[w10.heap.size]? = some o := at_new w10
  clear ho10 hb10 hk10
  go_upto_region 8 with
    (refine wpList_store_row_o rfl 24 (.tmp 18) (.tmp 76) rfl w10.heap.size #[.int .i64 ta, .int .i64 tb, .slice A10 td.length k10] rfl rfl 24 #[.int .i64 0, .int .i64 0, .slice none 0 0] (pp _) (by kernel_rfl) rfl (by simp [Value.oneCell']) ?_
     intro w11 hr2 ho2 hz2 hb2
     have HRw11 := Lib.hid hr2
     have Xw11 : Hid (Ext w10 w11) := ⟨hb2 _ _ (inferInstance : Ext w10 (w10.alloc _)).out (Nat.le_refl _)⟩
     have Sw11 : Step w11 w10 := ⟨Xw11.out.out⟩
     clear hr2 ho2 hz2 hb2 pp)
  have HPb := Lib.hid (at_ext (w' := w11) HRw9.out)
  have ua : w11.cell? ⟨w8.heap.size, 0, none⟩ = some (.int .i64 ta) := at_cell HPb.out 0
  have ub : w11.cell? ⟨w8.heap.size, 1, none⟩ = some (.int .i64 tb) := at_cell HPb.out 1
  have uc : w11.cell? ⟨w8.heap.size, 2, none⟩ = some (.slice A8 td.length k8) := at_cell HPb.out 2
  have qa : w11.cell? ⟨w10.heap.size, 0, none⟩ = some (.int .i64 ta) := at_cell HRw11.out 0
  have qb : w11.cell? ⟨w10.heap.size, 1, none⟩ = some (.int .i64 tb) := at_cell HRw11.out 1
  have qc : w11.cell? ⟨w10.heap.size, 2, none⟩ = some (.slice A10 td.length k10) := at_cell HRw11.out 2
  go_wp2_with fail
  refine (samePacket_any ta tb ta tb A8 A10 td.length td.length k8 k10 td td rfl rfl (by have := HTD.out; omega) (by have := HTD.out; omega) _ (Cells.ext (w := w8) HO8.out) (Cells.ext (w := w10) HO10.out)).mono ?_
  rintro e w12 ⟨rfl, hb12⟩
  have S12 : Step w12 w11 := ⟨hb12⟩
  rw [pkSame_self]
  clear hb12 ua ub uc qa qb qc HPb
  go_upto_if 88 with fail
  obtain ⟨z, hz⟩ : ∃ z, (re == 0) = z := ⟨_, rfl⟩
  rw [hz]
  have HZ := Lib.hid hz
  clear hz
  go_cut [] (fun wx => Hid (Ext w12 wx))
  case first =>
    cases z
    · go_wp2_with fail
      go_meet
      case rel => exact Ext.refl_ _
    · have hre : re = 0 := by simpa using HZ.out
      have HBK := Lib.hid (mk_back (HF.out.trans (by rw [hre])))
      clear hre
      have HPb := Lib.hid (at_ext (w' := w12) HRw3.out)
      have ua : w12.cell? ⟨w2.heap.size, 0, none⟩ = some (.int .i64 ra) := at_cell HPb.out 0
      have ub : w12.cell? ⟨w2.heap.size, 1, none⟩ = some (.int .i64 rb) := at_cell HPb.out 1
      have uc : w12.cell? ⟨w2.heap.size, 2, none⟩ = some (.slice A2 rd.length k2) := at_cell HPb.out 2
      go_wp2_with fail
      refine (read_any ra rb A2 rd.length k2 rd rfl (by have := HRD.out; omega) HRB.out _ (Cells.ext (w := w2) (own_cells HO2.out))).mono ?_
      rintro e x1 ⟨Av, kv, rfl, hov, hbv⟩
      rw [HBK.out] at hov ⊢
      simp only [strOf_eq, Hn.out] at hov ⊢
      have T1 : Step x1 w12 := ⟨hbv⟩
      have HOV := Lib.hid hov
      clear hov hbv HPb ua ub uc
      go_wp2_with fail
      refine (same_any Av A n n kv c xs xs Hn.out Hn.out (by omega) (by omega) _ (own_cells HOV.out) (by exact HX.out.ext)).mono ?_
      rintro e x2 ⟨rfl, hd2⟩
      have T2 : Step x2 x1 := Step.drawn hd2
      rw [decide_eq_true rfl]
      clear hd2
      go_wp2_with fail
      refine (spoil_any Av n kv _ xs _ (by omega) (own_ext (w := x1) HOV.out)).mono ?_
      rintro e x3 ⟨rfl, hg3⟩
      have T3 := Step.wrote (w0 := w12) hg3 (own_base HOV.out)
      clear hg3
      go_wp2_with fail
      go_meet
      case rel => exact (inferInstance : Ext w12 x3)
  case' rest =>
    obtain ⟨w13, rfl⟩ : ∃ x, x = wc := ⟨wc, rfl⟩
  have S13 : Step w13 w12 := ⟨hcut.out.out⟩
  clear hcut
  have HPb := Lib.hid (at_ext (w' := w13) HRw3.out)
  have ua : w13.cell? ⟨w2.heap.size, 0, none⟩ = some (.int .i64 ra) := at_cell HPb.out 0
  have ub : w13.cell? ⟨w2.heap.size, 1, none⟩ = some (.int .i64 rb) := at_cell HPb.out 1
  have uc : w13.cell? ⟨w2.heap.size, 2, none⟩ = some (.slice A2 rd.length k2) := at_cell HPb.out 2
  go_wp2_with fail
  refine (spoil_any A2 rd.length k2 _ rd _ (by have := HRD.out; omega) (own_ext (w := w2) HO2.out)).mono ?_
  rintro e w14 ⟨rfl, hg14⟩
  have S14 := Step.wrote (w0 := w1) hg14 (own_base HO2.out)
  clear hg14 HPb ua ub uc
  have HPb := Lib.hid (at_ext (w' := w14) HP.out)
  have ua : w14.cell? ⟨w.heap.size, 0, none⟩ = some (.int .i64 pc) := at_cell HPb.out 0
  have ub : w14.cell? ⟨w.heap.size, 1, none⟩ = some (.int .i64 pi) := at_cell HPb.out 1
  have uc : w14.cell? ⟨w.heap.size, 2, none⟩ = some (.slice B m d) := at_cell HPb.out 2
  go_wp2_with fail
  refine (lent_any B m d ys Hm.out hm' _ (by exact HY.out.ext)).mono ?_
  rintro e w15 ⟨g15, cap15, rfl, hcap15, ho15, hb15⟩
  have S15 : Step w15 w14 := ⟨hb15⟩
  have HO15 := Lib.hid ho15
  have HC15 := Lib.hid (show Cells w15 (some ⟨g15, 0, none⟩) (nums .u8 ys) from by have := own_cells ho15; rw [nums_append] at this; exact this.left)
  clear ho15 hb15 HPb ua ub uc
  have HPb := Lib.hid (at_ext (w' := w15) HP.out)
  have ua : w15.cell? ⟨w.heap.size, 0, none⟩ = some (.int .i64 pc) := at_cell HPb.out 0
  have ub : w15.cell? ⟨w.heap.size, 1, none⟩ = some (.int .i64 pi) := at_cell HPb.out 1
  have uc : w15.cell? ⟨w.heap.size, 2, none⟩ = some (.slice B m d) := at_cell HPb.out 2
  have pp : ∀ o, (w15.alloc o).heap[w15.heap.size]? = some o := at_new w15
  go_upto_region 18 with
    (refine wpList_store_row_o rfl 24 (.tmp 24) (.tmp 116) rfl w15.heap.size #[.int .i64 pc, .int .i64 pi, .slice B m d] rfl rfl 24 #[.int .i64 0, .int .i64 0, .slice none 0 0] (pp _) (by kernel_rfl) rfl (by simp [Value.oneCell']) ?_
     intro w16 hr2 ho2 hz2 hb2
     have HR16 := Lib.hid hr2
     have S16 : Step w16 w15 := ⟨hb2 _ _ (inferInstance : Ext w15 (w15.alloc _)).out (Nat.le_refl _)⟩
     have qc : w16.cell? ⟨w15.heap.size, 2, none⟩ = some (.slice B m d) := at_cell hr2 2
     have qf : w16.frozen? ⟨w15.heap.size, 2, none⟩ = false := at_frozen hr2 2
     clear hr2 ho2 hz2 hb2 pp)
  clear ua ub uc HPb
  go_upto_region 19 with fail
  obtain ⟨w17, hw17⟩ : ∃ w17, w16.setCell ⟨w15.heap.size, 2, none⟩ (.slice (some ⟨g15, 0, none⟩) m cap15) = w17 := ⟨_, rfl⟩
  have HR17 : Hid (w17.heap[w15.heap.size]? = some (.cells #[.int .i64 pc, .int .i64 pi, .slice (some ⟨g15, 0, none⟩) m cap15] 24 (0, 0))) := by unfold Hid; rw [← hw17]; exact at_set HR16.out 2 _
  have S17 : Step w17 w15 := ⟨by rw [← hw17]; exact (inferInstance : Ext w15 w16).out.setCell (p := ⟨w15.heap.size, 2, none⟩) (Nat.le_refl _) _⟩
  rw [hw17]
  clear hw17 qc qf
  have qa : w17.cell? ⟨w15.heap.size, 0, none⟩ = some (.int .i64 pc) := at_cell HR17.out 0
  have qb : w17.cell? ⟨w15.heap.size, 1, none⟩ = some (.int .i64 pi) := at_cell HR17.out 1
  have qc : w17.cell? ⟨w15.heap.size, 2, none⟩ = some (.slice (some ⟨g15, 0, none⟩) m cap15) := at_cell HR17.out 2
  go_wp2_with fail
  refine (read_any pc pi (some ⟨g15, 0, none⟩) m cap15 ys Hm.out (by omega) HBY.out _ (by exact HC15.out.ext)).mono ?_
  rintro e w18 ⟨A18, k18, rfl, ho18, hb18⟩
  have S18 : Step w18 w17 := ⟨hb18⟩
  have HO18 := Lib.hid ho18
  clear ho18 hb18 qa qb qc
  have HPb := Lib.hid (at_ext (w' := w18) HP.out)
  have ua : w18.cell? ⟨w.heap.size, 0, none⟩ = some (.int .i64 pc) := at_cell HPb.out 0
  have ub : w18.cell? ⟨w.heap.size, 1, none⟩ = some (.int .i64 pi) := at_cell HPb.out 1
  have uc : w18.cell? ⟨w.heap.size, 2, none⟩ = some (.slice B m d) := at_cell HPb.out 2
  go_wp2_with fail
  refine (rread_any pc pi B m d ys Hm.out (by omega) hmd HBY.out _ (by exact HY.out.ext)).mono ?_
  rintro e w19 ⟨A19, k19, rfl, ho19, hb19⟩
  have S19 : Step w19 w18 := ⟨hb19⟩
  have HO19 := Lib.hid ho19
  clear ho19 hb19 ua ub uc HPb
  obtain ⟨⟨⟨rp, rr⟩, rx⟩, hrr⟩ : ∃ F, rdF pc pi ys = F := ⟨_, rfl⟩
  have HRL := Lib.hid (rdF_all HBY.out hrr).1.2
  rw [hrr] at HO18 HO19 ⊢
  simp only at HO18 HO19 HRL ⊢
  clear hrr
  go_wp2_with fail
  refine (same_any A18 A19 rp.length rp.length k18 k19 rp rp rfl rfl (by have := HRL.out; omega) (by have := HRL.out; omega) _ (own_cells (own_ext (w := w18) HO18.out)) (own_cells HO19.out)).mono ?_
  rintro e w20 ⟨rfl, hd20⟩
  have S20 : Step w20 w19 := Step.drawn hd20
  rw [decide_eq_true rfl]
  clear hd20
  go_wp2_with fail
  refine (spoil_any A18 rp.length k18 _ rp _ (by have := HRL.out; omega) (own_ext (w := w18) HO18.out)).mono ?_
  rintro e w21 ⟨rfl, hg21⟩
  have S21 := Step.wrote (w0 := w17) hg21 (own_base HO18.out)
  clear hg21
  have HPb := Lib.hid (at_ext (w' := w21) HP.out)
  have ua : w21.cell? ⟨w.heap.size, 0, none⟩ = some (.int .i64 pc) := at_cell HPb.out 0
  have ub : w21.cell? ⟨w.heap.size, 1, none⟩ = some (.int .i64 pi) := at_cell HPb.out 1
  have uc : w21.cell? ⟨w.heap.size, 2, none⟩ = some (.slice B m d) := at_cell HPb.out 2
  go_wp2_with fail
  refine (kept_true g15 cap15 m m d _ B ys Hm.out rfl hcap15 hm' _ (own_ext (w := w15) HO15.out) (HY.out.ext)).mono ?_
  rintro e w22 ⟨rfl, hd22⟩
  have S22 : Step w22 w21 := Step.drawn hd22
  clear hd22
  go_wp2_with fail
  refine (known13_any _).mono ?_
  rintro e w23 ⟨rfl, hb23⟩
  have S23 : Step w23 w22 := ⟨hb23⟩
  clear hb23
  go_wp2
  go_ret
  exact ⟨rfl, Ext.out⟩
namespace ChapPackets
set_option maxRecDepth 100000 in
theorem walk (U : Nat) (W : World) (vs : List Value) (h : Args U Try.prog W Try.f3.params.toList vs) : Calls Try.prog 3 vs.toArray W fun e W' => e = .returned (.bool true) ∧ Below W.heap.size W W' := by
  rw [Try.params3] at h
  match vs, h with
  | [v0, v1, v2, v3, v4], ⟨h0, h1, h2, h3, h4, _⟩ =>
    obtain ⟨code, rfl, _⟩ := h0.int Try.underlying3
    obtain ⟨id, rfl, _⟩ := h1.int Try.underlying3
    obtain ⟨A, n, c, xs, rfl, hl, hnc, hn, hC, hB⟩ := h2.bytes Try.underlying22 Try.underlying5 cells_u8 bytes_u8
    obtain ⟨nm, rfl, hnm⟩ := h3.str Try.underlying9
    obtain ⟨pc, pi, B, m, d, ys, rfl, hly, hm, hmd, hCy, hBy, _⟩ := arg_packet h4
    exact packets13_law code id A n c xs nm pc pi B m d ys hl hn (by omega) hly hm hmd hB hBy W hC hCy

set_option maxRecDepth 100000 in
theorem lifted (os : Os) (started : os.Started) (H : Type) (enc : TypeId × Value → H) :
    ReturnsInHanded {} Try.checked os 3 .any (Rows.chapPacketsSpec.pre6 enc Try.prog Try.f3 Rows.chapPacketsRow.domain false) (Rows.chapPacketsSpec.post enc Try.prog Try.f3 false true false false) :=
  law_lifted (C := Try.checked) laid_out own_knob started (by kernel_rfl) Try.func3 H enc rfl
    (fun ds hd => by
      have : ds.length = 5 := hd
      match ds, this with
      | [_, _, _, _, _], _ => exact ⟨rfl, rfl, rfl⟩) rfl Try.underlying4 (by
      have : (Try.f3.params.toList.all fun t => Try.prog.readableRec t && decide (t < Try.prog.types.size)) = true := by kernel_rfl
      intro t ht
      have h := List.all_eq_true.1 this t ht
      rw [Bool.and_eq_true, decide_eq_true_eq] at h
      exact h)
    (ChangeSpec.witness6 (enc := enc) (C := Try.checked) false ⟨#[], #[.int .i64 0, .int .i64 0, .slice none 0 0, .string ⟨#[]⟩, .agg #[.int .i64 0, .int .i64 0, .slice none 0 0]], []⟩ 8 (by kernel_rfl) (by kernel_rfl) (by kernel_rfl) (by kernel_rfl)) walk

theorem over : Rows.chapPacketsRow.holds Try.pinned (OpenSpec.ofChange Rows.chapPacketsSpec) :=
  OpenClaim.holds_of_wide 3 Try.f3 rfl rfl rfl rfl rfl rfl rfl ⟨rfl, rfl, rfl, rfl, rfl⟩ rfl rfl rfl rfl rfl (by kernel_rfl) Try.func3 (by kernel_rfl)
    (of_decide_eq_true (by kernel_rfl)) (by unfold Func.isWrapper; first | (rw [if_pos (by decide +kernel)]; kernel_rfl) | (rw [if_neg (by decide +kernel)]; exact ⟨rfl, rfl⟩))
    (fun os started H enc _ => lifted os started H enc)

/-- The statement. -/
theorem proved : Rows.ChapPacketsSaid := over
#print axioms proved
end ChapPackets
end Go.Proofs.Ytobddmpiljknpaa
