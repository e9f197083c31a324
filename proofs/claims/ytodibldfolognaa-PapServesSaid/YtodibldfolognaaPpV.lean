/-
  tetherlaw12.PapPackets: requests and answers are written and read, and read as they were: for every input the call answers true. No condition.
-/
import Derived.Test.YtodibldfolognaaPpU
namespace Go.Proofs.Ytodibldfolognaa
open Go.RowKit
set_option linter.unusedVariables false
set_option linter.unusedSimpArgs false

theorem own_room {w : World} {base n size : Nat} {e : TypeId} {A : Option Addr} {k c : Nat} {cs : List Value} (h : w.ownsRow base e size (.slice A k c) n cs) : n ≤ c := by
  obtain ⟨A', c', he, hc⟩ := own_slice h
  injection he with _ _ he
  rw [he]
  exact hc
theorem byt_nil : Byt [] ∧ ([] : List Int).length ≤ 1000 := ⟨fun _ h => (by cases h), by simp⟩
theorem part_of (n r : List Int) : partF ((n.length : Int) :: (n ++ r)) = some (n, r) := by
  show (if ((n ++ r).length : Int) < (n.length : Int) then none else some ((n ++ r).take ((n.length : Int)).toNat, (n ++ r).drop ((n.length : Int)).toNat)) = _
  rw [if_neg (by simp; omega), Int.toNat_natCast, List.take_left' rfl, List.drop_left' rfl]
theorem strOf_strB (s : ByteArray) : (strOfNums (strB s)).toList = s.toList := strB_inj (strB_str _ (strB_byt s))
theorem req_back {id a b : Int} {n m d : List Int} (h : reqF id n m = ((a, b), d, 0)) : rrF a b d = ((n, m), 0) := by
  unfold reqF at h
  split at h
  · injection h with _ h; injection h with _ h; cases h
  · rename_i h1
    split at h
    · injection h with _ h; injection h with _ h; cases h
    · injection h with h0 h
      injection h with h2 _
      injection h0 with h3 h4
      subst h2 h3 h4
      unfold rrF
      rw [if_neg h1, if_neg (by simp)]
      have e1 : ([(n.length : Int)] ++ n ++ [(m.length : Int)] ++ m) = (n.length : Int) :: (n ++ ((m.length : Int) :: m)) := by simp
      have e2 := part_of m []
      rw [List.append_nil] at e2
      rw [e1, part_of]
      simp only
      rw [e2]
      simp
theorem ans_back {id a b : Int} {ok : Bool} {m d : List Int} (h : ansF id ok m = ((a, b), d, 0)) : raF a b d = ((ok, m), 0) := by
  unfold ansF at h
  split at h
  · injection h with _ h; injection h with _ h; cases h
  · rename_i h1
    split at h
    · injection h with _ h; injection h with _ h; cases h
    · split at h
      · injection h with _ h; injection h with _ h; cases h
      · rename_i h5
        injection h with h0 h
        injection h with h2 _
        injection h0 with h3 h4
        subst h2 h3 h4
        have e2 := part_of m []
        rw [List.append_nil] at e2
        unfold raF
        rw [if_neg h1, if_neg (by cases ok <;> simp), if_neg (by simp), show [(m.length : Int)] ++ m = (m.length : Int) :: m from rfl, e2]
        simp only
        rw [if_neg (by rintro (h | h); exact h rfl; exact h5 h)]
        cases ok <;> rfl
theorem req_byt {id a b e : Int} {n m d : List Int} (hn : Byt n) (hm : Byt m) (h : reqF id n m = ((a, b), d, e)) : Byt d ∧ d.length ≤ 1000 := by
  unfold reqF at h
  split at h
  · injection h with _ h; injection h with h _; subst h; exact byt_nil
  · split at h
    · injection h with _ h; injection h with h _; subst h; exact byt_nil
    · injection h with _ h
      injection h with h _
      subst h
      refine ⟨fun x hx => ?_, by simp; omega⟩
      simp only [List.mem_append, List.mem_singleton] at hx
      rcases hx with ((rfl | hx) | rfl) | hx
      · omega
      · exact hn x hx
      · omega
      · exact hm x hx
theorem ans_byt {id a b e : Int} {ok : Bool} {m d : List Int} (hm : Byt m) (h : ansF id ok m = ((a, b), d, e)) : Byt d ∧ d.length ≤ 1000 := by
  unfold ansF at h
  split at h
  · injection h with _ h; injection h with h _; subst h; exact byt_nil
  · split at h
    · injection h with _ h; injection h with h _; subst h; exact byt_nil
    · split at h
      · injection h with _ h; injection h with h _; subst h; exact byt_nil
      · injection h with _ h
        injection h with h _
        subst h
        refine ⟨fun x hx => ?_, by simp; omega⟩
        simp only [List.mem_append, List.mem_singleton] at hx
        rcases hx with rfl | hx
        · omega
        · exact hm x hx
set_option maxRecDepth 100000 in
set_option maxHeartbeats 16000000 in
theorem packets12_law (id : Int) (nm wd : ByteArray) (ok : Bool) (code id2 : Int) (A : Option Addr) (n c : Nat) (xs : List Int) (hnm : nm.size ≤ 140737488351232) (hwd : wd.size ≤ 140737488351232) (hn : xs.length = n) (hn' : n ≤ 140737488351232) (hnc : n ≤ c) (hb : Byt xs) (w : World) (hx : Cells w A (nums .u8 xs)) :
    Calls Try.prog 9 #[.int .i64 id, .string nm, .string wd, .bool ok, .agg #[.int .i64 code, .int .i64 id2, .slice A n c]] w fun e w' => e = .returned (.bool true) ∧ Below w.heap.size w w' := by
  have Hn := Lib.hid hn
  have HX := Lib.hid hx
  have HB := Lib.hid hb
  clear hn hx hb
  obtain ⟨⟨⟨ra, rb⟩, rd, re⟩, hR⟩ : ∃ r, reqF id (strB nm) (strB wd) = r := ⟨_, rfl⟩
  obtain ⟨⟨⟨sa, sb⟩, sd, se⟩, hS⟩ : ∃ r, ansF id ok (strB nm) = r := ⟨_, rfl⟩
  have HR := Lib.hid hR
  have HS := Lib.hid hS
  have HRB := Lib.hid (req_byt (strB_byt _) (strB_byt _) hR)
  have HSB := Lib.hid (ans_byt (strB_byt _) hS)
  clear hR hS
  go_enter Try.func9, Try.ntmps9
  go_upto_region 1 with fail
  obtain ⟨wb, hwb⟩ : ∃ wb, w.alloc (.cells #[.int .i64 code, .int .i64 id2, .slice A n c] 43) = wb := ⟨_, rfl⟩
  have HP : Hid (wb.heap[w.heap.size]? = some (.cells #[.int .i64 code, .int .i64 id2, .slice A n c] 43 (0, 0))) := by unfold Hid; rw [← hwb]; exact at_new w _
  have Sb : Step wb w := ⟨by rw [← hwb]; exact Ext.out⟩
  rw [hwb]
  clear hwb
  go_wp2_with fail
  refine (request_any id nm wd (by omega) (by omega) _).mono ?_
  rintro e w1 ⟨Aw1, cw1, rfl, ho, hb⟩
  rw [HR.out] at ho ⊢
  simp only at ho ⊢
  have Sw1 : Step w1 _ := ⟨hb⟩
  have pn : ∀ o, (w1.alloc o).heap[w1.heap.size]? = some o := at_new w1
  clear hb
  go_wp2_with
    (refine wpList_store_row_o rfl 43 (.tmp 11) (.tmp 43) rfl w1.heap.size #[.int .i64 ra, .int .i64 rb, .slice Aw1 rd.length cw1] rfl rfl 43 #[.int .i64 0, .int .i64 0, .slice none 0 0] (pn _) (by kernel_rfl) rfl (by simp [Value.oneCell']) ?_
     intro v1 hr2 ho2 hz2 hb2
     have HRv1 := Lib.hid hr2
     have Sv1 : Step v1 w1 := ⟨hb2 _ _ (inferInstance : Ext w1 (w1.alloc _)).out (Nat.le_refl _)⟩
     have HOw1 := Lib.hid (own_ext (w' := v1) ho)
     clear hr2 ho2 hz2 hb2 pn ho)
  refine (rrequest_any id nm wd _).mono ?_
  rintro e w2 ⟨Aw2, cw2, rfl, ho, hb⟩
  rw [HR.out] at ho ⊢
  simp only at ho ⊢
  have Sw2 : Step w2 _ := ⟨hb⟩
  have pn : ∀ o, (w2.alloc o).heap[w2.heap.size]? = some o := at_new w2
  clear hb
  go_wp2_with
    (refine wpList_store_row_o rfl 43 (.tmp 13) (.tmp 50) rfl w2.heap.size #[.int .i64 ra, .int .i64 rb, .slice Aw2 rd.length cw2] rfl rfl 43 #[.int .i64 0, .int .i64 0, .slice none 0 0] (pn _) (by kernel_rfl) rfl (by simp [Value.oneCell']) ?_
     intro v2 hr2 ho2 hz2 hb2
     have HRv2 := Lib.hid hr2
     have Sv2 : Step v2 w2 := ⟨hb2 _ _ (inferInstance : Ext w2 (w2.alloc _)).out (Nat.le_refl _)⟩
     have HOw2 := Lib.hid (own_ext (w' := v2) ho)
     clear hr2 ho2 hz2 hb2 pn ho)
  refine (answer_any id ok nm (by omega) _).mono ?_
  rintro e w3 ⟨Aw3, cw3, rfl, ho, hb⟩
  rw [HS.out] at ho ⊢
  simp only at ho ⊢
  have Sw3 : Step w3 _ := ⟨hb⟩
  have pn : ∀ o, (w3.alloc o).heap[w3.heap.size]? = some o := at_new w3
  clear hb
  go_wp2_with
    (refine wpList_store_row_o rfl 43 (.tmp 15) (.tmp 57) rfl w3.heap.size #[.int .i64 sa, .int .i64 sb, .slice Aw3 sd.length cw3] rfl rfl 43 #[.int .i64 0, .int .i64 0, .slice none 0 0] (pn _) (by kernel_rfl) rfl (by simp [Value.oneCell']) ?_
     intro v3 hr2 ho2 hz2 hb2
     have HRv3 := Lib.hid hr2
     have Sv3 : Step v3 w3 := ⟨hb2 _ _ (inferInstance : Ext w3 (w3.alloc _)).out (Nat.le_refl _)⟩
     have HOw3 := Lib.hid (own_ext (w' := v3) ho)
     clear hr2 ho2 hz2 hb2 pn ho)
  refine (ranswer_any id ok nm (by omega) _).mono ?_
  rintro e w4 ⟨Aw4, cw4, rfl, ho, hb⟩
  rw [HS.out] at ho ⊢
  simp only at ho ⊢
  have Sw4 : Step w4 _ := ⟨hb⟩
  have pn : ∀ o, (w4.alloc o).heap[w4.heap.size]? = some o := at_new w4
  clear hb
  go_upto_region 5 with
    (refine wpList_store_row_o rfl 43 (.tmp 17) (.tmp 64) rfl w4.heap.size #[.int .i64 sa, .int .i64 sb, .slice Aw4 sd.length cw4] rfl rfl 43 #[.int .i64 0, .int .i64 0, .slice none 0 0] (pn _) (by kernel_rfl) rfl (by simp [Value.oneCell']) ?_
     intro v4 hr2 ho2 hz2 hb2
     have HRv4 := Lib.hid hr2
     have Sv4 : Step v4 w4 := ⟨hb2 _ _ (inferInstance : Ext w4 (w4.alloc _)).out (Nat.le_refl _)⟩
     have HOw4 := Lib.hid (own_ext (w' := v4) ho)
     clear hr2 ho2 hz2 hb2 pn ho)
  have a0 : v4.cell? ⟨w1.heap.size, 0, none⟩ = some (.int .i64 ra) := at_cell (at_ext HRv1.out) 0
  have a1 : v4.cell? ⟨w1.heap.size, 1, none⟩ = some (.int .i64 rb) := at_cell (at_ext HRv1.out) 1
  have a2 : v4.cell? ⟨w1.heap.size, 2, none⟩ = some (.slice Aw1 rd.length cw1) := at_cell (at_ext HRv1.out) 2
  have b0 : v4.cell? ⟨w2.heap.size, 0, none⟩ = some (.int .i64 ra) := at_cell (at_ext HRv2.out) 0
  have b1 : v4.cell? ⟨w2.heap.size, 1, none⟩ = some (.int .i64 rb) := at_cell (at_ext HRv2.out) 1
  have b2 : v4.cell? ⟨w2.heap.size, 2, none⟩ = some (.slice Aw2 rd.length cw2) := at_cell (at_ext HRv2.out) 2
  go_wp2_with fail
  refine (same12_any ra rb ra rb Aw1 Aw2 rd.length rd.length cw1 cw2 rd rd rfl rfl HRB.out.1 HRB.out.1 _ (own_cells (own_ext HOw1.out)) (own_cells (own_ext HOw2.out))).mono ?_
  rintro e x1 ⟨rfl, hbx1⟩
  have Sx1 : Step x1 v4 := ⟨hbx1⟩
  rw [pkSame_self]
  clear hbx1 a0 a1 a2 b0 b1 b2
  have a0 : x1.cell? ⟨w3.heap.size, 0, none⟩ = some (.int .i64 sa) := at_cell (at_ext HRv3.out) 0
  have a1 : x1.cell? ⟨w3.heap.size, 1, none⟩ = some (.int .i64 sb) := at_cell (at_ext HRv3.out) 1
  have a2 : x1.cell? ⟨w3.heap.size, 2, none⟩ = some (.slice Aw3 sd.length cw3) := at_cell (at_ext HRv3.out) 2
  have b0 : x1.cell? ⟨w4.heap.size, 0, none⟩ = some (.int .i64 sa) := at_cell (at_ext HRv4.out) 0
  have b1 : x1.cell? ⟨w4.heap.size, 1, none⟩ = some (.int .i64 sb) := at_cell (at_ext HRv4.out) 1
  have b2 : x1.cell? ⟨w4.heap.size, 2, none⟩ = some (.slice Aw4 sd.length cw4) := at_cell (at_ext HRv4.out) 2
  go_wp2_with fail
  refine (same12_any sa sb sa sb Aw3 Aw4 sd.length sd.length cw3 cw4 sd sd rfl rfl HSB.out.1 HSB.out.1 _ (own_cells (own_ext HOw3.out)) (own_cells (own_ext HOw4.out))).mono ?_
  rintro e x2 ⟨rfl, hbx2⟩
  have Sx2 : Step x2 x1 := ⟨hbx2⟩
  rw [pkSame_self]
  clear hbx2 a0 a1 a2 b0 b1 b2
  have a0 : x2.cell? ⟨w1.heap.size, 0, none⟩ = some (.int .i64 ra) := at_cell (at_ext HRv1.out) 0
  have a1 : x2.cell? ⟨w1.heap.size, 1, none⟩ = some (.int .i64 rb) := at_cell (at_ext HRv1.out) 1
  have a2 : x2.cell? ⟨w1.heap.size, 2, none⟩ = some (.slice Aw1 rd.length cw1) := at_cell (at_ext HRv1.out) 2
  have hcr : rd.length ≤ cw1 := own_room HOw1.out
  go_upto_if 87 with fail
  go_cut [] (fun wx => Hid (Ext x2 wx))
  case first =>
    by_cases hz : re = 0
    · subst hz
      have HBK := Lib.hid (req_back HR.out)
      have hs1 := strOf_strB nm
      have hs2 := strOf_strB wd
      go_wp2_with fail
      refine (readReq_any ra rb Aw1 rd.length cw1 rd rfl (by have := HRB.out.2; omega) hcr HRB.out.1 _ (own_cells (own_ext HOw1.out))).mono ?_
      rintro e x3 ⟨he, hb3⟩
      unfold RRTells at he
      rw [HBK.out] at he
      subst he
      have HX3 : Hid (Ext x2 x3) := ⟨hb3⟩
      clear hb3
      go_wp2_with fail
      go_meet
      case rel => exact HX3.out
    · have hzb : (re == 0) = false := by simpa using hz
      go_wp2_with fail
      go_meet
      case rel => exact (inferInstance : Ext x2 x2)
  case' rest =>
    have HX3 := Lib.hid hcut.out
    generalize wc = x3 at *
    clear hcut
    have Sx3 : Step x3 x2 := ⟨HX3.out.out⟩
  clear a0 a1 a2 hcr
  have a0 : x3.cell? ⟨w3.heap.size, 0, none⟩ = some (.int .i64 sa) := at_cell (at_ext HRv3.out) 0
  have a1 : x3.cell? ⟨w3.heap.size, 1, none⟩ = some (.int .i64 sb) := at_cell (at_ext HRv3.out) 1
  have a2 : x3.cell? ⟨w3.heap.size, 2, none⟩ = some (.slice Aw3 sd.length cw3) := at_cell (at_ext HRv3.out) 2
  have hcs : sd.length ≤ cw3 := own_room HOw3.out
  go_upto_if 107 with fail
  go_cut [] (fun wx => Hid (Ext x3 wx))
  case first =>
    by_cases hz : se = 0
    · subst hz
      have HBK := Lib.hid (ans_back HS.out)
      have hs1 := strOf_strB nm
      go_wp2_with fail
      refine (readAns_any sa sb Aw3 sd.length cw3 sd rfl (by have := HSB.out.2; omega) hcs HSB.out.1 _ (own_cells (own_ext HOw3.out))).mono ?_
      rintro e x4 ⟨he, hb3⟩
      unfold RATells at he
      rw [HBK.out] at he
      subst he
      have HX4 : Hid (Ext x3 x4) := ⟨hb3⟩
      clear hb3
      go_wp2_with fail
      go_meet
      case rel => exact HX4.out
    · have hzb : (se == 0) = false := by simpa using hz
      go_wp2_with fail
      go_meet
      case rel => exact (inferInstance : Ext x3 x3)
  case' rest =>
    have HX4 := Lib.hid hcut.out
    generalize wc = x4 at *
    clear hcut
    have Sx4 : Step x4 x3 := ⟨HX4.out.out⟩
  clear a0 a1 a2 hcs
  have p0 : x4.cell? ⟨w.heap.size, 0, none⟩ = some (.int .i64 code) := at_cell (at_ext HP.out) 0
  have p1 : x4.cell? ⟨w.heap.size, 1, none⟩ = some (.int .i64 id2) := at_cell (at_ext HP.out) 1
  have p2 : x4.cell? ⟨w.heap.size, 2, none⟩ = some (.slice A n c) := at_cell (at_ext HP.out) 2
  go_wp2_with fail
  refine (lent12_any code id2 A n c xs Hn.out hn' _ HX.out.ext).mono ?_
  rintro e x5 ⟨Aq, cq, rfl, hcq, hq, hb5⟩
  have Sx5 : Step x5 x4 := ⟨hb5⟩
  have HQ := Lib.hid hq
  have HQT : Hid (Cells x5 Aq (nums .u8 xs)) := by
    have h := hq.take n
    rw [← nums_take, ← Hn.out, List.take_left' rfl] at h
    exact h
  have pn : ∀ o, (x5.alloc o).heap[x5.heap.size]? = some o := at_new x5
  clear hb5 hq p0 p1 p2
  go_upto_region 16 with
    (refine wpList_store_row_o rfl 43 (.tmp 25) (.tmp 127) rfl x5.heap.size #[.int .i64 code, .int .i64 id2, .slice Aq n cq] rfl rfl 43 #[.int .i64 0, .int .i64 0, .slice none 0 0] (pn _) (by kernel_rfl) rfl (by simp [Value.oneCell']) ?_
     intro x6 hr2 ho2 hz2 hb2
     have HRq := Lib.hid hr2
     have Sx6 : Step x6 x5 := ⟨hb2 _ _ (inferInstance : Ext x5 (x5.alloc _)).out (Nat.le_refl _)⟩
     clear hr2 ho2 hz2 hb2 pn)
  obtain ⟨⟨⟨yp, yq⟩, yr⟩, hy⟩ : ∃ r, rrF code id2 xs = r := ⟨_, rfl⟩
  have HY := Lib.hid hy
  obtain ⟨⟨⟨zb, zm⟩, zr⟩, hz⟩ : ∃ r, raF code id2 xs = r := ⟨_, rfl⟩
  have HZ := Lib.hid hz
  clear hy hz
  have p0 : x6.cell? ⟨w.heap.size, 0, none⟩ = some (.int .i64 code) := at_cell (at_ext HP.out) 0
  have p1 : x6.cell? ⟨w.heap.size, 1, none⟩ = some (.int .i64 id2) := at_cell (at_ext HP.out) 1
  have p2 : x6.cell? ⟨w.heap.size, 2, none⟩ = some (.slice A n c) := at_cell (at_ext HP.out) 2
  have q0 : x6.cell? ⟨x5.heap.size, 0, none⟩ = some (.int .i64 code) := at_cell (at_ext HRq.out) 0
  have q1 : x6.cell? ⟨x5.heap.size, 1, none⟩ = some (.int .i64 id2) := at_cell (at_ext HRq.out) 1
  have q2 : x6.cell? ⟨x5.heap.size, 2, none⟩ = some (.slice Aq n cq) := at_cell (at_ext HRq.out) 2
  go_wp2_with fail
  refine (readReq_any code id2 Aq n cq xs Hn.out (by omega) (by omega) HB.out _ (by exact HQT.out.ext)).mono ?_
  rintro e x7 ⟨he, hb⟩
  unfold RRTells at he
  rw [HY.out] at he
  subst he
  have Sx7 : Step x7 x6 := ⟨hb⟩
  clear hb p0 p1 p2 q0 q1 q2
  have p0 : x7.cell? ⟨w.heap.size, 0, none⟩ = some (.int .i64 code) := at_cell (at_ext HP.out) 0
  have p1 : x7.cell? ⟨w.heap.size, 1, none⟩ = some (.int .i64 id2) := at_cell (at_ext HP.out) 1
  have p2 : x7.cell? ⟨w.heap.size, 2, none⟩ = some (.slice A n c) := at_cell (at_ext HP.out) 2
  have q0 : x7.cell? ⟨x5.heap.size, 0, none⟩ = some (.int .i64 code) := at_cell (at_ext HRq.out) 0
  have q1 : x7.cell? ⟨x5.heap.size, 1, none⟩ = some (.int .i64 id2) := at_cell (at_ext HRq.out) 1
  have q2 : x7.cell? ⟨x5.heap.size, 2, none⟩ = some (.slice Aq n cq) := at_cell (at_ext HRq.out) 2
  go_wp2_with fail
  refine (rreadReq_any code id2 A n c xs Hn.out (by omega) hnc HB.out _ (by exact HX.out.ext)).mono ?_
  rintro e x8 ⟨he, hb⟩
  unfold RRTells at he
  rw [HY.out] at he
  subst he
  have Sx8 : Step x8 x7 := ⟨hb⟩
  clear hb p0 p1 p2 q0 q1 q2
  have p0 : x8.cell? ⟨w.heap.size, 0, none⟩ = some (.int .i64 code) := at_cell (at_ext HP.out) 0
  have p1 : x8.cell? ⟨w.heap.size, 1, none⟩ = some (.int .i64 id2) := at_cell (at_ext HP.out) 1
  have p2 : x8.cell? ⟨w.heap.size, 2, none⟩ = some (.slice A n c) := at_cell (at_ext HP.out) 2
  have q0 : x8.cell? ⟨x5.heap.size, 0, none⟩ = some (.int .i64 code) := at_cell (at_ext HRq.out) 0
  have q1 : x8.cell? ⟨x5.heap.size, 1, none⟩ = some (.int .i64 id2) := at_cell (at_ext HRq.out) 1
  have q2 : x8.cell? ⟨x5.heap.size, 2, none⟩ = some (.slice Aq n cq) := at_cell (at_ext HRq.out) 2
  go_wp2_with fail
  refine (readAns_any code id2 Aq n cq xs Hn.out (by omega) (by omega) HB.out _ (by exact HQT.out.ext)).mono ?_
  rintro e x9 ⟨he, hb⟩
  unfold RATells at he
  rw [HZ.out] at he
  subst he
  have Sx9 : Step x9 x8 := ⟨hb⟩
  clear hb p0 p1 p2 q0 q1 q2
  have p0 : x9.cell? ⟨w.heap.size, 0, none⟩ = some (.int .i64 code) := at_cell (at_ext HP.out) 0
  have p1 : x9.cell? ⟨w.heap.size, 1, none⟩ = some (.int .i64 id2) := at_cell (at_ext HP.out) 1
  have p2 : x9.cell? ⟨w.heap.size, 2, none⟩ = some (.slice A n c) := at_cell (at_ext HP.out) 2
  have q0 : x9.cell? ⟨x5.heap.size, 0, none⟩ = some (.int .i64 code) := at_cell (at_ext HRq.out) 0
  have q1 : x9.cell? ⟨x5.heap.size, 1, none⟩ = some (.int .i64 id2) := at_cell (at_ext HRq.out) 1
  have q2 : x9.cell? ⟨x5.heap.size, 2, none⟩ = some (.slice Aq n cq) := at_cell (at_ext HRq.out) 2
  go_wp2_with fail
  refine (rreadAns_any code id2 A n c xs Hn.out (by omega) hnc HB.out _ (by exact HX.out.ext)).mono ?_
  rintro e x10 ⟨he, hb⟩
  unfold RATells at he
  rw [HZ.out] at he
  subst he
  have Sx10 : Step x10 x9 := ⟨hb⟩
  clear hb p0 p1 p2 q0 q1 q2
  have p0 : x10.cell? ⟨w.heap.size, 0, none⟩ = some (.int .i64 code) := at_cell (at_ext HP.out) 0
  have p1 : x10.cell? ⟨w.heap.size, 1, none⟩ = some (.int .i64 id2) := at_cell (at_ext HP.out) 1
  have p2 : x10.cell? ⟨w.heap.size, 2, none⟩ = some (.slice A n c) := at_cell (at_ext HP.out) 2
  have q0 : x10.cell? ⟨x5.heap.size, 0, none⟩ = some (.int .i64 code) := at_cell (at_ext HRq.out) 0
  have q1 : x10.cell? ⟨x5.heap.size, 1, none⟩ = some (.int .i64 id2) := at_cell (at_ext HRq.out) 1
  have q2 : x10.cell? ⟨x5.heap.size, 2, none⟩ = some (.slice Aq n cq) := at_cell (at_ext HRq.out) 2
  go_wp2_with fail
  refine (kept12_any code id2 A Aq n c cq xs Hn.out hn' HB.out hcq _ (by exact HX.out.ext) (by exact HQ.out.ext)).mono ?_
  rintro e x11 ⟨rfl, hb⟩
  have Sx11 : Step x11 x10 := ⟨hb⟩
  clear hb
  go_wp2_with fail
  refine (awake12_any _).mono ?_
  rintro e x12 ⟨rfl, hb⟩
  have Sx12 : Step x12 x11 := ⟨hb⟩
  clear hb
  go_wp2_with fail
  go_ret
  exact ⟨rfl, Ext.out⟩
namespace PapPackets
set_option maxRecDepth 100000 in
theorem walk (U : Nat) (W : World) (vs : List Value) (h : Args U Try.prog W Try.f9.params.toList vs) : Calls Try.prog 9 vs.toArray W fun e W' => e = .returned (.bool true) ∧ Below W.heap.size W W' := by
  rw [Try.params9] at h
  match vs, h with
  | [v0, v1, v2, v3, v4], ⟨h0, h1, h2, h3, h4, _⟩ =>
    obtain ⟨id, rfl, _⟩ := h0.int Try.underlying3
    obtain ⟨nm, rfl, hnm⟩ := h1.str Try.underlying9
    obtain ⟨wd, rfl, hwd⟩ := h2.str Try.underlying9
    obtain ⟨ok, rfl⟩ := h3.bool Try.underlying4
    obtain ⟨code, id2, A, n, c, xs, rfl, hl, hn, hnc, hC, hB, k1, k2⟩ := arg_packet h4
    exact packets12_law id nm wd ok code id2 A n c xs hnm hwd hl hn hnc hB W hC

set_option maxRecDepth 100000 in
theorem lifted (os : Os) (started : os.Started) (H : Type) (enc : TypeId × Value → H) :
    ReturnsInHanded {} Try.checked os 9 .any (Rows.papPacketsSpec.pre6 enc Try.prog Try.f9 Rows.papPacketsRow.domain false) (Rows.papPacketsSpec.post enc Try.prog Try.f9 false true false false) :=
  law_lifted (C := Try.checked) laid_out own_knob started (by kernel_rfl) Try.func9 H enc rfl
    (fun ds hd => by
      have : ds.length = 5 := hd
      match ds, this with
      | [_, _, _, _, _], _ => exact ⟨rfl, rfl, rfl⟩) rfl Try.underlying4 (by
      have : (Try.f9.params.toList.all fun t => Try.prog.readableRec t && decide (t < Try.prog.types.size)) = true := by kernel_rfl
      intro t ht
      have h := List.all_eq_true.1 this t ht
      rw [Bool.and_eq_true, decide_eq_true_eq] at h
      exact h)
    (ChangeSpec.witness6 (enc := enc) (C := Try.checked) false ⟨#[], #[.int .i64 0, .string ⟨#[]⟩, .string ⟨#[]⟩, .bool false, .agg #[.int .i64 0, .int .i64 0, .slice none 0 0]], []⟩ 8 (by kernel_rfl) (by kernel_rfl) (by kernel_rfl) (by kernel_rfl)) walk

theorem over : Rows.papPacketsRow.holds Try.pinned (OpenSpec.ofChange Rows.papPacketsSpec) :=
  OpenClaim.holds_of_wide 9 Try.f9 rfl rfl rfl rfl rfl rfl rfl ⟨rfl, rfl, rfl, rfl, rfl⟩ rfl rfl rfl rfl rfl (by kernel_rfl) Try.func9 (by kernel_rfl)
    (of_decide_eq_true (by kernel_rfl)) (by unfold Func.isWrapper; first | (rw [if_pos (by decide +kernel)]; kernel_rfl) | (rw [if_neg (by decide +kernel)]; exact ⟨rfl, rfl⟩))
    (fun os started H enc _ => lifted os started H enc)

/-- The statement. -/
theorem proved : Rows.PapPacketsSaid := over
#print axioms proved
end PapPackets
end Go.Proofs.Ytodibldfolognaa
