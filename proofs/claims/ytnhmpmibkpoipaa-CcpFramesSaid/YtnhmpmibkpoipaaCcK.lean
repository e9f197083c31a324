/-
  tetherlaw22.CcpFrames: frames are bytes, and bytes are frames, or refused: for every input the call answers true. No condition.
-/
import Derived.Test.YtnhmpmibkpoipaaCcI
import Derived.Test.YtnhmpmibkpoipaaCcJ
import Derived.Test.YtnhmpmibkpoipaaCcN
namespace Go.Proofs.Ytnhmpmibkpoipaa
open Go.RowKit
set_option linter.unusedVariables false
set_option linter.unusedSimpArgs false

theorem frSame_self (p : Int) (xs : List Int) : frSame p p xs xs = true := by simp [frSame]
theorem bytesL_byt {p : Int} {xs : List Int} (h : Byt xs) : Byt (bytesL22 p xs) := by
  rcases hp : protoB p with _ | _
  · rw [(bytesE_proto hp).2]; exact Byt.nil_
  · by_cases hl : 16384 < xs.length
    · rw [(bytesE_size hp hl).2]; exact Byt.nil_
    · rw [(bytesE_ok22 hp hl).2]
      have hb := protoB_bds hp
      refine Byt.append (Byt.append ?_ (Byt.one (by omega) (by omega))) h
      split
      · exact Byt.one (by omega) (by omega)
      · exact Byt.nil_
theorem frD_byt {xs : List Int} (h : Byt xs) : Byt (frD xs) := by
  unfold frD
  split
  · exact h.drop _
  · exact Byt.nil_
theorem frD_len (xs : List Int) : (frD xs).length ≤ xs.length := by
  unfold frD
  split <;> simp
theorem meas_k {k n : Nat} (h : k < n) : n - (k + 1) < n - k := by omega
theorem int_k {k n : Nat} (h : k < n) (hn : n ≤ 140737488351232) : RowKit.wrap64 ((k : Int) + 1) = ((k + 1 : Nat) : Int) := by unfold RowKit.wrap64; omega
theorem meas_w {k n : Nat} (h : k < n) (hn : n ≤ 140737488351232) : n - (RowKit.wrap64 ((k : Int) + 1)).toNat < n - ((k : Nat) : Int).toNat := by
  rw [int_k h hn]
  simp only [Int.toNat_natCast]
  exact meas_k h
theorem intOf_i (k : IntKind) (x : Int) : intOf (.int k x) = x := rfl
theorem meas_i {k n : Nat} (h : k < n) (hn : n ≤ 140737488351232) : n - (intOf (.int .i64 (RowKit.wrap64 ((k : Int) + 1)))).toNat < n - (intOf (.int .i64 ((k : Nat) : Int))).toNat := by
  rw [intOf_i, intOf_i]
  exact meas_w h hn
set_option maxRecDepth 100000 in
set_option maxHeartbeats 8000000 in
theorem frames22_law (p : Int) (A B : Option Addr) (n c m d : Nat) (xs ys : List Int) (h0 : -9223372036854775808 ≤ p) (h1 : p ≤ 9223372036854775807) (hn : xs.length = n) (hn' : n ≤ 140737488351232) (hbx : Byt xs) (hm : ys.length = m) (hm' : m ≤ 140737488351232) (hmd : m ≤ d) (hby : Byt ys)
    (w : World) (hx : Cells w A (nums .u8 xs)) (hy : Cells w B (nums .u8 ys)) :
    Calls Try.prog 3 #[.agg #[.int .i64 p, .slice A n c], .slice B m d] w fun e w' => e = .returned (.bool true) ∧ Below w.heap.size w w' := by
  have Hn := Lib.hid hn
  have Hm := Lib.hid hm
  have HX := Lib.hid hx
  have HY := Lib.hid hy
  have HBX := Lib.hid hbx
  have HBY := Lib.hid hby
  have HG := Lib.hid (at_new w (.cells #[.int .i64 p, .slice A n c] 24))
  have HLB := Lib.hid (bytesL_byt (p := p) hbx)
  have HDB := Lib.hid (frD_byt hby)
  clear hn hm hx hy hbx hby
  go_enter Try.func3, Try.ntmps3
  go_wp2_with fail
  refine (bytes22_any p A n c xs h0 h1 Hn.out hn' _ (by exact HX.out.ext)).mono ?_
  rintro e w1 ⟨A1, n1, c1, rfl, hl1, ho1, hb1⟩
  have S1 : Step w1 _ := ⟨hb1⟩
  have HL1 := Lib.hid hl1
  have hnc1 : n1 ≤ c1 := by
    obtain ⟨A', c', he, hc⟩ := own_slice ho1
    injection he with _ _ he
    omega
  have HC1 := Lib.hid (own_cells ho1)
  clear hl1 ho1 hb1
  go_wp2_with
    (refine wpList_load_row rfl 24 (.tmp 2) rfl w.heap.size rfl 24 #[.int .i64 p, .slice A n c] (0, 0) _ (at_ext HG.out) Try.underlying24 rfl (by kernel_rfl) ?_)
  refine (rbytes22_any p A n c xs h0 h1 Hn.out hn' _ (by exact HX.out.ext)).mono ?_
  rintro e w2 ⟨A2, n2, c2, rfl, hl2, ho2, hb2⟩
  have S2 : Step w2 _ := ⟨hb2⟩
  have HL2 := Lib.hid hl2
  have HC2 := Lib.hid (own_cells ho2)
  clear hl2 ho2 hb2
  go_wp2_with
    (first
     | (at_builtin
        refine wp_append_cells (w0 := w2) w2.heap.size rfl (.tmp 27) (.tmp 28) 22 5 (.int .u8 0) 1 1 rfl Try.underlying22 info_u8 rfl (by decide) (by decide) (.slice none 0 0) 0 [] B m d (nums .u8 ys) rfl rfl (by rw [nums_length, Hm.out, Nat.mul_one]) (nums_one _ _) (own_nil _ _ _ _) (HY.out.ext (w' := w2)) (Below.refl _ _) (Nat.le_refl _) (by omega) ?_
        intro v3 w3 ho3 hb3 hg3 hat3
        rw [List.nil_append, Nat.zero_add] at ho3
        obtain ⟨A3, c3, rfl, hc3⟩ := own_slice ho3
        have X3 : Ext w2 w3 := ⟨hb3⟩
        have HO3 := Lib.hid ho3
        clear hat3)
     | (at_builtin
        refine wp_append_box (w0 := w2) w2.heap.size rfl (.tmp 30) (.tmp 31) 22 5 (.int .u8 0) 1 1 1 rfl Try.underlying22 info_u8 rfl (by decide) (by decide) (.slice A3 m c3) m (nums .u8 ys) [.int .u8 77] rfl rfl rfl (one_int _ _) HO3.out Ext.out Ext.out.size (by omega) ?_
        intro v4 w4 ho4 hb4 hg4 hat4
        obtain ⟨g4, c4, rfl, hg41, hg42, hc4⟩ := own_form ho4 (by omega)
        have X4 : Ext w2 w4 := ⟨hb4⟩
        have Y4 : Ext w w4 := Ext.trans_ inferInstance X4
        have Z4 : Ext w1 w4 := Ext.trans_ inferInstance X4
        have V4 : Ext (w.alloc (.cells #[.int .i64 p, .slice A n c] 24)) w4 := Ext.trans_ inferInstance X4
        have HO4 := Lib.hid ho4
        have hmc : m ≤ c4 := by omega
        have hmcI : (m : Int) ≤ (c4 : Int) := by omega
        have HCC : Hid (Cells w4 (some ⟨g4, 0, none⟩) (nums .u8 ys)) := (own_cells HO4.out).left
        clear hat4))
  refine (frame22_any (some ⟨g4, 0, none⟩) m c4 ys Hm.out hmc hm' HBY.out _ (by exact HCC.out.ext)).mono ?_
  rintro e w5 ⟨A5, n5, c5, rfl, hl5, ho5, hb5⟩
  have S5 : Step w5 _ := ⟨hb5⟩
  have HL5 := Lib.hid hl5
  have HO5 := Lib.hid ho5
  have hn5 : n5 ≤ 140737488351232 := by
    have := frD_len ys
    have := Hm.out
    rw [← hl5]
    omega
  have HN5 := Lib.hid hn5
  have HU := Lib.hid (at_new w5 (.cells #[.int .i64 (frP ys), .slice A5 n5 c5] 24))
  clear hl5 ho5 hb5 hn5
  go_wp2_with fail
  refine (rframe22_any B m d ys Hm.out hmd hm' HBY.out _ (by exact HY.out.ext)).mono ?_
  rintro e w6 ⟨A6, n6, c6, rfl, hl6, hcc6, hb6⟩
  have S6 : Step w6 _ := ⟨hb6⟩
  have HL6 := Lib.hid hl6
  have HC6 := Lib.hid hcc6
  have HV := Lib.hid (at_new w6 (.cells #[.int .i64 (frP ys), .slice A6 n6 c6] 24))
  clear hl6 hcc6 hb6
  have k1 : ∀ o, (convert 22 9 (.slice A1 n1 c1)).run Try.prog (w6.alloc o) = .ok (.string (strOfNums (bytesL22 p xs))) (w6.alloc o) := fun o => conv8 HL1.out HC1.out.ext rfl
  have k2 : ∀ o, (convert 22 9 (.slice A2 n2 c2)).run Try.prog (w6.alloc o) = .ok (.string (strOfNums (bytesL22 p xs))) (w6.alloc o) := fun o => conv8 HL2.out HC2.out.ext rfl
  generalize strOfNums (bytesL22 p xs) = sx at *
  go_wp2_with
    (first
     | (refine wpList_load_row_g (by rfl) 24 (.tmp 10) rfl w5.heap.size rfl 24 #[.int .i64 (frP ys), .slice A5 n5 c5] (0, 0) _ (at_ext HU.out) Try.underlying24 rfl (by kernel_rfl) ?_)
     | (refine wpList_load_row_g (by rfl) 24 (.tmp 12) rfl w6.heap.size rfl 24 #[.int .i64 (frP ys), .slice A6 n6 c6] (0, 0) _ (at_ext HV.out) Try.underlying24 rfl (by kernel_rfl) ?_))
  refine (frameSame_any (frP ys) (frP ys) A5 A6 n5 n6 c5 c6 (frD ys) (frD ys) HL5.out HL6.out HDB.out HDB.out _ (by exact (own_cells HO5.out).ext) (by exact HC6.out.ext)).mono ?_
  rintro e w7 ⟨rfl, hb7⟩
  rw [frSame_self]
  have S7 : Step w7 _ := ⟨hb7⟩
  clear hb7 k1 k2
  have u1 : w7.cell? ⟨w5.heap.size, 1, none⟩ = some (.slice A5 n5 c5) := at_cell (at_ext HU.out) 1
  have U1 := Lib.hid u1
  have HO7 := Lib.hid (own_ext (w' := w7) HO5.out)
  go_wp2
  go_loopw [70] (fun i wr => ∃ (k : Nat) (cs : List Value), i = .int .i64 k ∧ k ≤ n5 ∧ Hid (wr.ownsRow w4.heap.size 5 1 (.slice A5 n5 c5) n5 cs) ∧ Hid (w7.grownBy wr (Value.slice A5 n5 c5).ownBlock)) (fun i _ => n5 - (intOf i).toNat)
  case atStart => exact ⟨0, _, rfl, by omega, HO7.out, grown_refl _ _⟩
  case round =>
    obtain ⟨k, cs, rfl, hk, HR, HGr⟩ := hrel
    clear u1
    by_cases hlt : k < n5
    · obtain ⟨g5, c', he, hg51, hg52, hc5'⟩ := own_form HR.out (by omega)
      injection he with he1 he2 he3
      subst he1 he3
      have hne : g5 < w5.heap.size := own_lt HO5.out g5 rfl
      have u2 : wr.cell? ⟨w5.heap.size, 1, none⟩ = some (.slice (some ⟨g5, 0, none⟩) n5 c5) := HGr.out.cell U1.out (by intro he; injection he with he; simp at he; omega)
      have hcl : k < cs.length := by have := own_len1 HR.out; omega
      obtain ⟨v, hv⟩ : ∃ v, cs[k]? = some v := ⟨_, List.getElem?_eq_getElem hcl⟩
      have hck : wr.cell? ⟨g5, k, none⟩ = some v := by rw [HR.out.cellAt k (by omega)]; exact hv
      have hf := HR.out.frozenAt k
      clear hne hcl hv
      have HLT := Lib.hid hlt
      go_wp2
      go_roundw
      case rel => exact ⟨k + 1, cs.set k (.int .u8 99), by first | rfl | rw [int_k HLT.out HN5.out] | (have := HN5.out; have := HLT.out; go_num), Nat.succ_le_of_lt HLT.out, (HR.out.stored _ _).1, grown_setCell (p := ⟨g5, k, none⟩) HGr.out (.inr rfl) _⟩
      case measure =>
        with_reducible exact meas_i HLT.out HN5.out
    · have X7 : Ext w4 w7 := inferInstance
      have XW : Ext w4 wr := ⟨below_grown X7.out X7.out.size HGr.out (own_base HO5.out)⟩
      have YW : Ext w wr := Ext.trans_ Y4 XW
      have ZW : Ext w1 wr := Ext.trans_ Z4 XW
      have VW : Ext (w.alloc (.cells #[.int .i64 p, .slice A n c] 24)) wr := Ext.trans_ V4 XW
      have k3 : ∀ q, (convert 22 9 (.slice (some ⟨g4, 0, none⟩) m c4)).run Try.prog (wr.drewN q) = .ok (.string (strOfNums ys)) (wr.drewN q) := fun q => conv8 Hm.out HCC.out.ext rfl
      have k4 : ∀ q, (convert 22 9 (.slice B m d)).run Try.prog (wr.drewN q) = .ok (.string (strOfNums ys)) (wr.drewN q) := fun q => conv8 Hm.out HY.out.ext rfl
      have k5 : (convert 22 9 (.slice (some ⟨g4, 0, none⟩) m c4)).run Try.prog wr = .ok (.string (strOfNums ys)) wr := conv8 Hm.out HCC.out.ext rfl
      have k6 : (convert 22 9 (.slice B m d)).run Try.prog wr = .ok (.string (strOfNums ys)) wr := conv8 Hm.out HY.out.ext rfl
      have k7 : (convert 22 9 (.slice (some ⟨g4, 0, none⟩) m c4)).run Try.prog wr.drew = .ok (.string (strOfNums ys)) wr.drew := k3 1
      have k8 : (convert 22 9 (.slice B m d)).run Try.prog wr.drew = .ok (.string (strOfNums ys)) wr.drew := k4 1
      have k9 : wr.cell? ⟨g4, m, none⟩ = some (.int .u8 77) := by
        rw [(own_ext (w' := wr) HO4.out).cellAt m (by omega), List.getElem?_append_right (by simp [nums_length, Hm.out])]
        simp [nums_length, Hm.out]
      have hm0 : (0 : Int) ≤ (m : Int) := by omega
      have hm1 : (m : Int) < (m : Int) + 1 := by omega
      have hm2 : m < m + 1 := by omega
      generalize strOfNums ys = sy at *
      go_wp2
      go_quiet (fail)
      clear k3 k4 k5 k6 k7 k8
      by_cases hE : bytesE22 p xs = 0
      · obtain ⟨f1, f2, f3⟩ := frame_back hE
        have hp : protoB p = true := by
          rcases hp : protoB p with _ | _
          · rw [(bytesE_proto hp).1] at hE; cases hE
          · rfl
        have hxl : xs.length ≤ 16384 := by
          by_cases hl : 16384 < xs.length
          · rw [(bytesE_size hp hl).1] at hE; cases hE
          · omega
        have hn1 : n1 ≤ 16386 := by
          have h1 := HL1.out
          rw [(bytesE_ok22 hp (by omega)).2] at h1
          simp only [List.length_append, List.length_singleton] at h1
          have : (if 255 < p then [p / 256] else []).length ≤ 1 := by split <;> simp
          omega
        have F1 := Lib.hid f1
        have F2 := Lib.hid f2
        have F3 := Lib.hid f3
        have HE := Lib.hid hE
        clear f1 f2 f3 hp hxl hE
        rw [HE.out]
        go_wp2_with fail
        refine (frame22_any A1 n1 c1 (bytesL22 p xs) HL1.out hnc1 (by omega) HLB.out _ (by exact HC1.out.ext)).mono ?_
        rintro e w8 ⟨A8, n8, c8, rfl, hl8, ho8, hb8⟩
        rw [F1.out, F2.out]
        rw [F3.out] at hl8 ho8
        have S8 : Step w8 _ := ⟨hb8⟩
        have HL8 := Lib.hid hl8
        have HO8 := Lib.hid ho8
        have HU8 := Lib.hid (at_new w8 (.cells #[.int .i64 p, .slice A8 n8 c8] 24))
        clear hl8 ho8 hb8
        go_wp2_with
          (first
           | (refine wpList_load_row_g (by rfl) 24 (.tmp 15) rfl w8.heap.size rfl 24 #[.int .i64 p, .slice A8 n8 c8] (0, 0) _ (at_ext HU8.out) Try.underlying24 rfl (by kernel_rfl) ?_)
           | (refine wpList_load_row_g (by rfl) 24 (.tmp 2) rfl w.heap.size rfl 24 #[.int .i64 p, .slice A n c] (0, 0) _ (at_ext HG.out) Try.underlying24 rfl (by kernel_rfl) ?_))
        refine (frameSame_any p p A8 A n8 n c8 c xs xs HL8.out Hn.out HBX.out HBX.out _ (by exact (own_cells HO8.out).ext) (by exact HX.out.ext)).mono ?_
        rintro e w9 ⟨rfl, hb9⟩
        rw [frSame_self]
        have S9 : Step w9 _ := ⟨hb9⟩
        clear hb9
        go_wp2_with fail
        refine (awake22_any _).mono ?_
        rintro e wa ⟨rfl, hba⟩
        have Sa : Step wa _ := ⟨hba⟩
        clear hba
        go_wp2
        go_ret
        exact ⟨rfl, Ext.out⟩
      · have hE' : (bytesE22 p xs != 0) = true := by simpa using hE
        clear hE
        go_wp2_with fail
        refine (awake22_any _).mono ?_
        rintro e wa ⟨rfl, hba⟩
        have Sa : Step wa _ := ⟨hba⟩
        clear hba
        go_wp2
        go_ret
        exact ⟨rfl, Ext.out⟩

set_option maxRecDepth 100000 in
theorem arg_frame {U : Nat} {W : World} {v : Value} (h : Arg U Try.prog W 24 v) : ∃ p A n c xs, v = .agg #[.int .i64 p, .slice A n c] ∧ xs.length = n ∧ n ≤ 140737488351232 ∧ n ≤ c ∧ Cells W A (Proofs.Ytnhmpmibkpoipaa.nums .u8 xs) ∧ Byt xs ∧
    (-9223372036854775808 ≤ p ∧ p ≤ 9223372036854775807) := by
  obtain ⟨cs, rfl, h'⟩ := Arg.struct Try.underlying24 h
  have hl := h'.len Try.underlying24
  have hs : Try.prog.cellsOf 24 = 2 := by kernel_rfl
  rw [hs] at hl
  match cs, hl with
  | [x, y], _ =>
    have h0 : ArgC U Try.prog W 3 (([x, y].drop 0).take (Try.prog.cellsOf 3)) := h'.field Try.underlying24 (i := 0) rfl
    have h2 : ArgC U Try.prog W 22 (([x, y].drop 1).take (Try.prog.cellsOf 22)) := h'.field Try.underlying24 (i := 1) rfl
    rw [sz_int] at h0
    rw [sz_bytes] at h2
    obtain ⟨a, e0, w0⟩ := h0.int Try.underlying3
    obtain ⟨A, n, c, xs, e2, hl, hnc, hn, hC, hB⟩ := h2.byts
    simp at e0 e2
    subst e0 e2
    exact ⟨_, _, _, _, xs, rfl, hl, hn, hnc, hC, hB, wf_i64 w0⟩
namespace CcpFrames
set_option maxRecDepth 100000 in
theorem walk (U : Nat) (W : World) (vs : List Value) (h : Args U Try.prog W Try.f3.params.toList vs) : Calls Try.prog 3 vs.toArray W fun e W' => e = .returned (.bool true) ∧ Below W.heap.size W W' := by
  rw [Try.params3] at h
  match vs, h with
  | [v0, v1], ⟨h0, h1, _⟩ =>
    obtain ⟨p, A, n, c, xs, rfl, hl, hn, hnc, hC, hB, k1⟩ := arg_frame h0
    obtain ⟨B, m, d, ys, rfl, hl2, hmd, hm, hC2, hB2⟩ := h1.bytes Try.underlying22 Try.underlying5 cells_u8 bytes_u8
    exact frames22_law p A B n c m d xs ys k1.1 k1.2 hl hn hB hl2 hm hmd hB2 W hC hC2

set_option maxRecDepth 100000 in
theorem lifted (os : Os) (started : os.Started) (H : Type) (enc : TypeId × Value → H) :
    ReturnsInHanded {} Try.checked os 3 .any (Rows.ccpFramesSpec.pre6 enc Try.prog Try.f3 Rows.ccpFramesRow.domain false) (Rows.ccpFramesSpec.post enc Try.prog Try.f3 false true false false) :=
  law_lifted (C := Try.checked) laid_out own_knob started (by kernel_rfl) Try.func3 H enc rfl
    (fun ds hd => by
      have : ds.length = 2 := hd
      match ds, this with
      | [_, _], _ => exact ⟨rfl, rfl, rfl⟩) rfl Try.underlying4 (by
      have : (Try.f3.params.toList.all fun t => Try.prog.readableRec t && decide (t < Try.prog.types.size)) = true := by kernel_rfl
      intro t ht
      have h := List.all_eq_true.1 this t ht
      rw [Bool.and_eq_true, decide_eq_true_eq] at h
      exact h)
    (ChangeSpec.witness6 (enc := enc) (C := Try.checked) false ⟨#[], #[.agg #[.int .i64 0, .slice none 0 0], .slice none 0 0], []⟩ 8 (by kernel_rfl) (by kernel_rfl) (by kernel_rfl) (by kernel_rfl)) walk

theorem over : Rows.ccpFramesRow.holds Try.pinned (OpenSpec.ofChange Rows.ccpFramesSpec) :=
  OpenClaim.holds_of_wide 3 Try.f3 rfl rfl rfl rfl rfl rfl rfl ⟨rfl, rfl, rfl, rfl, rfl⟩ rfl rfl rfl rfl rfl (by kernel_rfl) Try.func3 (by kernel_rfl)
    (of_decide_eq_true (by kernel_rfl)) (by unfold Func.isWrapper; first | (rw [if_pos (by decide +kernel)]; kernel_rfl) | (rw [if_neg (by decide +kernel)]; exact ⟨rfl, rfl⟩))
    (fun os started H enc _ => lifted os started H enc)

/-- The statement. -/
theorem proved : Rows.CcpFramesSaid := over
#print axioms proved
end CcpFrames
end Go.Proofs.Ytnhmpmibkpoipaa
