/-
  The reference's Bytes (ccp); what is written is read again, as a plain law. Conditions: the frame's data are no longer than the model's memory.
-/
import Derived.Test.YtnhmpmibkpoipaaCcH
namespace Go.Proofs.Ytnhmpmibkpoipaa
open Go.RowKit
set_option linter.unusedVariables false
set_option linter.unusedSimpArgs false

set_option maxRecDepth 100000 in
set_option maxHeartbeats 4000000 in
theorem rbytes22_any (p : Int) (A : Option Addr) (n c : Nat) (xs : List Int) (h0 : -9223372036854775808 ≤ p) (h1 : p ≤ 9223372036854775807) (hn : xs.length = n) (hn' : n ≤ 140737488351232) (w : World) (hx : Cells w A (nums .u8 xs)) :
    Calls Try.prog 15 #[.agg #[.int .i64 p, .slice A n c]] w (BytesTells22 p xs w) := by
  have Hn := Lib.hid hn
  have HX := Lib.hid hx
  clear hn hx
  rcases hp : protoB p with _ | _
  · have HP := Lib.hid hp
    obtain ⟨e1, e2⟩ := bytesE_proto (xs := xs) hp
    have HE := Lib.hid e1
    have HL := Lib.hid e2
    clear hp e1 e2
    go_enter Try.func15, Try.ntmps15
    go_wp2_with fail
    refine (rproto22_any p h0 h1 _).mono ?_
    rintro e w0 ⟨rfl, rfl⟩
    rw [HP.out]
    go_wp2
    go_ret2
    exact ⟨none, 0, 0, by rw [HE.out]; rfl, by rw [HL.out]; rfl, by rw [HL.out]; exact own_nil _ _ _ _, Ext.out⟩
  · have HP := Lib.hid hp
    obtain ⟨hp1, hp2⟩ := protoB_bds hp
    by_cases hs : 16384 < n
    · obtain ⟨e1, e2⟩ := bytesE_size hp (xs := xs) (by rw [Hn.out]; exact hs)
      have HE := Lib.hid e1
      have HL := Lib.hid e2
      have hs' : (16384 : Int) < (n : Int) := by omega
      clear hp e1 e2
      go_enter Try.func15, Try.ntmps15
      go_wp2_with fail
      refine (rproto22_any p h0 h1 _).mono ?_
      rintro e w0 ⟨rfl, rfl⟩
      rw [HP.out]
      go_wp2
      go_ret2
      exact ⟨none, 0, 0, by rw [HE.out]; rfl, by rw [HL.out]; rfl, by rw [HL.out]; exact own_nil _ _ _ _, Ext.out⟩
    · obtain ⟨e1, e2⟩ := bytesE_ok22 hp (xs := xs) (by rw [Hn.out]; exact hs)
      have HE := Lib.hid e1
      have hs' : ¬ (16384 : Int) < (n : Int) := by omega
      by_cases hq : 256 ≤ p
      · rw [if_pos (by omega)] at e2
        have HL := Lib.hid e2
        clear hp e1 e2
        go_enter Try.func15, Try.ntmps15
        go_wp2_with fail
        refine (rproto22_any p h0 h1 _).mono ?_
        rintro e w0 ⟨rfl, rfl⟩
        rw [HP.out]
        go_wp2_with
          (first
           | (at_builtin
              refine wp_append_box2 (w0 := (w.alloc (.cells #[.int .i64 p, .slice A n c] 24))) (w.heap.size + 1) (World.size_alloc w (.cells #[.int .i64 p, .slice A n c] 24)) (w.alloc (.cells #[.int .i64 p, .slice A n c] 24)).heap.size rfl (.tmp 16) (.tmp 21) 22 5 (.int .u8 0) 1 1 1 rfl Try.underlying22 info_u8 rfl (by decide) (by decide) (.slice none 0 0) 0 [] [.int .u8 (p / 256)] rfl rfl rfl (one_int _ _) (own_nil _ _ _ _) Ext.out Ext.out.size (by omega) ?_
              intro v3 w3 ho3 hb3 hg3 hat3
              obtain ⟨A3, c3, rfl, hc3⟩ := own_slice ho3
              have X3 : Ext (w.alloc (.cells #[.int .i64 p, .slice A n c] 24)) w3 := ⟨hb3⟩
              have Y3 : Ext w w3 := Ext.trans_ inferInstance X3
              have hbx : w3.cell? ⟨w.heap.size, 0, none⟩ = some (.int .i64 p) := cell_ext (at_cell (at_new w (.cells #[.int .i64 p, .slice A n c] 24)) 0)
              have hbx1 : w3.cell? ⟨w.heap.size, 1, none⟩ = some (.slice A n c) := cell_ext (at_cell (at_new w (.cells #[.int .i64 p, .slice A n c] 24)) 1)
              have HO3 : Hid (w3.ownsRow (w.alloc (.cells #[.int .i64 p, .slice A n c] 24)).heap.size 5 1 (.slice A3 1 c3) 1 (nums .u8 [p / 256])) := ho3
              clear hat3)
           | (at_builtin
              refine wp_append_box (w0 := (w.alloc (.cells #[.int .i64 p, .slice A n c] 24))) (w.alloc (.cells #[.int .i64 p, .slice A n c] 24)).heap.size rfl (.tmp 23) (.tmp 28) 22 5 (.int .u8 0) 1 1 1 rfl Try.underlying22 info_u8 rfl (by decide) (by decide) (.slice A3 1 c3) 1 (nums .u8 [p / 256]) [.int .u8 (p % 256)] rfl rfl rfl (one_int _ _) HO3.out Ext.out Ext.out.size (by omega) ?_
              intro v4 w4 ho4 hb4 hg4 hat4
              obtain ⟨A4, c4, rfl, hc4⟩ := own_slice ho4
              have X4 : Ext (w.alloc (.cells #[.int .i64 p, .slice A n c] 24)) w4 := ⟨hb4⟩
              have Y4 : Ext w w4 := Ext.trans_ inferInstance X4
              have hby1 : w4.cell? ⟨w.heap.size, 1, none⟩ = some (.slice A n c) := cell_ext (at_cell (at_new w (.cells #[.int .i64 p, .slice A n c] 24)) 1)
              have HO4 : Hid (w4.ownsRow (w.alloc (.cells #[.int .i64 p, .slice A n c] 24)).heap.size 5 1 (.slice A4 2 c4) 2 (nums .u8 ([p / 256] ++ [p % 256]))) := ho4
              clear hat4)
           | (at_builtin
              refine wp_append_cells (w0 := (w.alloc (.cells #[.int .i64 p, .slice A n c] 24))) (w.alloc (.cells #[.int .i64 p, .slice A n c] 24)).heap.size rfl (.tmp 30) (.tmp 32) 22 5 (.int .u8 0) 1 1 rfl Try.underlying22 info_u8 rfl (by decide) (by decide) (.slice A4 2 c4) 2 (nums .u8 ([p / 256] ++ [p % 256])) A n c (nums .u8 xs) rfl rfl (by rw [nums_length, Hn.out, Nat.mul_one]) (nums_one _ _) HO4.out (HX.out.ext (w' := w4)) Ext.out Ext.out.size (by omega) ?_
              intro v5 w5 ho5 hb5 hg5 hat5
              obtain ⟨A5, c5, rfl, hc5⟩ := own_slice ho5
              have X5 : Ext (w.alloc (.cells #[.int .i64 p, .slice A n c] 24)) w5 := ⟨hb5⟩
              have Y5 : Ext w w5 := Ext.trans_ inferInstance X5
              have HO5 := Lib.hid (own_weaken (base' := w.heap.size) ho5 (by simp))
              clear ho5 hb5 hg5 hat5 hc5))
        go_ret2
        exact ⟨A5, 2 + n, c5, by rw [HE.out]; rfl, by rw [HL.out]; simp [Hn.out]; omega, by rw [HL.out, nums_append]; exact HO5.out, Ext.out⟩
      · rw [if_neg (by omega)] at e2
        have HL := Lib.hid e2
        clear hp e1 e2
        go_enter Try.func15, Try.ntmps15
        go_wp2_with fail
        refine (rproto22_any p h0 h1 _).mono ?_
        rintro e w0 ⟨rfl, rfl⟩
        rw [HP.out]
        go_wp2_with
          (first
           | (at_builtin
              refine wp_append_box2 (w0 := (w.alloc (.cells #[.int .i64 p, .slice A n c] 24))) (w.heap.size + 1) (World.size_alloc w (.cells #[.int .i64 p, .slice A n c] 24)) (w.alloc (.cells #[.int .i64 p, .slice A n c] 24)).heap.size rfl (.tmp 23) (.tmp 28) 22 5 (.int .u8 0) 1 1 1 rfl Try.underlying22 info_u8 rfl (by decide) (by decide) (.slice none 0 0) 0 [] [.int .u8 (p % 256)] rfl rfl rfl (one_int _ _) (own_nil _ _ _ _) Ext.out Ext.out.size (by omega) ?_
              intro v4 w4 ho4 hb4 hg4 hat4
              obtain ⟨A4, c4, rfl, hc4⟩ := own_slice ho4
              have X4 : Ext (w.alloc (.cells #[.int .i64 p, .slice A n c] 24)) w4 := ⟨hb4⟩
              have Y4 : Ext w w4 := Ext.trans_ inferInstance X4
              have hby1 : w4.cell? ⟨w.heap.size, 1, none⟩ = some (.slice A n c) := cell_ext (at_cell (at_new w (.cells #[.int .i64 p, .slice A n c] 24)) 1)
              have HO4 : Hid (w4.ownsRow (w.alloc (.cells #[.int .i64 p, .slice A n c] 24)).heap.size 5 1 (.slice A4 1 c4) 1 (nums .u8 ([] ++ [p % 256]))) := ho4
              clear hat4)
           | (at_builtin
              refine wp_append_cells (w0 := (w.alloc (.cells #[.int .i64 p, .slice A n c] 24))) (w.alloc (.cells #[.int .i64 p, .slice A n c] 24)).heap.size rfl (.tmp 30) (.tmp 32) 22 5 (.int .u8 0) 1 1 rfl Try.underlying22 info_u8 rfl (by decide) (by decide) (.slice A4 1 c4) 1 (nums .u8 ([] ++ [p % 256])) A n c (nums .u8 xs) rfl rfl (by rw [nums_length, Hn.out, Nat.mul_one]) (nums_one _ _) HO4.out (HX.out.ext (w' := w4)) Ext.out Ext.out.size (by omega) ?_
              intro v5 w5 ho5 hb5 hg5 hat5
              obtain ⟨A5, c5, rfl, hc5⟩ := own_slice ho5
              have X5 : Ext (w.alloc (.cells #[.int .i64 p, .slice A n c] 24)) w5 := ⟨hb5⟩
              have Y5 : Ext w w5 := Ext.trans_ inferInstance X5
              have HO5 := Lib.hid (own_weaken (base' := w.heap.size) ho5 (by simp))
              clear ho5 hb5 hg5 hat5 hc5))
        go_ret2
        exact ⟨A5, 1 + n, c5, by rw [HE.out]; rfl, by rw [HL.out]; simp [Hn.out]; omega, by rw [HL.out, nums_append]; exact HO5.out, Ext.out⟩

/-- What is written is read again. -/
theorem frame_back {p : Int} {xs : List Int} (h : bytesE22 p xs = 0) : frE (bytesL22 p xs) = 0 ∧ frP (bytesL22 p xs) = p ∧ frD (bytesL22 p xs) = xs := by
  have hp : protoB p = true := by
    rcases hp : protoB p with _ | _
    · rw [(bytesE_proto hp).1] at h; cases h
    · rfl
  have hl : ¬ 16384 < xs.length := by
    intro hl
    rw [(bytesE_size hp hl).1] at h
    cases h
  have hL := (bytesE_ok22 hp hl).2
  have hb : 1 ≤ p ∧ p ≤ 65535 ∧ p % 2 = 1 ∧ p / 256 % 2 = 0 := by
    unfold protoB at hp
    exact of_decide_eq_true hp
  have key : ∀ ys, bytesL22 p xs = ys → frN ys = p → frK ys ≤ ys.length → ¬ (ys.length = 0 ∨ (ys.length = 1 ∧ ys.getD 0 0 % 2 = 0)) → ys.drop (frK ys) = xs → frE ys = 0 ∧ frP ys = p ∧ frD ys = xs := by
    intro ys hy hN hK hq hd
    have hlen : ys.length - frK ys = xs.length := by rw [← hd, List.length_drop]
    have hE : frE ys = 0 := by
      unfold frE
      rw [if_neg hq, hN, if_neg (by simp [hp]), hlen, if_neg hl]
    obtain ⟨h1, h2⟩ := fr_yes hE
    exact ⟨hE, by rw [h1, hN], by rw [h2, hd]⟩
  by_cases hq : 255 < p
  · rw [if_pos hq] at hL
    rw [hL]
    have hK : frK ([p / 256] ++ [p % 256] ++ xs) = 2 := by unfold frK; simp; omega
    refine key _ hL ?_ ?_ ?_ ?_
    · unfold frN
      simp only [List.cons_append, List.nil_append, List.getD_cons_zero, List.getD_cons_succ]
      rw [if_pos hb.2.2.2]
      omega
    · rw [hK]; simp
    · simp
    · rw [hK]; rfl
  · rw [if_neg hq] at hL
    rw [hL]
    have h3 : p % 256 % 2 = 1 := by omega
    have hK : frK ([] ++ [p % 256] ++ xs) = 1 := by unfold frK; simp; omega
    refine key _ hL ?_ ?_ ?_ ?_
    · unfold frN
      simp only [List.cons_append, List.nil_append, List.getD_cons_zero, List.getD_cons_succ]
      rw [if_neg (by omega)]
      omega
    · rw [hK]; simp
    · simp
      intro _
      omega
    · rw [hK]; rfl
end Go.Proofs.Ytnhmpmibkpoipaa
