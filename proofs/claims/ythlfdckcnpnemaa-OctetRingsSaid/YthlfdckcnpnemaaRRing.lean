/-
  What the reference's Ring tells: Write, Peek, Drop. Conditions: the ring's block is as RrSt says; numbers are of their kinds.
-/
import Derived.Test.YthlfdckcnpnemaaRingW
namespace Go.Proofs.Ythlfdckcnpnemaa
open Go.RowKit
set_option linter.unusedVariables false
set_option linter.unusedSimpArgs false

/-- The reference's ring at block S: q waits; its bytes lie in a block of which P holds. -/
def RrSt (w : World) (S : Nat) (T : TypeId) (room : Nat) (P : Nat → Prop) (q : List Int) : Prop :=
  ∃ A c, w.heap[S]? = some (.cells #[.int .i64 room, .slice A q.length c] T (0, 0)) ∧ q.length ≤ c ∧ c ≤ 9223372036854775807 ∧ Cells w A (nums .u8 q) ∧ (∀ ad, A = some ad → ad.block < w.heap.size ∧ ad.block ≠ S ∧ P ad.block)
section
variable {w w1 : World} {S room : Nat} {P P' : Nat → Prop} {T : TypeId} {q : List Int}
theorem RrSt.lt (h : RrSt w S T room P q) : S < w.heap.size := by
  obtain ⟨_, _, h1, _⟩ := h
  exact blk_lt h1
theorem RrSt.below (h : RrSt w S T room P q) (hb : Below w.heap.size w w1) : RrSt w1 S T room P q := by
  obtain ⟨A, c, h1, h2, h3, h4, h5⟩ := h
  exact ⟨A, c, (hb.block S (blk_lt h1)).trans h1, h2, h3, h4.below hb, fun ad ha => by
    obtain ⟨a2, a3⟩ := h5 ad ha
    exact ⟨Nat.lt_of_lt_of_le a2 hb.size, a3⟩⟩
theorem RrSt.imp (h : RrSt w S T room P q) (hP : ∀ b, b < w.heap.size → P b → P' b) : RrSt w S T room P' q := by
  obtain ⟨A, c, h1, h2, h3, h4, h5⟩ := h
  exact ⟨A, c, h1, h2, h3, h4, fun ad ha => ⟨(h5 ad ha).1, (h5 ad ha).2.1, hP _ (h5 ad ha).1 (h5 ad ha).2.2⟩⟩
theorem RrSt.drawn (h : RrSt w S T room P q) (hd : Drawn w w1) : RrSt w1 S T room P q := h.below hd.below
/-- What is written is another block than its bytes'. -/
theorem RrSt.off {g : Nat} (h : RrSt w S T room P q) (hg : w.grownBy w1 (some g)) (hS : g ≠ S) (hl : ∀ b, P b → b ≠ g) : RrSt w1 S T room P q := by
  obtain ⟨A, c, h1, h2, h3, h4, h5⟩ := h
  refine ⟨A, c, (hg.block S (blk_lt h1) (fun he => hS (by injection he with he; exact he.symm))).trans h1, h2, h3, h4.grown hg fun ad ha he => ?_, fun ad ha => ?_⟩
  · injection he with he
    exact hl _ (h5 ad ha).2.2 he
  · obtain ⟨a2, a3⟩ := h5 ad ha
    exact ⟨Nat.lt_of_lt_of_le a2 hg.size, a3⟩
/-- What is written is the one ring's or its bytes'. -/
theorem RrSt.two {R D : Nat} (h : RrSt w S T room P q) (hk : KeepTwo w w1 R D) (hR : S ≠ R) (hD : S ≠ D) (hP : ∀ b, P b → b ≠ R ∧ b ≠ D) : RrSt w1 S T room P q := by
  obtain ⟨A, c, h1, h2, h3, h4, h5⟩ := h
  refine ⟨A, c, (hk.block S (blk_lt h1) hR hD).trans h1, h2, h3, ?_, fun ad ha => ?_⟩
  · refine h4.keep fun p v ad hv ha hp => ?_
    obtain ⟨a2, _, a4⟩ := h5 ad ha
    exact (World.cell?_of_block (hk.block p.block (by rw [hp]; exact a2) (by rw [hp]; exact (hP _ a4).1) (by rw [hp]; exact (hP _ a4).2))).trans hv
  · obtain ⟨a2, a3⟩ := h5 ad ha
    exact ⟨Nat.lt_of_lt_of_le a2 hk.size, a3⟩
end

set_option maxHeartbeats 400000 in
theorem rrPeek_any (S room : Nat) (P : Nat → Prop) (q : List Int) (n : Int) (hn : -9223372036854775808 ≤ n) (hn' : n ≤ 9223372036854775807) (hql : q.length ≤ 65536) (w : World) (h : RrSt w S 59 room P q) :
    Calls Try.prog 39 #[.pointer (some ⟨S, 0, none⟩), .int .i64 n] w fun e w' => ∃ v, e = .returned v ∧ w'.ownsRow w.heap.size 5 1 v (q.take n.toNat).length (nums .u8 (q.take n.toNat)) ∧ Below w.heap.size w w' := by
  obtain ⟨A, c, h1, h2, h3, h4, h5⟩ := h
  have hc1 := blk_cell h1 1
  simp at hc1
  obtain ⟨k, hk⟩ : ∃ k, k = q.length := ⟨_, rfl⟩
  rw [← hk] at hc1 h2 hql
  have HK := Lib.hid hk
  have HC := Lib.hid h4
  clear h1 h3 h4 h5 hk
  by_cases hn0 : n < 0
  · have HZ : Hid (q.take n.toNat = []) := by unfold Hid; rw [show n.toNat = 0 by omega]; rfl
    by_cases hk0 : k = 0
    all_goals
      go_enter Try.func39, Try.ntmps39
      go_wp2_with
        (at_builtin
         refine wp_append_cells (w0 := w) w.heap.size rfl (.tmp 20) (.tmp 26) 22 5 (.int .u8 0) 1 1 rfl Try.underlying22 info_u8 rfl (by decide) (by decide) (.slice none 0 0) 0 [] _ 0 c (nums .u8 []) rfl rfl rfl (nums_one _ _) (own_nil _ _ _ _) (Cells.nil_ _ _) (Below.refl _ _) (Nat.le_refl _) (by decide) ?_
         intro v1 w1 ho1 hb1 _ _
         have HO1 := Lib.hid ho1
         have HB1 := Lib.hid hb1
         clear ho1 hb1)
      go_ret
      exact ⟨_, rfl, by rw [HZ.out]; exact HO1.out, HB1.out⟩
  · obtain ⟨n, rfl⟩ := Int.eq_ofNat_of_zero_le (Int.not_lt.mp hn0)
    clear hn0
    by_cases hnk : k < n
    · have HZ : Hid (q.take (n : Int).toNat = q) := List.take_of_length_le (by rw [← HK.out]; simp; omega)
      go_enter Try.func39, Try.ntmps39
      go_wp2_with
        (at_builtin
         refine wp_append_cells (w0 := w) w.heap.size rfl (.tmp 20) (.tmp 26) 22 5 (.int .u8 0) 1 1 rfl Try.underlying22 info_u8 rfl (by decide) (by decide) (.slice none 0 0) 0 [] A k c (nums .u8 q) rfl rfl ?_ (nums_one _ _) (own_nil _ _ _ _) HC.out (Below.refl _ _) (Nat.le_refl _) ?_ ?_
         · rw [nums_length, ← HK.out, Nat.mul_one]
         · omega
         intro v1 w1 ho1 hb1 _ _
         rw [List.nil_append, Nat.zero_add] at ho1
         have HO1 := Lib.hid ho1
         have HB1 := Lib.hid hb1
         clear ho1 hb1)
      go_ret
      exact ⟨_, rfl, by rw [HZ.out, ← HK.out]; exact HO1.out, HB1.out⟩
    · have HL : Hid ((q.take n).length = n) := by unfold Hid; rw [List.length_take, ← HK.out]; omega
      go_enter Try.func39, Try.ntmps39
      go_wp2_with
        (at_builtin
         refine wp_append_cells (w0 := w) w.heap.size rfl (.tmp 20) (.tmp 26) 22 5 (.int .u8 0) 1 1 rfl Try.underlying22 info_u8 rfl (by decide) (by decide) (.slice none 0 0) 0 [] A n c (nums .u8 (q.take n)) rfl rfl ?_ (nums_one _ _) (own_nil _ _ _ _) (by rw [nums_take]; exact HC.out.take n) (Below.refl _ _) (Nat.le_refl _) ?_ ?_
         · rw [nums_length, HL.out, Nat.mul_one]
         · omega
         intro v1 w1 ho1 hb1 _ _
         rw [List.nil_append, Nat.zero_add] at ho1
         have HO1 := Lib.hid ho1
         have HB1 := Lib.hid hb1
         clear ho1 hb1)
      go_ret
      exact ⟨_, rfl, by rw [Int.toNat_natCast, HL.out]; exact HO1.out, HB1.out⟩

set_option maxHeartbeats 400000 in
theorem rrDrop_any (S room : Nat) (P : Nat → Prop) (q : List Int) (n : Int) (hn : -9223372036854775808 ≤ n) (hn' : n ≤ 9223372036854775807) (hql : q.length ≤ 65536) (w : World) (h : RrSt w S 59 room P q) :
    Calls Try.prog 40 #[.pointer (some ⟨S, 0, none⟩), .int .i64 n] w fun e w' => e = .returned (.int .i64 (min n.toNat q.length)) ∧ RrSt w' S 59 room P (q.drop n.toNat) ∧ w.grownBy w' (some S) := by
  have HS := Lib.hid h
  clear h
  go_enter Try.func40, Try.ntmps40
  go_wp2_with fail
  refine (rrPeek_any S room P q n hn hn' hql w HS.out).mono ?_
  rintro e w1 ⟨v, rfl, ho, hb⟩
  obtain ⟨m, hm⟩ : ∃ m, (q.take n.toNat).length = m := ⟨_, rfl⟩
  rw [hm] at ho
  obtain ⟨A0, c0, rfl, hc0⟩ := own_slice ho
  have HMx := Lib.hid (own_max ho)
  have HM := Lib.hid hm
  have HB := Lib.hid hb
  obtain ⟨A, c, h1, h2, h3, h4, h5⟩ := HS.out.below hb
  have hc1 := blk_cell h1 1
  simp at hc1
  have hf1 := blk_frozen h1 1
  obtain ⟨k, hk⟩ : ∃ k, k = q.length := ⟨_, rfl⟩
  rw [← hk] at hc1 h2
  have hmk : m ≤ k := by rw [← hm, hk, List.length_take]; omega
  have HK := Lib.hid hk
  have HEnd : Hid (∀ w2, w2 = w1.setCell ⟨S, 1, none⟩ (.slice (if c = m then A else A.map (·.add m)) (k - m) (c - m)) → RrSt w2 S 59 room P (q.drop n.toNat) ∧ w.grownBy w2 (some S)) := by
    rintro w2 rfl
    have hd := h4.drop (size := 1) (n := k) (c := c) (by rw [nums_length, Nat.mul_one]; exact hk.symm) h2 m hmk
    rw [Nat.mul_one] at hd
    have hqd : q.drop n.toNat = q.drop m := by
      rw [← hm, List.length_take]
      by_cases hle : n.toNat ≤ q.length
      · rw [Nat.min_eq_left hle]
      · rw [Nat.min_eq_right (by omega), List.drop_eq_nil_of_le (by omega), List.drop_eq_nil_of_le (Nat.le_refl _)]
    have hA : ∀ ad, (if c = m then A else A.map (·.add m)) = some ad → ad.block < w1.heap.size ∧ ad.block ≠ S ∧ P ad.block := by
      intro ad ha
      split at ha
      · exact h5 ad ha
      · rcases A with _ | a
        · cases ha
        · injection ha with ha
          rw [← ha, block_of_add]
          exact h5 a rfl
    have hG := grown_setCell (p := ⟨S, 1, none⟩) (grown_refl w1 (some S)) (.inr rfl) (.slice (if c = m then A else A.map (·.add m)) (k - m) (c - m))
    refine ⟨⟨(if c = m then A else A.map (·.add m)), c - m, ?_, ?_, by omega, ?_, fun ad ha => ?_⟩, grown_trans_row (grown_of_below hb (some S)) hG (.inl rfl)⟩
    · rw [hqd, List.length_drop, ← hk]
      simpa using blk_set h1 1 (.slice (if c = m then A else A.map (·.add m)) (k - m) (c - m))
    · rw [hqd, List.length_drop, ← hk]; omega
    · rw [hqd, nums_drop]
      exact hd.grown hG fun ad ha he => (hA ad ha).2.1 (by injection he)
    · rw [World.size_setCell]
      exact hA ad ha
  have hRet : Hid ((m : Int) = min (n.toNat : Int) (q.length : Int)) := by
    unfold Hid
    rw [← hm, List.length_take]
    omega
  have hmx := HMx.out
  clear h1 h3 h4 h5 hk hm hb ho
  by_cases hcm : c = m
  · subst hcm
    go_wp2_with fail
    go_ret
    have h := HEnd.out _ rfl
    obtain rfl : k = c := by omega
    simp only [if_true, Nat.sub_self] at h
    exact ⟨by rw [← hRet.out]; rfl, h.1, h.2⟩
  · go_wp2_with fail
    go_ret
    have h := HEnd.out _ rfl
    simp only [if_neg hcm] at h
    exact ⟨by rw [← hRet.out]; rfl, h.1, h.2⟩

set_option maxHeartbeats 400000 in
theorem rrWrite_any (S room bl bc n : Nat) (P P' : Nat → Prop) (B : Option Addr) (q bs : List Int) (hroom : room ≤ 65536) (hqr : q.length ≤ room) (hbl : bs.length = bl) (hblc : bl ≤ bc) (hbl' : bl ≤ 140737488351232) (hn : n = min bl (room - q.length)) (w : World)
    (h : RrSt w S 59 room P q) (hB : Cells w B (nums .u8 bs)) (hP' : ∀ b, w.heap.size ≤ b → P' b) :
    Calls Try.prog 37 #[.pointer (some ⟨S, 0, none⟩), .slice B bl bc] w fun e w' => e = .returned (.int .i64 n) ∧ RrSt w' S 59 room P' (q ++ bs.take n) ∧ w.grownBy w' (some S) := by
  obtain ⟨A, c, h1, h2, h3, h4, h5⟩ := h
  have hc0 := blk_cell h1 0
  have hc1 := blk_cell h1 1
  simp at hc0 hc1
  have hf1 := blk_frozen h1 1
  obtain ⟨k, hk⟩ : ∃ k, k = q.length := ⟨_, rfl⟩
  rw [← hk] at hc1 h2 hqr hn
  have HK := Lib.hid hk
  have HC := Lib.hid h4
  have HBC := Lib.hid hB
  have HBl := Lib.hid hbl
  have HSl : Hid (S < w.heap.size ∧ True) := ⟨blk_lt h1, trivial⟩
  have HEnd : Hid (∀ (m : Nat) (A2 : Option Addr) (c2 : Nat) (w2 : World), m ≤ bl → Below w.heap.size w w2 → w2.ownsRow w.heap.size 5 1 (.slice A2 (k + m) c2) (k + m) (nums .u8 (q ++ bs.take m)) →
      RrSt (w2.setCell ⟨S, 1, none⟩ (.slice A2 (k + m) c2)) S 59 room P' (q ++ bs.take m) ∧ w.grownBy (w2.setCell ⟨S, 1, none⟩ (.slice A2 (k + m) c2)) (some S)) := by
    intro m A2 c2 w2 hm hb ho
    have hS := (hb.block S (blk_lt h1)).trans h1
    have hl : (q ++ bs.take m).length = k + m := by rw [List.length_append, List.length_take, ← hk, hbl]; omega
    have hG := grown_setCell (p := ⟨S, 1, none⟩) (grown_refl w2 (some S)) (.inr rfl) (.slice A2 (k + m) c2)
    have hA : ∀ ad, A2 = some ad → w.heap.size ≤ ad.block ∧ ad.block < w2.heap.size := by
      rintro ad rfl
      exact ⟨own_base ho ad.block rfl, own_lt ho ad.block rfl⟩
    refine ⟨⟨A2, c2, ?_, ?_, own_cap ho, (own_cells ho).grown hG (fun ad ha he => ?_), fun ad ha => ?_⟩, grown_trans_row (grown_of_below hb (some S)) hG (.inl rfl)⟩
    · rw [hl]
      simpa using blk_set hS 1 (.slice A2 (k + m) c2)
    · rw [hl]
      obtain ⟨_, _, he, hle⟩ := own_slice ho
      injection he with _ _ he
      omega
    · have := hA ad ha
      have hlt := blk_lt h1
      injection he with he
      omega
    · have := hA ad ha
      have hlt := blk_lt h1
      rw [World.size_setCell]
      exact ⟨this.2, by omega, hP' _ this.1⟩
  clear h1 h3 h4 h5 hk hB hbl
  by_cases hle : room - k < bl
  · obtain ⟨m, hm⟩ : ∃ m, m = room - k := ⟨_, rfl⟩
    have hnm : n = m := by omega
    have hmi : (room : Int) - (k : Int) = (m : Int) := by omega
    subst hnm
    clear hm hn
    go_enter Try.func37, Try.ntmps37
    go_wp2
    go_quiet (fail)
    (go_wp2; go_quiet (fail))
    go_wp2_with (first
      | (at_builtin
         refine wp_append_cells (w0 := w) w.heap.size rfl (.tmp 31) (.tmp 35) 22 5 (.int .u8 0) 1 1 rfl Try.underlying22 info_u8 rfl (by decide) (by decide) (.slice none 0 0) 0 [] A k c (nums .u8 q) rfl rfl ?_ (nums_one _ _) (own_nil _ _ _ _) (by exact HC.out.drewN _) (below_drewN (Below.refl _ _) _) (Nat.le_refl _) ?_ ?_
         · rw [nums_length, ← HK.out, Nat.mul_one]
         · omega
         intro v1 w1 ho1 hb1 _ _
         rw [List.nil_append, Nat.zero_add] at ho1
         have HO1 := Lib.hid ho1
         have HB1 := Lib.hid hb1
         have HBC1 := Lib.hid (HBC.out.below hb1)
         have hsz1 := hb1.size
         clear ho1 hb1)
      | (at_builtin
         refine wp_append_cells (w0 := w) w.heap.size rfl (.tmp 37) (.tmp 40) 22 5 (.int .u8 0) 1 1 rfl Try.underlying22 info_u8 rfl (by decide) (by decide) v1 k (nums .u8 q) B n bc (nums .u8 (bs.take n)) rfl rfl ?_ (nums_one _ _) HO1.out (by rw [nums_take]; exact HBC1.out.take n) HB1.out hsz1 ?_ ?_
         · rw [nums_length, List.length_take, HBl.out, Nat.mul_one]; omega
         · omega
         intro v2 w2 ho2 hb2 _ _
         obtain ⟨A2, c2, rfl, hc2'⟩ := own_slice ho2
         have HO2 := Lib.hid ho2
         have HB2 := Lib.hid hb2
         have hcS := (hb2.cell (p := ⟨S, 1, none⟩) HSl.out.1).trans hc1
         have hfS := (hb2.frozen (p := ⟨S, 1, none⟩) HSl.out.1).trans hf1
         clear ho2 hb2 HO1 HB1 HBC1 hsz1))
    go_ret
    have hEnd := HEnd.out n A2 c2 w2 (by omega) HB2.out (by rw [nums_append]; exact HO2.out)
    exact ⟨rfl, hEnd.1, hEnd.2⟩
  · obtain rfl : n = bl := by omega
    clear hn
    go_enter Try.func37, Try.ntmps37
    go_wp2
    go_quiet (fail)
    skip
    go_wp2_with (first
      | (at_builtin
         refine wp_append_cells (w0 := w) w.heap.size rfl (.tmp 31) (.tmp 35) 22 5 (.int .u8 0) 1 1 rfl Try.underlying22 info_u8 rfl (by decide) (by decide) (.slice none 0 0) 0 [] A k c (nums .u8 q) rfl rfl ?_ (nums_one _ _) (own_nil _ _ _ _) (by exact HC.out.drewN _) (below_drewN (Below.refl _ _) _) (Nat.le_refl _) ?_ ?_
         · rw [nums_length, ← HK.out, Nat.mul_one]
         · omega
         intro v1 w1 ho1 hb1 _ _
         rw [List.nil_append, Nat.zero_add] at ho1
         have HO1 := Lib.hid ho1
         have HB1 := Lib.hid hb1
         have HBC1 := Lib.hid (HBC.out.below hb1)
         have hsz1 := hb1.size
         clear ho1 hb1)
      | (at_builtin
         refine wp_append_cells (w0 := w) w.heap.size rfl (.tmp 37) (.tmp 40) 22 5 (.int .u8 0) 1 1 rfl Try.underlying22 info_u8 rfl (by decide) (by decide) v1 k (nums .u8 q) B n bc (nums .u8 (bs.take n)) rfl rfl ?_ (nums_one _ _) HO1.out (by rw [nums_take]; exact HBC1.out.take n) HB1.out hsz1 ?_ ?_
         · rw [nums_length, List.length_take, HBl.out, Nat.mul_one]; omega
         · omega
         intro v2 w2 ho2 hb2 _ _
         obtain ⟨A2, c2, rfl, hc2'⟩ := own_slice ho2
         have HO2 := Lib.hid ho2
         have HB2 := Lib.hid hb2
         have hcS := (hb2.cell (p := ⟨S, 1, none⟩) HSl.out.1).trans hc1
         have hfS := (hb2.frozen (p := ⟨S, 1, none⟩) HSl.out.1).trans hf1
         clear ho2 hb2 HO1 HB1 HBC1 hsz1))
    go_ret
    have hEnd := HEnd.out n A2 c2 w2 (by omega) HB2.out (by rw [nums_append]; exact HO2.out)
    exact ⟨rfl, hEnd.1, hEnd.2⟩
end Go.Proofs.Ythlfdckcnpnemaa
