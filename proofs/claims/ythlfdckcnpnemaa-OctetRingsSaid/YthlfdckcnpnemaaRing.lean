/-
  What octet's Ring tells: Len, Room, Drop, Peek, Read, Write; and the reference's. Conditions: the ring's block is as RgSt says; numbers are of their kinds.
-/
import Derived.Test.YthlfdckcnpnemaaReader
import Derived.Test.YthlfdckcnpnemaaRingM
import Derived.Deep.RegionLaw
import Derived.StillTailTactics
namespace Go.Proofs.Ythlfdckcnpnemaa
open Go.RowKit
set_option linter.unusedVariables false
set_option linter.unusedSimpArgs false

/-- A ring at block R: its bytes lie in block D: q waits. -/
def RgSt (w : World) (R D room : Nat) (T E : TypeId) (q : List Int) : Prop :=
  ∃ (buf : List Int) (i : Nat), w.heap[R]? = some (.cells #[.slice (some ⟨D, 0, none⟩) room room, .int .i64 i, .int .i64 q.length] T (0, 0)) ∧ w.heap[D]? = some (.cells (nums .u8 buf).toArray E (0, 0)) ∧ buf.length = room ∧ room ≤ 65536 ∧ Holds buf i q ∧ Byt buf ∧ D ≠ R

section
variable {w w1 : World} {R D room : Nat} {T E : TypeId} {q : List Int}
theorem RgSt.grown {row : Option Nat} (h : RgSt w R D room T E q) (hg : w.grownBy w1 row) (hr : row ≠ some R) (hd : row ≠ some D) : RgSt w1 R D room T E q := by
  obtain ⟨buf, i, h1, h2, h3⟩ := h
  exact ⟨buf, i, (hg.block R (blk_lt h1) (Ne.symm hr)).trans h1, (hg.block D (blk_lt h2) (Ne.symm hd)).trans h2, h3⟩
theorem RgSt.below (h : RgSt w R D room T E q) (hb : Below w.heap.size w w1) : RgSt w1 R D room T E q := by
  obtain ⟨buf, i, h1, h2, h3⟩ := h
  exact ⟨buf, i, (hb.block R (blk_lt h1)).trans h1, (hb.block D (blk_lt h2)).trans h2, h3⟩
theorem RgSt.drawn (h : RgSt w R D room T E q) (hb : Drawn w w1) : RgSt w1 R D room T E q := h.below hb.below
end

set_option maxHeartbeats 400000 in
theorem ringLen_any (R D room : Nat) (q : List Int) (w : World) (h : RgSt w R D room 83 5 q) :
    Calls Try.prog 43 #[.pointer (some ⟨R, 0, none⟩)] w fun e w' => e = .returned (.int .i64 q.length) ∧ w' = w := by
  obtain ⟨buf, i, h1, _⟩ := h
  have hc2 := blk_cell h1 2
  simp at hc2
  clear h1
  go_enter Try.func43, Try.ntmps43
  go_wp2
  go_ret
  exact ⟨rfl, rfl⟩
set_option maxHeartbeats 400000 in
theorem ringRoom_any (R D room : Nat) (q : List Int) (w : World) (h : RgSt w R D room 83 5 q) :
    Calls Try.prog 44 #[.pointer (some ⟨R, 0, none⟩)] w fun e w' => e = .returned (.int .i64 ((room : Int) - q.length)) ∧ Drawn w w' := by
  obtain ⟨buf, i, h1, h2, h3, h4, h5, h6, h7⟩ := h
  have hc0 := blk_cell h1 0
  have hc2 := blk_cell h1 2
  simp at hc0 hc2
  have hq := h5.1
  rw [h3] at hq
  generalize q.length = k at *
  clear h1 h2 h3 h5 h6
  go_enter Try.func44, Try.ntmps44
  go_wp2
  go_quiet (fail)
  go_wp2
  go_ret
  exact ⟨rfl, ⟨_, rfl⟩⟩
set_option maxHeartbeats 400000 in
theorem ringDrop_any (R D room : Nat) (q : List Int) (n : Int) (hn : -9223372036854775808 ≤ n) (hn' : n ≤ 9223372036854775807) (w : World) (h : RgSt w R D room 83 5 q) :
    Calls Try.prog 42 #[.pointer (some ⟨R, 0, none⟩), .int .i64 n] w fun e w' => e = .returned (.int .i64 (min n.toNat q.length)) ∧ RgSt w' R D room 83 5 (q.drop n.toNat) ∧ w.grownBy w' (some R) := by
  have HS := Lib.hid h
  obtain ⟨buf, i, h1, h2, h3, h4, h5, h6, h7⟩ := h
  have hc0 := blk_cell h1 0
  have hc1 := blk_cell h1 1
  have hc2 := blk_cell h1 2
  simp at hc0 hc1 hc2
  have hf1 := blk_frozen h1 1
  have hf2 := blk_frozen h1 2
  have hq := h5.1
  have hi := h5.2.1
  rw [h3] at hq hi
  have H1 := Lib.hid h1
  have H2 := Lib.hid h2
  have H3 := Lib.hid h3
  have H5 := Lib.hid h5
  have H6 := Lib.hid h6
  clear h1 h2 h3 h5 h6
  by_cases hn0 : n < 0
  · go_enter Try.func42, Try.ntmps42
    go_wp2
    go_ret
    refine ⟨?_, by rw [show n.toNat = 0 by omega]; exact HS.out, grown_refl _ _⟩
    rw [show n.toNat = 0 by omega]
    exact congrArg (fun x : Int => Ending.returned (.int .i64 x)) (by omega)
  · obtain ⟨n, rfl⟩ := Int.eq_ofNat_of_zero_le (Int.not_lt.mp hn0)
    obtain ⟨k, hk⟩ : ∃ k, k = q.length := ⟨_, rfl⟩
    rw [← hk] at hc2 hq
    have HK := Lib.hid hk
    clear hk
    have HEnd : Hid (∀ (d : Nat) (w' : World) (y z : Int), y = (((i + d) % room : Nat) : Int) → z = (k : Int) - d → d ≤ k → d = min n k → w.grownBy w' (some R) → w'.heap[R]? = some (.cells #[.slice (some ⟨D, 0, none⟩) room room, .int .i64 y, .int .i64 z] 83 (0, 0)) → RgSt w' R D room 83 5 (q.drop n)) := by
      rintro d w' _ _ rfl rfl hd hdm hg hh
      obtain ⟨hH1, hH2, hH3⟩ := H5.out
      have hqd : q.drop n = q.drop d := by
        by_cases h : n ≤ k
        · rw [show d = n by omega]
        · rw [List.drop_eq_nil_of_le (by rw [← HK.out]; omega), List.drop_eq_nil_of_le (by rw [← HK.out]; omega)]
      have hlen : (q.drop d).length = k - d := by rw [List.length_drop, ← HK.out]
      have hB := H3.out
      refine ⟨buf, (i + d) % room, ?_, (hg.block D (blk_lt H2.out) (fun h => h7 (by injection h))).trans H2.out, hB, h4, ⟨?_, ?_, ?_⟩, H6.out, h7⟩
      · rw [hqd, hlen, hh]
        congr 4
        simp
        omega
      · rw [hqd, hlen, hB]; omega
      · rw [hB]; exact Nat.mod_lt _ (by omega)
      · intro j hj
        rw [hqd, hlen] at hj
        rw [hqd, List.getD_eq_getElem?_getD, List.getElem?_drop, ← List.getD_eq_getElem?_getD, hH3 (d + j) (by rw [← HK.out]; omega), hB, Nat.mod_add_mod, Nat.add_assoc]
    have hroom0 : ((room : Int) == 0) = false := by simp only [beq_eq_false_iff_ne, ne_eq]; omega
    have hroom1 : ¬ (room : Int) = 0 := by omega
    by_cases hnk : n < k
    · go_enter Try.func42, Try.ntmps42
      go_wp2
      go_region
      go_wp2
      go_ret
      have hG : w.grownBy (((w.setCell ⟨R, 1, none⟩ (.int .i64 (((i : Int) + n) % room))).setCell ⟨R, 2, none⟩ (.int .i64 ((k : Int) - n))).drewN 1) (some R) := grown_drewN (grown_setCell (p := ⟨R, 2, none⟩) (grown_setCell (p := ⟨R, 1, none⟩) (grown_refl w (some R)) (.inr rfl) _) (.inr rfl) _) 1
      have hH := blk_set (w := w.setCell ⟨R, 1, none⟩ (.int .i64 (((i : Int) + n) % room))) (blk_set H1.out 1 (.int .i64 (((i : Int) + n) % room))) 2 (.int .i64 ((k : Int) - n))
      refine ⟨congrArg (fun x : Int => Ending.returned (.int .i64 x)) (by rw [← HK.out]; omega), ?_, hG⟩
      exact HEnd.out n _ (((i : Int) + n) % room) ((k : Int) - n) (by simp) (by omega) (by omega) (by omega) hG (by simp at hH; exact hH)
    · by_cases hkn : k < n
      · go_enter Try.func42, Try.ntmps42
        go_wp2
        go_region
        go_wp2
        go_ret
        have hG : w.grownBy (((w.setCell ⟨R, 1, none⟩ (.int .i64 (((i : Int) + k) % room))).setCell ⟨R, 2, none⟩ (.int .i64 0)).drewN 1) (some R) := grown_drewN (grown_setCell (p := ⟨R, 2, none⟩) (grown_setCell (p := ⟨R, 1, none⟩) (grown_refl w (some R)) (.inr rfl) _) (.inr rfl) _) 1
        have hH := blk_set (w := w.setCell ⟨R, 1, none⟩ (.int .i64 (((i : Int) + k) % room))) (blk_set H1.out 1 (.int .i64 (((i : Int) + k) % room))) 2 (.int .i64 0)
        refine ⟨congrArg (fun x : Int => Ending.returned (.int .i64 x)) (by rw [← HK.out]; omega), ?_, hG⟩
        exact HEnd.out k _ (((i : Int) + k) % room) 0 (by simp) (by omega) (by omega) (by omega) hG (by simp at hH; exact hH)
      · obtain rfl : n = k := by omega
        go_enter Try.func42, Try.ntmps42
        go_wp2
        go_region
        go_wp2
        go_ret
        have hG : w.grownBy (((w.setCell ⟨R, 1, none⟩ (.int .i64 (((i : Int) + n) % room))).setCell ⟨R, 2, none⟩ (.int .i64 0)).drewN 1) (some R) := grown_drewN (grown_setCell (p := ⟨R, 2, none⟩) (grown_setCell (p := ⟨R, 1, none⟩) (grown_refl w (some R)) (.inr rfl) _) (.inr rfl) _) 1
        have hH := blk_set (w := w.setCell ⟨R, 1, none⟩ (.int .i64 (((i : Int) + n) % room))) (blk_set H1.out 1 (.int .i64 (((i : Int) + n) % room))) 2 (.int .i64 0)
        refine ⟨congrArg (fun x : Int => Ending.returned (.int .i64 x)) (by rw [← HK.out]; omega), ?_, hG⟩
        exact HEnd.out n _ (((i : Int) + n) % room) 0 (by simp) (by omega) (by omega) (by omega) hG (by simp at hH; exact hH)

theorem undrew {w w2 : World} {row : Option Nat} (h : w.drew.grownBy w2 row) : w.grownBy w2 row := ⟨h.os, h.tape, h.output, h.size, h.block⟩
/-- 'copy(d, s)' as one step of a region that draws its order. -/
theorem step_copy {P : Program} {ops : Array Oper} {o : Oper} {a : Act} {W : World} {K : Act → World → Prop} {Q : Exit → Act → World → Prop} {F : Prop} (hgd : o.guard = none) (d s : Operand) (dT sT : TypeId)
    (ho : o.op = .call { callee := .builtin .copy, args := #[d, s], argTypes := #[dT, sT] }) (elem : TypeId) (z : Value) (bytes : Nat) (hu : P.underlying dT = some (.slice elem)) (hinfo : (P.info? elem).map (fun i => (i.zero, i.size, i.bytes)) = some (some z, 1, bytes))
    (dp sp : Option Addr) (dLen dCap sLen sCap : Nat) (hd : a.eval d = .slice dp dLen dCap) (hs : a.eval s = .slice sp sLen sCap)
    (g off : Nat) (cur : List Value) (t : TypeId) (hg : W.heap[g]? = some (.cells cur.toArray t (0, 0))) (cs : List Value) (hn : cs.length = Nat.min sLen dLen)
    (hdp : 0 < cs.length → dp = some ⟨g, off, none⟩) (hC : Cells W sp cs) (hfit : off + cs.length ≤ cur.length) (h1 : ∀ v ∈ cs, v.oneCell' = true)
    (h : ∀ w', w'.heap[g]? = some (.cells (splice cur off cs).toArray t (0, 0)) → W.grownBy w' (some g) → K (a.put o.dst (goInt cs.length)) w') :
    if Region.wanted o (yielded ops a.tmps) = true then Oper.wp P o a W K Q else F := by
  have hw : Region.wanted o (yielded ops a.tmps) = true := by simp [Region.wanted, hgd]
  rw [if_pos hw]
  have hsz : (P.info? elem).map (·.size) = some 1 := by
    obtain ⟨i0, hi, hzz⟩ := Option.map_eq_some_iff.1 hinfo
    simp only [Prod.mk.injEq] at hzz
    rw [hi]
    simp [hzz.2.1]
  by_cases h0 : cs.length = 0
  · obtain rfl : cs = [] := List.eq_nil_of_length_eq_zero h0
    have hrun := run_copy_none (P := P) W dT sT o.type elem dp sp dLen dCap sLen sCap hu hsz (by simpa using hn.symm)
    unfold Oper.wp execOp
    simp only [ho, resolve, invoke, builtin, Sem.run_bind, Sem.run_pure, Result.andThen_ok, List.map_toArray, List.map_cons, List.map_nil, hd, hs, hrun]
    exact h W (by simpa [splice] using hg) (grown_refl _ _)
  · obtain ⟨ad, rfl, hsrc⟩ := hC (by omega)
    obtain rfl := hdp (by omega)
    have hrun := run_copy_row (P := P) W dT sT o.type elem g off dLen dCap ad sLen sCap cur.toArray t cs hu hsz hg hn hsrc (by simpa using hfit) h1
    unfold Oper.wp execOp
    simp only [ho, resolve, invoke, builtin, Sem.run_bind, Sem.run_pure, Result.andThen_ok, List.map_toArray, List.map_cons, List.map_nil, hd, hs, hrun]
    refine h _ ?_ ⟨rfl, rfl, rfl, by simp [World.setRow], fun k hk hne => setRow_other W g k _ (fun e => hne (by rw [e]))⟩
    have := setRow_heap W g cur.toArray (splice cur off cs).toArray t (0, 0) hg
    simpa [splice] using this

theorem two_splices {α : Type} (Z X Y : List α) (h : Z.length = X.length + Y.length) : splice (splice Z 0 X) X.length Y = X ++ Y := by
  unfold splice
  rw [List.take_zero, List.nil_append, List.take_left' (by rfl)]
  have h2 : (X ++ Z.drop (0 + X.length)).drop (X.length + Y.length) = [] := List.drop_eq_nil_of_le (by simp; omega)
  rw [h2, List.append_nil]
/-- What is peeked. -/
theorem peek_list {buf q : List Int} {i m : Nat} (h : Holds buf i q) (hm : m ≤ q.length) : (buf.drop i).take (min (buf.length - i) m) ++ buf.take (m - min (buf.length - i) m) = q.take m := by
  obtain ⟨h1, h2, h3⟩ := h
  obtain ⟨k, hk⟩ : ∃ k, k = min (buf.length - i) m := ⟨_, rfl⟩
  rw [← hk]
  have hl1 : ((buf.drop i).take k).length = k := by simp; omega
  apply List.ext_getElem?
  intro j
  by_cases hj : j < m
  · have hq : q[j]? = some (q.getD j 0) := by rw [List.getD_eq_getElem?_getD, List.getElem?_eq_getElem (by omega)]; rfl
    rw [List.getElem?_take_of_lt hj, hq, h3 j (by omega)]
    by_cases hjk : j < k
    · rw [List.getElem?_append_left (by omega), List.getElem?_take_of_lt hjk, List.getElem?_drop, Nat.mod_eq_of_lt (by omega), List.getD_eq_getElem?_getD, List.getElem?_eq_getElem (by omega)]
      rfl
    · have hmod : (i + j) % buf.length = j - k := by
        have : i + j = buf.length + (j - k) := by omega
        rw [this, Nat.add_mod_left, Nat.mod_eq_of_lt (by omega)]
      rw [List.getElem?_append_right (by omega), hl1, List.getElem?_take_of_lt (by omega), hmod, List.getD_eq_getElem?_getD, List.getElem?_eq_getElem (by omega)]
      rfl
  · rw [List.getElem?_eq_none (by simp; omega), List.getElem?_eq_none (by simp; omega)]

set_option maxHeartbeats 400000 in
theorem ringPeek_core (R D room i k m : Nat) (q buf : List Int) (n : Int) (hn : 0 ≤ n) (hn' : n ≤ 9223372036854775807) (hkm : m = min n.toNat k) (hk : q.length = k) (w : World) (hi : i < room) (hkr : k ≤ room) (hroom : room ≤ 65536)
    (h1 : w.heap[R]? = some (.cells #[.slice (some ⟨D, 0, none⟩) room room, .int .i64 i, .int .i64 k] 83 (0, 0))) (h2 : w.heap[D]? = some (.cells (nums .u8 buf).toArray 5 (0, 0))) (h3 : buf.length = room) (h5 : Holds buf i q) :
    Calls Try.prog 41 #[.pointer (some ⟨R, 0, none⟩), .int .i64 n] w fun e w' => ∃ g, e = .returned (.slice (some ⟨g, 0, none⟩) m m) ∧ w'.ownsRow w.heap.size 5 1 (.slice (some ⟨g, 0, none⟩) m m) m (nums .u8 (q.take m)) ∧ Below w.heap.size w w' := by
  have hc0 := blk_cell h1 0
  have hc1 := blk_cell h1 1
  have hc2 := blk_cell h1 2
  simp at hc0 hc1 hc2
  have hCb : Cells w (some ⟨D, 0, none⟩) (nums .u8 buf) := fun _ => ⟨_, rfl, fun j u hu => by
    rw [add_plain, blk_cell h2, ← hu]
    simp⟩
  have HR : Hid (R < w.heap.size) := blk_lt h1
  have HC := Lib.hid hCb
  have H3 := Lib.hid h3
  have HP := Lib.hid (peek_list (m := m) h5 (by omega))
  clear h1 h2 h3 h5 hCb hk
  obtain ⟨n, rfl⟩ := Int.eq_ofNat_of_zero_le hn
  simp only [Int.toNat_natCast] at hkm
  by_cases hnk : n < k
  · obtain rfl : m = n := by omega
    clear hkm
    by_cases hrm : room - i < m
    · obtain ⟨k1, hk1⟩ : ∃ k1, k1 = room - i := ⟨_, rfl⟩
      have hk1m : k1 < m ∧ k1 ≤ room - i := by omega
      have HK1 : Hid (k1 = min (room - i) m) := by unfold Hid; omega
      clear hk1
      have hmk : ¬ m = k1 := by omega
      have HCS : Hid ((nums .u8 (buf.take (m - k1))).length = m - k1) := by unfold Hid; rw [nums_length, List.length_take, H3.out]; omega
      have HL1 : Hid ((nums .u8 ((buf.drop i).take k1)).length = k1) := by unfold Hid; rw [nums_length, List.length_take, List.length_drop, H3.out]; omega
      have HCi : Hid (Cells w (some ⟨D, i, none⟩) (nums .u8 ((buf.drop i).take k1))) := by
        have h := HC.out.drop (size := 1) (n := room) (c := room) (by rw [nums_length, Nat.mul_one]; exact H3.out) (Nat.le_refl _) i (by omega)
        rw [if_neg (by omega), Nat.mul_one] at h
        have h2 := h.take k1
        rw [← nums_drop, ← nums_take, Option.map_some, add_plain] at h2
        exact h2
      have hir0 : (0 : Int) ≤ (i : Int) := by omega
      have hir1 : (i : Int) ≤ (room : Int) := by omega
      have hir2 : ¬ room = i := by omega
      have hir3 : i ≤ room := by omega
      have hkr0 : (0 : Int) ≤ (k1 : Int) := by omega
      have hkr1 : (k1 : Int) ≤ (m : Int) := by omega
      have hkr3 : k1 ≤ m := by omega
      go_enter Try.func41, Try.ntmps41
      go_wp2_with
        (at_make
         refine wp_make (w0 := w) w.heap.size rfl (.tmp 19) (.tmp 19) 22 5 (.int .u8 0) 1 rfl Try.underlying22 info_u8 rfl (by decide) .i64 .i64 m m rfl rfl (by omega) (by omega) (Below.refl _ _) (Nat.le_refl _) ?_
         intro w1 hw1 hb1 hg1 hz1
         have hc0' := (hb1.cell (p := ⟨R, 0, none⟩) HR.out).trans hc0
         have hc1' := (hb1.cell (p := ⟨R, 1, none⟩) HR.out).trans hc1
         have HW1 := Lib.hid hw1
         have HB1 := Lib.hid hb1
         have HCi1 := Lib.hid (HCi.out.below hb1)
         clear hw1 hb1 hg1)
      go_region_law
        (refine step_copy rfl (.tmp 21) (.tmp 30) 22 22 rfl 5 (.int .u8 0) 1 Try.underlying22 info_u8 (some ⟨w.heap.size, 0, none⟩) _ m m (room - i) (room - i) rfl rfl w.heap.size 0 _ 5 HW1.out (nums .u8 ((buf.drop i).take k1)) ?c1 (fun _ => rfl) ?c2 ?c3 (nums_one _ _) ?_
         (case c1 => rw [HL1.out]; exact HK1.out)
         (case c2 => exact HCi1.out)
         (case c3 => rw [HL1.out, List.length_replicate]; omega)
         intro w2 hw2 hg2'
         have hg2 := undrew hg2'
         rw [HL1.out]
         have hc0'' := hg2.cell hc0' (by intro he; injection he with he; have := HR.out; have h3 : R = w.heap.size := he; omega)
         have HW2 := Lib.hid hw2
         have HG2 := Lib.hid hg2
         have HB2 := Lib.hid (below_grown (B := w.heap.size) (w := w) (w1 := w1) HB1.out HB1.out.size hg2 (fun b hb => by injection hb with hb; exact Nat.le_of_eq hb))
         have HC2 := Lib.hid (HC.out.below HB2.out)
         clear hw2 hg2 hg2')
      all_goals
        go_wp2
        go_region_law
          (refine step_copy rfl (.tmp 34) (.tmp 38) 22 22 rfl 5 (.int .u8 0) 1 Try.underlying22 info_u8 _ (some ⟨D, 0, none⟩) (m - k1) (m - k1) room room rfl rfl w.heap.size k1 _ 5 HW2.out (nums .u8 (buf.take (m - k1))) ?d1 (fun _ => rfl) ?d2 ?d3 (nums_one _ _) ?_
           (case d1 => rw [HCS.out]; exact (Nat.min_eq_right (by omega)).symm)
           (case d2 => rw [nums_take]; exact HC2.out.take _)
           (case d3 => rw [HCS.out, length_splice _ _ _ (by rw [HL1.out, List.length_replicate]; omega), List.length_replicate]; omega)
           intro w3 hw3 hg3'
           have hg3 := undrew hg3'
           rw [HCS.out]
           have HW3 := Lib.hid hw3
           have HB3 := Lib.hid (below_grown HB2.out HB2.out.size hg3 (fun b hb => by injection hb with hb; exact Nat.le_of_eq hb))
           clear hw3 hg3 hg3')
        all_goals
          go_wp2
          go_ret
          have hsp := two_splices (List.replicate m (Value.int .u8 0)) (nums .u8 ((buf.drop i).take k1)) (nums .u8 (buf.take (m - k1))) (by rw [HL1.out, HCS.out, List.length_replicate]; omega)
          rw [HL1.out] at hsp
          have hw3 := HW3.out
          have hpk := HP.out
          rw [H3.out, ← HK1.out] at hpk
          rw [hsp, ← nums_append, hpk] at hw3
          have ho := own_of_block (n := m) (cap := m) (size := 1) hw3 (Nat.le_refl _) (Nat.le_refl _) (by omega) (by rw [← hpk, nums_length, List.length_append, ← nums_length .u8, HL1.out, ← nums_length .u8, HCS.out]; omega)
          rw [List.take_of_length_le (by rw [← hpk, nums_length, List.length_append, ← nums_length .u8, HL1.out, ← nums_length .u8, HCS.out]; omega)] at ho
          exact ⟨_, rfl, ho, HB3.out⟩
    · have HK1 : Hid (m = min (room - i) m) := by unfold Hid; omega
      have HCS : Hid ((nums .u8 (buf.take (m - m))).length = 0) := by unfold Hid; rw [nums_length, List.length_take, H3.out]; omega
      have HL1 : Hid ((nums .u8 ((buf.drop i).take m)).length = m) := by unfold Hid; rw [nums_length, List.length_take, List.length_drop, H3.out]; omega
      have HCi : Hid (Cells w (some ⟨D, i, none⟩) (nums .u8 ((buf.drop i).take m))) := by
        have h := HC.out.drop (size := 1) (n := room) (c := room) (by rw [nums_length, Nat.mul_one]; exact H3.out) (Nat.le_refl _) i (by omega)
        rw [if_neg (by omega), Nat.mul_one] at h
        have h2 := h.take m
        rw [← nums_drop, ← nums_take, Option.map_some, add_plain] at h2
        exact h2
      have hir0 : (0 : Int) ≤ (i : Int) := by omega
      have hir1 : (i : Int) ≤ (room : Int) := by omega
      have hir2 : ¬ room = i := by omega
      have hir3 : i ≤ room := by omega
      have hkr0 : (0 : Int) ≤ (m : Int) := by omega
      have hkr1 : (m : Int) ≤ (m : Int) := by omega
      have hkr3 : m ≤ m := by omega
      go_enter Try.func41, Try.ntmps41
      go_wp2_with
        (at_make
         refine wp_make (w0 := w) w.heap.size rfl (.tmp 19) (.tmp 19) 22 5 (.int .u8 0) 1 rfl Try.underlying22 info_u8 rfl (by decide) .i64 .i64 m m rfl rfl (by omega) (by omega) (Below.refl _ _) (Nat.le_refl _) ?_
         intro w1 hw1 hb1 hg1 hz1
         have hc0' := (hb1.cell (p := ⟨R, 0, none⟩) HR.out).trans hc0
         have hc1' := (hb1.cell (p := ⟨R, 1, none⟩) HR.out).trans hc1
         have HW1 := Lib.hid hw1
         have HB1 := Lib.hid hb1
         have HCi1 := Lib.hid (HCi.out.below hb1)
         clear hw1 hb1 hg1)
      go_region_law
        (refine step_copy rfl (.tmp 21) (.tmp 30) 22 22 rfl 5 (.int .u8 0) 1 Try.underlying22 info_u8 (some ⟨w.heap.size, 0, none⟩) _ m m (room - i) (room - i) rfl rfl w.heap.size 0 _ 5 HW1.out (nums .u8 ((buf.drop i).take m)) ?c1 (fun _ => rfl) ?c2 ?c3 (nums_one _ _) ?_
         (case c1 => rw [HL1.out]; exact HK1.out)
         (case c2 => exact HCi1.out)
         (case c3 => rw [HL1.out, List.length_replicate]; omega)
         intro w2 hw2 hg2'
         have hg2 := undrew hg2'
         rw [HL1.out]
         have hc0'' := hg2.cell hc0' (by intro he; injection he with he; have := HR.out; have h3 : R = w.heap.size := he; omega)
         have HW2 := Lib.hid hw2
         have HG2 := Lib.hid hg2
         have HB2 := Lib.hid (below_grown (B := w.heap.size) (w := w) (w1 := w1) HB1.out HB1.out.size hg2 (fun b hb => by injection hb with hb; exact Nat.le_of_eq hb))
         have HC2 := Lib.hid (HC.out.below HB2.out)
         clear hw2 hg2 hg2')
      all_goals
        go_wp2
        go_region_law
          (refine step_copy rfl (.tmp 34) (.tmp 38) 22 22 rfl 5 (.int .u8 0) 1 Try.underlying22 info_u8 _ (some ⟨D, 0, none⟩) 0 0 room room rfl rfl w.heap.size m _ 5 HW2.out (nums .u8 (buf.take (m - m))) ?d1 (fun h => absurd h (by rw [HCS.out]; omega)) ?d2 ?d3 (nums_one _ _) ?_
           (case d1 => rw [HCS.out]; exact (Nat.min_eq_right (by omega)).symm)
           (case d2 => rw [nums_take]; exact HC2.out.take _)
           (case d3 => rw [HCS.out, length_splice _ _ _ (by rw [HL1.out, List.length_replicate]; omega), List.length_replicate]; omega)
           intro w3 hw3 hg3'
           have hg3 := undrew hg3'
           rw [HCS.out]
           have HW3 := Lib.hid hw3
           have HB3 := Lib.hid (below_grown HB2.out HB2.out.size hg3 (fun b hb => by injection hb with hb; exact Nat.le_of_eq hb))
           clear hw3 hg3 hg3')
        all_goals
          go_wp2
          go_ret
          have hsp := two_splices (List.replicate m (Value.int .u8 0)) (nums .u8 ((buf.drop i).take m)) (nums .u8 (buf.take (m - m))) (by rw [HL1.out, HCS.out, List.length_replicate]; omega)
          rw [HL1.out] at hsp
          have hw3 := HW3.out
          have hpk := HP.out
          rw [H3.out, ← HK1.out] at hpk
          rw [hsp, ← nums_append, hpk] at hw3
          have ho := own_of_block (n := m) (cap := m) (size := 1) hw3 (Nat.le_refl _) (Nat.le_refl _) (by omega) (by rw [← hpk, nums_length, List.length_append, ← nums_length .u8, HL1.out, ← nums_length .u8, HCS.out]; omega)
          rw [List.take_of_length_le (by rw [← hpk, nums_length, List.length_append, ← nums_length .u8, HL1.out, ← nums_length .u8, HCS.out]; omega)] at ho
          exact ⟨_, rfl, ho, HB3.out⟩
  · by_cases hkn : k < n
    · obtain rfl : m = k := by omega
      clear hkm
      by_cases hrm : room - i < m
      · obtain ⟨k1, hk1⟩ : ∃ k1, k1 = room - i := ⟨_, rfl⟩
        have hk1m : k1 < m ∧ k1 ≤ room - i := by omega
        have HK1 : Hid (k1 = min (room - i) m) := by unfold Hid; omega
        clear hk1
        have hmk : ¬ m = k1 := by omega
        have HCS : Hid ((nums .u8 (buf.take (m - k1))).length = m - k1) := by unfold Hid; rw [nums_length, List.length_take, H3.out]; omega
        have HL1 : Hid ((nums .u8 ((buf.drop i).take k1)).length = k1) := by unfold Hid; rw [nums_length, List.length_take, List.length_drop, H3.out]; omega
        have HCi : Hid (Cells w (some ⟨D, i, none⟩) (nums .u8 ((buf.drop i).take k1))) := by
          have h := HC.out.drop (size := 1) (n := room) (c := room) (by rw [nums_length, Nat.mul_one]; exact H3.out) (Nat.le_refl _) i (by omega)
          rw [if_neg (by omega), Nat.mul_one] at h
          have h2 := h.take k1
          rw [← nums_drop, ← nums_take, Option.map_some, add_plain] at h2
          exact h2
        have hir0 : (0 : Int) ≤ (i : Int) := by omega
        have hir1 : (i : Int) ≤ (room : Int) := by omega
        have hir2 : ¬ room = i := by omega
        have hir3 : i ≤ room := by omega
        have hkr0 : (0 : Int) ≤ (k1 : Int) := by omega
        have hkr1 : (k1 : Int) ≤ (m : Int) := by omega
        have hkr3 : k1 ≤ m := by omega
        go_enter Try.func41, Try.ntmps41
        go_wp2_with
          (at_make
           refine wp_make (w0 := w) w.heap.size rfl (.tmp 19) (.tmp 19) 22 5 (.int .u8 0) 1 rfl Try.underlying22 info_u8 rfl (by decide) .i64 .i64 m m rfl rfl (by omega) (by omega) (Below.refl _ _) (Nat.le_refl _) ?_
           intro w1 hw1 hb1 hg1 hz1
           have hc0' := (hb1.cell (p := ⟨R, 0, none⟩) HR.out).trans hc0
           have hc1' := (hb1.cell (p := ⟨R, 1, none⟩) HR.out).trans hc1
           have HW1 := Lib.hid hw1
           have HB1 := Lib.hid hb1
           have HCi1 := Lib.hid (HCi.out.below hb1)
           clear hw1 hb1 hg1)
        go_region_law
          (refine step_copy rfl (.tmp 21) (.tmp 30) 22 22 rfl 5 (.int .u8 0) 1 Try.underlying22 info_u8 (some ⟨w.heap.size, 0, none⟩) _ m m (room - i) (room - i) rfl rfl w.heap.size 0 _ 5 HW1.out (nums .u8 ((buf.drop i).take k1)) ?c1 (fun _ => rfl) ?c2 ?c3 (nums_one _ _) ?_
           (case c1 => rw [HL1.out]; exact HK1.out)
           (case c2 => exact HCi1.out)
           (case c3 => rw [HL1.out, List.length_replicate]; omega)
           intro w2 hw2 hg2'
           have hg2 := undrew hg2'
           rw [HL1.out]
           have hc0'' := hg2.cell hc0' (by intro he; injection he with he; have := HR.out; have h3 : R = w.heap.size := he; omega)
           have HW2 := Lib.hid hw2
           have HG2 := Lib.hid hg2
           have HB2 := Lib.hid (below_grown (B := w.heap.size) (w := w) (w1 := w1) HB1.out HB1.out.size hg2 (fun b hb => by injection hb with hb; exact Nat.le_of_eq hb))
           have HC2 := Lib.hid (HC.out.below HB2.out)
           clear hw2 hg2 hg2')
        all_goals
          go_wp2
          go_region_law
            (refine step_copy rfl (.tmp 34) (.tmp 38) 22 22 rfl 5 (.int .u8 0) 1 Try.underlying22 info_u8 _ (some ⟨D, 0, none⟩) (m - k1) (m - k1) room room rfl rfl w.heap.size k1 _ 5 HW2.out (nums .u8 (buf.take (m - k1))) ?d1 (fun _ => rfl) ?d2 ?d3 (nums_one _ _) ?_
             (case d1 => rw [HCS.out]; exact (Nat.min_eq_right (by omega)).symm)
             (case d2 => rw [nums_take]; exact HC2.out.take _)
             (case d3 => rw [HCS.out, length_splice _ _ _ (by rw [HL1.out, List.length_replicate]; omega), List.length_replicate]; omega)
             intro w3 hw3 hg3'
             have hg3 := undrew hg3'
             rw [HCS.out]
             have HW3 := Lib.hid hw3
             have HB3 := Lib.hid (below_grown HB2.out HB2.out.size hg3 (fun b hb => by injection hb with hb; exact Nat.le_of_eq hb))
             clear hw3 hg3 hg3')
          all_goals
            go_wp2
            go_ret
            have hsp := two_splices (List.replicate m (Value.int .u8 0)) (nums .u8 ((buf.drop i).take k1)) (nums .u8 (buf.take (m - k1))) (by rw [HL1.out, HCS.out, List.length_replicate]; omega)
            rw [HL1.out] at hsp
            have hw3 := HW3.out
            have hpk := HP.out
            rw [H3.out, ← HK1.out] at hpk
            rw [hsp, ← nums_append, hpk] at hw3
            have ho := own_of_block (n := m) (cap := m) (size := 1) hw3 (Nat.le_refl _) (Nat.le_refl _) (by omega) (by rw [← hpk, nums_length, List.length_append, ← nums_length .u8, HL1.out, ← nums_length .u8, HCS.out]; omega)
            rw [List.take_of_length_le (by rw [← hpk, nums_length, List.length_append, ← nums_length .u8, HL1.out, ← nums_length .u8, HCS.out]; omega)] at ho
            exact ⟨_, rfl, ho, HB3.out⟩
      · have HK1 : Hid (m = min (room - i) m) := by unfold Hid; omega
        have HCS : Hid ((nums .u8 (buf.take (m - m))).length = 0) := by unfold Hid; rw [nums_length, List.length_take, H3.out]; omega
        have HL1 : Hid ((nums .u8 ((buf.drop i).take m)).length = m) := by unfold Hid; rw [nums_length, List.length_take, List.length_drop, H3.out]; omega
        have HCi : Hid (Cells w (some ⟨D, i, none⟩) (nums .u8 ((buf.drop i).take m))) := by
          have h := HC.out.drop (size := 1) (n := room) (c := room) (by rw [nums_length, Nat.mul_one]; exact H3.out) (Nat.le_refl _) i (by omega)
          rw [if_neg (by omega), Nat.mul_one] at h
          have h2 := h.take m
          rw [← nums_drop, ← nums_take, Option.map_some, add_plain] at h2
          exact h2
        have hir0 : (0 : Int) ≤ (i : Int) := by omega
        have hir1 : (i : Int) ≤ (room : Int) := by omega
        have hir2 : ¬ room = i := by omega
        have hir3 : i ≤ room := by omega
        have hkr0 : (0 : Int) ≤ (m : Int) := by omega
        have hkr1 : (m : Int) ≤ (m : Int) := by omega
        have hkr3 : m ≤ m := by omega
        go_enter Try.func41, Try.ntmps41
        go_wp2_with
          (at_make
           refine wp_make (w0 := w) w.heap.size rfl (.tmp 19) (.tmp 19) 22 5 (.int .u8 0) 1 rfl Try.underlying22 info_u8 rfl (by decide) .i64 .i64 m m rfl rfl (by omega) (by omega) (Below.refl _ _) (Nat.le_refl _) ?_
           intro w1 hw1 hb1 hg1 hz1
           have hc0' := (hb1.cell (p := ⟨R, 0, none⟩) HR.out).trans hc0
           have hc1' := (hb1.cell (p := ⟨R, 1, none⟩) HR.out).trans hc1
           have HW1 := Lib.hid hw1
           have HB1 := Lib.hid hb1
           have HCi1 := Lib.hid (HCi.out.below hb1)
           clear hw1 hb1 hg1)
        go_region_law
          (refine step_copy rfl (.tmp 21) (.tmp 30) 22 22 rfl 5 (.int .u8 0) 1 Try.underlying22 info_u8 (some ⟨w.heap.size, 0, none⟩) _ m m (room - i) (room - i) rfl rfl w.heap.size 0 _ 5 HW1.out (nums .u8 ((buf.drop i).take m)) ?c1 (fun _ => rfl) ?c2 ?c3 (nums_one _ _) ?_
           (case c1 => rw [HL1.out]; exact HK1.out)
           (case c2 => exact HCi1.out)
           (case c3 => rw [HL1.out, List.length_replicate]; omega)
           intro w2 hw2 hg2'
           have hg2 := undrew hg2'
           rw [HL1.out]
           have hc0'' := hg2.cell hc0' (by intro he; injection he with he; have := HR.out; have h3 : R = w.heap.size := he; omega)
           have HW2 := Lib.hid hw2
           have HG2 := Lib.hid hg2
           have HB2 := Lib.hid (below_grown (B := w.heap.size) (w := w) (w1 := w1) HB1.out HB1.out.size hg2 (fun b hb => by injection hb with hb; exact Nat.le_of_eq hb))
           have HC2 := Lib.hid (HC.out.below HB2.out)
           clear hw2 hg2 hg2')
        all_goals
          go_wp2
          go_region_law
            (refine step_copy rfl (.tmp 34) (.tmp 38) 22 22 rfl 5 (.int .u8 0) 1 Try.underlying22 info_u8 _ (some ⟨D, 0, none⟩) 0 0 room room rfl rfl w.heap.size m _ 5 HW2.out (nums .u8 (buf.take (m - m))) ?d1 (fun h => absurd h (by rw [HCS.out]; omega)) ?d2 ?d3 (nums_one _ _) ?_
             (case d1 => rw [HCS.out]; exact (Nat.min_eq_right (by omega)).symm)
             (case d2 => rw [nums_take]; exact HC2.out.take _)
             (case d3 => rw [HCS.out, length_splice _ _ _ (by rw [HL1.out, List.length_replicate]; omega), List.length_replicate]; omega)
             intro w3 hw3 hg3'
             have hg3 := undrew hg3'
             rw [HCS.out]
             have HW3 := Lib.hid hw3
             have HB3 := Lib.hid (below_grown HB2.out HB2.out.size hg3 (fun b hb => by injection hb with hb; exact Nat.le_of_eq hb))
             clear hw3 hg3 hg3')
          all_goals
            go_wp2
            go_ret
            have hsp := two_splices (List.replicate m (Value.int .u8 0)) (nums .u8 ((buf.drop i).take m)) (nums .u8 (buf.take (m - m))) (by rw [HL1.out, HCS.out, List.length_replicate]; omega)
            rw [HL1.out] at hsp
            have hw3 := HW3.out
            have hpk := HP.out
            rw [H3.out, ← HK1.out] at hpk
            rw [hsp, ← nums_append, hpk] at hw3
            have ho := own_of_block (n := m) (cap := m) (size := 1) hw3 (Nat.le_refl _) (Nat.le_refl _) (by omega) (by rw [← hpk, nums_length, List.length_append, ← nums_length .u8, HL1.out, ← nums_length .u8, HCS.out]; omega)
            rw [List.take_of_length_le (by rw [← hpk, nums_length, List.length_append, ← nums_length .u8, HL1.out, ← nums_length .u8, HCS.out]; omega)] at ho
            exact ⟨_, rfl, ho, HB3.out⟩
    · obtain rfl : n = k := by omega
      obtain rfl : m = n := by omega
      clear hkm hnk hkn
      by_cases hrm : room - i < m
      · obtain ⟨k1, hk1⟩ : ∃ k1, k1 = room - i := ⟨_, rfl⟩
        have hk1m : k1 < m ∧ k1 ≤ room - i := by omega
        have HK1 : Hid (k1 = min (room - i) m) := by unfold Hid; omega
        clear hk1
        have hmk : ¬ m = k1 := by omega
        have HCS : Hid ((nums .u8 (buf.take (m - k1))).length = m - k1) := by unfold Hid; rw [nums_length, List.length_take, H3.out]; omega
        have HL1 : Hid ((nums .u8 ((buf.drop i).take k1)).length = k1) := by unfold Hid; rw [nums_length, List.length_take, List.length_drop, H3.out]; omega
        have HCi : Hid (Cells w (some ⟨D, i, none⟩) (nums .u8 ((buf.drop i).take k1))) := by
          have h := HC.out.drop (size := 1) (n := room) (c := room) (by rw [nums_length, Nat.mul_one]; exact H3.out) (Nat.le_refl _) i (by omega)
          rw [if_neg (by omega), Nat.mul_one] at h
          have h2 := h.take k1
          rw [← nums_drop, ← nums_take, Option.map_some, add_plain] at h2
          exact h2
        have hir0 : (0 : Int) ≤ (i : Int) := by omega
        have hir1 : (i : Int) ≤ (room : Int) := by omega
        have hir2 : ¬ room = i := by omega
        have hir3 : i ≤ room := by omega
        have hkr0 : (0 : Int) ≤ (k1 : Int) := by omega
        have hkr1 : (k1 : Int) ≤ (m : Int) := by omega
        have hkr3 : k1 ≤ m := by omega
        go_enter Try.func41, Try.ntmps41
        go_wp2_with
          (at_make
           refine wp_make (w0 := w) w.heap.size rfl (.tmp 19) (.tmp 19) 22 5 (.int .u8 0) 1 rfl Try.underlying22 info_u8 rfl (by decide) .i64 .i64 m m rfl rfl (by omega) (by omega) (Below.refl _ _) (Nat.le_refl _) ?_
           intro w1 hw1 hb1 hg1 hz1
           have hc0' := (hb1.cell (p := ⟨R, 0, none⟩) HR.out).trans hc0
           have hc1' := (hb1.cell (p := ⟨R, 1, none⟩) HR.out).trans hc1
           have HW1 := Lib.hid hw1
           have HB1 := Lib.hid hb1
           have HCi1 := Lib.hid (HCi.out.below hb1)
           clear hw1 hb1 hg1)
        go_region_law
          (refine step_copy rfl (.tmp 21) (.tmp 30) 22 22 rfl 5 (.int .u8 0) 1 Try.underlying22 info_u8 (some ⟨w.heap.size, 0, none⟩) _ m m (room - i) (room - i) rfl rfl w.heap.size 0 _ 5 HW1.out (nums .u8 ((buf.drop i).take k1)) ?c1 (fun _ => rfl) ?c2 ?c3 (nums_one _ _) ?_
           (case c1 => rw [HL1.out]; exact HK1.out)
           (case c2 => exact HCi1.out)
           (case c3 => rw [HL1.out, List.length_replicate]; omega)
           intro w2 hw2 hg2'
           have hg2 := undrew hg2'
           rw [HL1.out]
           have hc0'' := hg2.cell hc0' (by intro he; injection he with he; have := HR.out; have h3 : R = w.heap.size := he; omega)
           have HW2 := Lib.hid hw2
           have HG2 := Lib.hid hg2
           have HB2 := Lib.hid (below_grown (B := w.heap.size) (w := w) (w1 := w1) HB1.out HB1.out.size hg2 (fun b hb => by injection hb with hb; exact Nat.le_of_eq hb))
           have HC2 := Lib.hid (HC.out.below HB2.out)
           clear hw2 hg2 hg2')
        all_goals
          go_wp2
          go_region_law
            (refine step_copy rfl (.tmp 34) (.tmp 38) 22 22 rfl 5 (.int .u8 0) 1 Try.underlying22 info_u8 _ (some ⟨D, 0, none⟩) (m - k1) (m - k1) room room rfl rfl w.heap.size k1 _ 5 HW2.out (nums .u8 (buf.take (m - k1))) ?d1 (fun _ => rfl) ?d2 ?d3 (nums_one _ _) ?_
             (case d1 => rw [HCS.out]; exact (Nat.min_eq_right (by omega)).symm)
             (case d2 => rw [nums_take]; exact HC2.out.take _)
             (case d3 => rw [HCS.out, length_splice _ _ _ (by rw [HL1.out, List.length_replicate]; omega), List.length_replicate]; omega)
             intro w3 hw3 hg3'
             have hg3 := undrew hg3'
             rw [HCS.out]
             have HW3 := Lib.hid hw3
             have HB3 := Lib.hid (below_grown HB2.out HB2.out.size hg3 (fun b hb => by injection hb with hb; exact Nat.le_of_eq hb))
             clear hw3 hg3 hg3')
          all_goals
            go_wp2
            go_ret
            have hsp := two_splices (List.replicate m (Value.int .u8 0)) (nums .u8 ((buf.drop i).take k1)) (nums .u8 (buf.take (m - k1))) (by rw [HL1.out, HCS.out, List.length_replicate]; omega)
            rw [HL1.out] at hsp
            have hw3 := HW3.out
            have hpk := HP.out
            rw [H3.out, ← HK1.out] at hpk
            rw [hsp, ← nums_append, hpk] at hw3
            have ho := own_of_block (n := m) (cap := m) (size := 1) hw3 (Nat.le_refl _) (Nat.le_refl _) (by omega) (by rw [← hpk, nums_length, List.length_append, ← nums_length .u8, HL1.out, ← nums_length .u8, HCS.out]; omega)
            rw [List.take_of_length_le (by rw [← hpk, nums_length, List.length_append, ← nums_length .u8, HL1.out, ← nums_length .u8, HCS.out]; omega)] at ho
            exact ⟨_, rfl, ho, HB3.out⟩
      · have HK1 : Hid (m = min (room - i) m) := by unfold Hid; omega
        have HCS : Hid ((nums .u8 (buf.take (m - m))).length = 0) := by unfold Hid; rw [nums_length, List.length_take, H3.out]; omega
        have HL1 : Hid ((nums .u8 ((buf.drop i).take m)).length = m) := by unfold Hid; rw [nums_length, List.length_take, List.length_drop, H3.out]; omega
        have HCi : Hid (Cells w (some ⟨D, i, none⟩) (nums .u8 ((buf.drop i).take m))) := by
          have h := HC.out.drop (size := 1) (n := room) (c := room) (by rw [nums_length, Nat.mul_one]; exact H3.out) (Nat.le_refl _) i (by omega)
          rw [if_neg (by omega), Nat.mul_one] at h
          have h2 := h.take m
          rw [← nums_drop, ← nums_take, Option.map_some, add_plain] at h2
          exact h2
        have hir0 : (0 : Int) ≤ (i : Int) := by omega
        have hir1 : (i : Int) ≤ (room : Int) := by omega
        have hir2 : ¬ room = i := by omega
        have hir3 : i ≤ room := by omega
        have hkr0 : (0 : Int) ≤ (m : Int) := by omega
        have hkr1 : (m : Int) ≤ (m : Int) := by omega
        have hkr3 : m ≤ m := by omega
        go_enter Try.func41, Try.ntmps41
        go_wp2_with
          (at_make
           refine wp_make (w0 := w) w.heap.size rfl (.tmp 19) (.tmp 19) 22 5 (.int .u8 0) 1 rfl Try.underlying22 info_u8 rfl (by decide) .i64 .i64 m m rfl rfl (by omega) (by omega) (Below.refl _ _) (Nat.le_refl _) ?_
           intro w1 hw1 hb1 hg1 hz1
           have hc0' := (hb1.cell (p := ⟨R, 0, none⟩) HR.out).trans hc0
           have hc1' := (hb1.cell (p := ⟨R, 1, none⟩) HR.out).trans hc1
           have HW1 := Lib.hid hw1
           have HB1 := Lib.hid hb1
           have HCi1 := Lib.hid (HCi.out.below hb1)
           clear hw1 hb1 hg1)
        go_region_law
          (refine step_copy rfl (.tmp 21) (.tmp 30) 22 22 rfl 5 (.int .u8 0) 1 Try.underlying22 info_u8 (some ⟨w.heap.size, 0, none⟩) _ m m (room - i) (room - i) rfl rfl w.heap.size 0 _ 5 HW1.out (nums .u8 ((buf.drop i).take m)) ?c1 (fun _ => rfl) ?c2 ?c3 (nums_one _ _) ?_
           (case c1 => rw [HL1.out]; exact HK1.out)
           (case c2 => exact HCi1.out)
           (case c3 => rw [HL1.out, List.length_replicate]; omega)
           intro w2 hw2 hg2'
           have hg2 := undrew hg2'
           rw [HL1.out]
           have hc0'' := hg2.cell hc0' (by intro he; injection he with he; have := HR.out; have h3 : R = w.heap.size := he; omega)
           have HW2 := Lib.hid hw2
           have HG2 := Lib.hid hg2
           have HB2 := Lib.hid (below_grown (B := w.heap.size) (w := w) (w1 := w1) HB1.out HB1.out.size hg2 (fun b hb => by injection hb with hb; exact Nat.le_of_eq hb))
           have HC2 := Lib.hid (HC.out.below HB2.out)
           clear hw2 hg2 hg2')
        all_goals
          go_wp2
          go_region_law
            (refine step_copy rfl (.tmp 34) (.tmp 38) 22 22 rfl 5 (.int .u8 0) 1 Try.underlying22 info_u8 _ (some ⟨D, 0, none⟩) 0 0 room room rfl rfl w.heap.size m _ 5 HW2.out (nums .u8 (buf.take (m - m))) ?d1 (fun h => absurd h (by rw [HCS.out]; omega)) ?d2 ?d3 (nums_one _ _) ?_
             (case d1 => rw [HCS.out]; exact (Nat.min_eq_right (by omega)).symm)
             (case d2 => rw [nums_take]; exact HC2.out.take _)
             (case d3 => rw [HCS.out, length_splice _ _ _ (by rw [HL1.out, List.length_replicate]; omega), List.length_replicate]; omega)
             intro w3 hw3 hg3'
             have hg3 := undrew hg3'
             rw [HCS.out]
             have HW3 := Lib.hid hw3
             have HB3 := Lib.hid (below_grown HB2.out HB2.out.size hg3 (fun b hb => by injection hb with hb; exact Nat.le_of_eq hb))
             clear hw3 hg3 hg3')
          all_goals
            go_wp2
            go_ret
            have hsp := two_splices (List.replicate m (Value.int .u8 0)) (nums .u8 ((buf.drop i).take m)) (nums .u8 (buf.take (m - m))) (by rw [HL1.out, HCS.out, List.length_replicate]; omega)
            rw [HL1.out] at hsp
            have hw3 := HW3.out
            have hpk := HP.out
            rw [H3.out, ← HK1.out] at hpk
            rw [hsp, ← nums_append, hpk] at hw3
            have ho := own_of_block (n := m) (cap := m) (size := 1) hw3 (Nat.le_refl _) (Nat.le_refl _) (by omega) (by rw [← hpk, nums_length, List.length_append, ← nums_length .u8, HL1.out, ← nums_length .u8, HCS.out]; omega)
            rw [List.take_of_length_le (by rw [← hpk, nums_length, List.length_append, ← nums_length .u8, HL1.out, ← nums_length .u8, HCS.out]; omega)] at ho
            exact ⟨_, rfl, ho, HB3.out⟩

set_option maxHeartbeats 400000 in
theorem ringPeek_any (R D room : Nat) (q : List Int) (n : Int) (hn : -9223372036854775808 ≤ n) (hn' : n ≤ 9223372036854775807) (w : World) (h : RgSt w R D room 83 5 q) :
    Calls Try.prog 41 #[.pointer (some ⟨R, 0, none⟩), .int .i64 n] w fun e w' => ∃ v, e = .returned v ∧ w'.ownsRow w.heap.size 5 1 v (q.take n.toNat).length (nums .u8 (q.take n.toNat)) ∧ Below w.heap.size w w' := by
  by_cases hn0 : n < 0
  · have HZ : Hid (q.take n.toNat = []) := by unfold Hid; rw [show n.toNat = 0 by omega]; rfl
    go_enter Try.func41, Try.ntmps41
    go_wp2
    go_ret
    exact ⟨_, rfl, by rw [HZ.out]; exact own_nil _ _ _ _, Below.refl _ _⟩
  · obtain ⟨buf, i, h1, h2, h3, h4, h5, h6, h7⟩ := h
    have hq := h5.1
    have hi := h5.2.1
    refine (ringPeek_core R D room i q.length (min n.toNat q.length) q buf n (by omega) hn' rfl rfl w (by omega) (by omega) h4 h1 h2 h3 h5).mono ?_
    rintro e w' ⟨g, rfl, ho, hb⟩
    have e1 : q.take (min n.toNat q.length) = q.take n.toNat := by
      by_cases hle : n.toNat ≤ q.length
      · rw [Nat.min_eq_left hle]
      · rw [Nat.min_eq_right (by omega), List.take_of_length_le (Nat.le_refl _), List.take_of_length_le (by omega)]
    have e2 : (q.take n.toNat).length = min n.toNat q.length := List.length_take
    rw [e1] at ho
    exact ⟨_, rfl, by rw [e2]; exact ho, hb⟩

set_option maxHeartbeats 400000 in
theorem ringRead_any (R D room : Nat) (q : List Int) (n : Int) (hn : -9223372036854775808 ≤ n) (hn' : n ≤ 9223372036854775807) (w : World) (h : RgSt w R D room 83 5 q) :
    Calls Try.prog 38 #[.pointer (some ⟨R, 0, none⟩), .int .i64 n] w fun e w' => ∃ v, e = .returned v ∧ w'.ownsRow w.heap.size 5 1 v (q.take n.toNat).length (nums .u8 (q.take n.toNat)) ∧ RgSt w' R D room 83 5 (q.drop n.toNat) ∧ w.grownBy w' (some R) := by
  have HS := Lib.hid h
  have HR : Hid (R < w.heap.size) := by obtain ⟨_, _, h1, _⟩ := h; exact blk_lt h1
  clear h
  go_enter Try.func38, Try.ntmps38
  go_wp2_with fail
  refine (ringPeek_any R D room q n hn hn' w HS.out).mono ?_
  rintro e w1 ⟨v, rfl, ho, hb⟩
  have HO := Lib.hid ho
  have HB := Lib.hid hb
  have HS1 := Lib.hid (HS.out.below hb)
  clear ho hb
  go_wp2_with fail
  refine (ringDrop_any R D room q n hn hn' w1 HS1.out).mono ?_
  rintro e w2 ⟨rfl, hs, hg⟩
  have HO2 := Lib.hid (own_grown HO.out hg (by
    rcases hv : v.ownBlock with _ | b
    · exact .inl rfl
    · refine .inr fun he => ?_
      injection he with he
      have := own_base HO.out b hv
      have := HR.out
      omega))
  have HS2 := Lib.hid hs
  have HG := Lib.hid (grown_trans_row (grown_of_below HB.out (some R)) hg (.inl rfl))
  clear hs hg
  go_wp2_with fail
  go_ret
  exact ⟨v, rfl, HO2.out, HS2.out, HG.out⟩

set_option maxHeartbeats 400000 in
theorem newRing_bad (room : Int) (h0 : -9223372036854775808 ≤ room) (h0' : room ≤ 9223372036854775807) (h : room < 1 ∨ 65536 < room) (w : World) :
    Calls Try.prog 35 #[.int .i64 room] w fun e w' => e = .returned (.pointer none) ∧ w' = w := by
  by_cases h1 : room < 1
  · clear h
    go_enter Try.func35, Try.ntmps35
    go_wp2
    go_ret
    exact ⟨rfl, rfl⟩
  · have h2 : 65536 < room := by omega
    clear h
    go_enter Try.func35, Try.ntmps35
    go_wp2
    go_ret
    exact ⟨rfl, rfl⟩
set_option maxHeartbeats 400000 in
theorem newRing_ok (m : Nat) (h1 : 1 ≤ m) (h2 : m ≤ 65536) (w : World) :
    Calls Try.prog 35 #[.int .i64 m] w fun e w' => ∃ R D, e = .returned (.pointer (some ⟨R, 0, none⟩)) ∧ RgSt w' R D m 83 5 [] ∧ w.heap.size ≤ R ∧ w.heap.size ≤ D ∧ Below w.heap.size w w' := by
  go_enter Try.func35, Try.ntmps35
  go_wp2_with
    (at_make
     refine wp_make (w0 := w) w.heap.size rfl (.tmp 9) (.tmp 9) 22 5 (.int .u8 0) 1 rfl Try.underlying22 info_u8 rfl (by decide) .i64 .i64 m m rfl rfl (by omega) (by omega) (Below.refl _ _) (Nat.le_refl _) ?_
     intro w1 hw1 hb1 hg1 hz1
     have HW1 := Lib.hid hw1
     have HB1 := Lib.hid hb1
     have HZ1 := Lib.hid hz1
     clear hw1 hb1 hg1 hz1)
  go_ret
  refine ⟨w1.heap.size, w.heap.size, rfl, ⟨List.replicate m 0, 0, heap_alloc_new w1 _, ?_, List.length_replicate, h2, ⟨Nat.zero_le _, by rw [List.length_replicate]; omega, fun j hj => absurd hj (Nat.not_lt_zero _)⟩, ?_, ?_⟩, HB1.out.size, Nat.le_refl _, HB1.out.alloc HB1.out.size _⟩
  · rw [show nums .u8 (List.replicate m 0) = List.replicate m (Value.int .u8 0) from by simp [nums]]
    exact (Below.heap_alloc w1 _ _ HZ1.out).trans HW1.out
  · intro x hx
    rw [List.eq_of_mem_replicate hx]
    omega
  · have := HZ1.out
    omega

end Go.Proofs.Ythlfdckcnpnemaa
