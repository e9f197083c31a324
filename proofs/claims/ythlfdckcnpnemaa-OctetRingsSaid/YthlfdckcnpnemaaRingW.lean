/-
  What octet's Ring.Write tells. Conditions: the ring's block is as RgSt says; the bytes that come lie elsewhere.
-/
import Derived.Test.YthlfdckcnpnemaaRing
import Derived.Deep.DeepCutAuto
import Derived.Deep.CutBlock
namespace Go.Proofs.Ythlfdckcnpnemaa
open Go.RowKit
set_option linter.unusedVariables false
set_option linter.unusedSimpArgs false

/-- All old blocks but two are as they were. -/
structure KeepTwo (w w' : World) (R D : Nat) : Prop where
  os : w'.os = w.os
  tape : w'.tape = w.tape
  output : w'.output = w.output
  size : w.heap.size ≤ w'.heap.size
  block : ∀ k, k < w.heap.size → k ≠ R → k ≠ D → w'.heap[k]? = w.heap[k]?
theorem KeepTwo.refl (w : World) (R D : Nat) : KeepTwo w w R D := ⟨rfl, rfl, rfl, Nat.le_refl _, fun _ _ _ _ => rfl⟩
theorem KeepTwo.grown {w w1 w2 : World} {R D : Nat} {row : Option Nat} (h : KeepTwo w w1 R D) (hg : w1.grownBy w2 row) (hr : row = some R ∨ row = some D ∨ row = none) : KeepTwo w w2 R D :=
  ⟨hg.os.trans h.os, hg.tape.trans h.tape, hg.output.trans h.output, Nat.le_trans h.size hg.size, fun k hk hR hD => (hg.block k (Nat.lt_of_lt_of_le hk h.size) (by
    rcases hr with rfl | rfl | rfl
    · exact fun he => hR (by injection he)
    · exact fun he => hD (by injection he)
    · exact fun he => by cases he)).trans (h.block k hk hR hD)⟩
theorem KeepTwo.below {w w1 : World} {R D B : Nat} {w0 : World} (h : Below B w0 w) (hB : B ≤ w.heap.size) (hk : KeepTwo w w1 R D) (hR : B ≤ R) (hD : B ≤ D) : Below B w0 w1 :=
  ⟨hk.os.trans h.os, hk.tape.trans h.tape, hk.output.trans h.output, Nat.le_trans h.size hk.size, fun k hkB => (hk.block k (by omega) (by omega) (by omega)).trans (h.block k hkB)⟩
set_option maxHeartbeats 400000 in
theorem ringWrite_core (R D room i k t n bl bc : Nat) (B : Option Addr) (q buf bs : List Int) (hk : q.length = k) (w : World) (hi : i < room) (hkr : k ≤ room) (hroom : room ≤ 65536) (hbl : bs.length = bl) (hblc : bl ≤ bc) (hbl' : bl ≤ 140737488355200)
    (ht : t = (i + k) % room) (hn : n = min bl (room - k))
    (h1 : w.heap[R]? = some (.cells #[.slice (some ⟨D, 0, none⟩) room room, .int .i64 i, .int .i64 k] 83 (0, 0))) (h2 : w.heap[D]? = some (.cells (nums .u8 buf).toArray 5 (0, 0))) (h3 : buf.length = room) (h5 : Holds buf i q) (h6 : Byt buf) (h7 : D ≠ R) (hb : Byt bs) (hB : Cells w B (nums .u8 bs)) (hBR : ∀ ad, B = some ad → ad.block ≠ R ∧ ad.block ≠ D) :
    Calls Try.prog 36 #[.pointer (some ⟨R, 0, none⟩), .slice B bl bc] w fun e w' => e = .returned (.int .i64 n) ∧ RgSt w' R D room 83 5 (q ++ bs.take n) ∧ KeepTwo w w' R D := by
  have hc0 := blk_cell h1 0
  have hc1 := blk_cell h1 1
  have hc2 := blk_cell h1 2
  simp at hc0 hc1 hc2
  have HRoom := Lib.hid (ringRoom_any R D room q w ⟨buf, i, by rw [hk]; exact h1, h2, h3, hroom, h5, h6, h7⟩)
  have HRl : Hid (R < w.heap.size ∧ D < w.heap.size) := ⟨blk_lt h1, blk_lt h2⟩
  have H1 := Lib.hid h1
  have H2 := Lib.hid h2
  have H3 := Lib.hid h3
  have H5 := Lib.hid h5
  have H6 := Lib.hid h6
  have H7 := Lib.hid h7
  have HK := Lib.hid hk
  have HBl := Lib.hid hbl
  have HBy := Lib.hid hb
  have HBC := Lib.hid hB
  have HBR := Lib.hid hBR
  have HT := Lib.hid ht
  have htr : t < room := by rw [ht]; exact Nat.mod_lt _ (by omega)
  have HN := Lib.hid hn
  have hnb : n ≤ bl ∧ n ≤ room - k := by omega
  have hf2 := blk_frozen h1 2
  rw [hk] at HRoom
  have HTI : Hid (((i : Int) + k) % room = (t : Int)) := by unfold Hid; rw [ht]; simp
  clear h1 h2 h3 h5 h6 h7 hk hbl hb hB hBR ht hn
  go_enter Try.func36, Try.ntmps36
  go_upto_region 3 with (fail)
  go_cut [5] (fun v wc => v = .int .i64 n ∧ ∃ q1, wc = w.drewN q1)
  case first =>
    go_wp2_with fail
    refine HRoom.out.mono ?_
    rintro e w1 ⟨rfl, q1, rfl⟩
    have hn := HN.out
    go_wp2_with fail
    all_goals
      go_meet
      case rel => exact ⟨congrArg (fun x : Int => Value.int .i64 x) (by omega), q1, rfl⟩
  case rest =>
    obtain ⟨rfl, q1, rfl⟩ := hcut
    have hTI := HTI.out
    have hroom0 : ((room : Int) == 0) = false := by simp only [beq_eq_false_iff_ne, ne_eq]; omega
    have hroom1 : ¬ (room : Int) = 0 := by omega
    have hir0 : (0 : Int) ≤ (t : Int) := by omega
    have hir1 : (t : Int) ≤ (room : Int) := by omega
    have hir2 : ¬ room = t := by omega
    have hir3 : t ≤ room := by omega
    have hnb0 : (0 : Int) ≤ (n : Int) := by omega
    have hnb1 : (n : Int) ≤ (bc : Int) := by omega
    have hnb2 : (n : Int) ≤ (bl : Int) := by omega
    have hnb3 : n ≤ bc := by omega
    by_cases hrt : room - t < n
    · obtain ⟨k1, hk1⟩ : ∃ k1, k1 = room - t := ⟨_, rfl⟩
      have hk1m : k1 < n ∧ k1 ≤ room - t := by omega
      have HK1 : Hid (k1 = min (room - t) n) := by unfold Hid; omega
      have HK1' : Hid (k1 = Nat.min n (room - t)) := HK1.out.trans (Nat.min_comm _ _)
      clear hk1
      have hmk : ¬ bc = k1 := by omega
      have HL1 : Hid ((nums .u8 (bs.take k1)).length = k1) := by unfold Hid; rw [nums_length, List.length_take, HBl.out]; omega
      have HL2 : Hid ((nums .u8 ((bs.drop k1).take (n - k1))).length = n - k1) := by unfold Hid; rw [nums_length, List.length_take, List.length_drop, HBl.out]; omega
      have HSTEP : Hid (∀ (qq : Nat) (wa w2 : World), Hid (wa.heap[R]? = some (.cells #[.slice (some ⟨D, 0, none⟩) room room, .int .i64 i, .int .i64 k] 83 (0, 0))) → Hid (Cells wa B (nums .u8 bs)) → Hid (KeepTwo w wa R D) → (wa.drewN qq).grownBy w2 (some D) →
          w2.cell? ⟨R, 0, none⟩ = some (.slice (some ⟨D, 0, none⟩) room room) ∧ w2.cell? ⟨R, 2, none⟩ = some (.int .i64 k) ∧ w2.frozen? ⟨R, 2, none⟩ = false ∧
          Hid (w2.heap[R]? = some (.cells #[.slice (some ⟨D, 0, none⟩) room room, .int .i64 i, .int .i64 k] 83 (0, 0))) ∧ Hid (Cells w2 B (nums .u8 bs)) ∧ Hid (KeepTwo w w2 R D)) := by
        intro qq wa w2 hwa hC hK hg
        have hne : ¬ (some R = some D) := fun h => H7.out (by injection h with h; exact h.symm)
        have hH : w2.heap[R]? = some (.cells #[.slice (some ⟨D, 0, none⟩) room room, .int .i64 i, .int .i64 k] 83 (0, 0)) := (hg.block R (blk_lt hwa.out) hne).trans hwa.out
        have h0 := blk_cell hH 0
        have h2 := blk_cell hH 2
        simp at h0 h2
        exact ⟨h0, h2, blk_frozen hH 2, hH, (hC.out.drewN qq).grown hg (fun ad ha he => (HBR.out ad ha).2 (by injection he)), (hK.out.grown (grown_drewN (grown_refl wa none) qq) (.inr (.inr rfl))).grown hg (.inr (.inl rfl))⟩
      have hkK0 : (0 : Int) ≤ (k1 : Int) := by omega
      have hkK1 : (k1 : Int) ≤ (n : Int) := by omega
      have hkK2 : k1 ≤ n := by omega
      have HLm : Hid (n - k1 = Nat.min (n - k1) room) := by
        unfold Hid
        refine (Eq.symm ?_).trans (Nat.min_comm _ _)
        rw [Nat.min_eq_right (by omega)]
      have HLS : Hid ((splice (nums .u8 buf) t (nums .u8 (bs.take k1))).length = room) := by
        unfold Hid
        rw [length_splice _ _ _ (by rw [HL1.out, nums_length, H3.out]; omega), nums_length, H3.out]
      have HCD : Hid (∀ wa, Hid (Cells wa B (nums .u8 bs)) → Cells wa (B.map (·.add k1)) (nums .u8 ((bs.drop k1).take (n - k1)))) := by
        intro wa hC
        have h := hC.out.drop (size := 1) (n := bl) (c := bc) (by rw [nums_length, Nat.mul_one]; exact HBl.out) hblc k1 (by omega)
        rw [Nat.mul_one, if_neg hmk] at h
        have h2 := h.take (n - k1)
        rw [← nums_drop, ← nums_take] at h2
        exact h2
      have HKR : Hid (KeepTwo w w R D) := KeepTwo.refl w R D
      have HHW := Lib.hid (holds_write (n := n) (k1 := k1) (t := t) (bs := bs) H5.out (by rw [HK.out, H3.out]; omega) (by rw [HBl.out]; omega) (by rw [HK.out, H3.out]; exact HT.out) (by rw [H3.out]; exact HK1.out))
      have HBY2 := Lib.hid (byt_splice 0 (byt_splice t H6.out (HBy.out.take k1)) ((HBy.out.drop k1).take (n - k1)))
      go_wp2
      go_quiet (fail)
      go_wp2
      go_region_law
        (refine step_copy rfl (.tmp 35) (.tmp 38) 22 22 rfl 5 (.int .u8 0) 1 Try.underlying22 info_u8 _ _ (room - t) (room - t) n bc rfl rfl D t _ 5 H2.out (nums .u8 (bs.take k1)) ?c1 ?c0 ?c2 ?c3 (nums_one _ _) ?_
         (case c1 => rw [HL1.out]; exact HK1'.out)
         (case c0 => exact fun _ => rfl)
         (case c2 => rw [nums_take]; exact HBC.out.take _)
         (case c3 => rw [HL1.out, nums_length, H3.out]; omega)
         intro w2 hw2 hg2'
         rw [HL1.out]
         obtain ⟨hc0'', hc2', hf2', H1w2, HBC2, HK2⟩ := HSTEP.out _ w w2 H1 HBC HKR hg2'
         have HW2 := Lib.hid hw2
         clear hw2 hg2')
      all_goals
        go_wp2
        go_region_law
          (refine step_copy rfl (.tmp 43) (.tmp 47) 22 22 rfl 5 (.int .u8 0) 1 Try.underlying22 info_u8 _ _ room room (n - k1) (bc - k1) rfl rfl D 0 _ 5 HW2.out (nums .u8 ((bs.drop k1).take (n - k1))) ?d1 ?d0 ?d2 ?d3 (nums_one _ _) ?_
           (case d1 => rw [HL2.out]; exact HLm.out)
           (case d0 => exact fun _ => rfl)
           (case d2 => exact HCD.out _ HBC2)
           (case d3 => rw [HL2.out, HLS.out]; omega)
           intro w3 hw3 hg3'
           obtain ⟨hc03, hc23, hf23, H1w3, HBC3, HK3⟩ := HSTEP.out _ w2 w3 H1w2 HBC2 HK2 hg3'
           have HW3 := Lib.hid hw3
           clear hw3 hg3' hc0'' hc2' hf2' HW2)
        all_goals
          go_wp2
          go_ret
          refine ⟨rfl, ⟨splice (splice buf t (bs.take k1)) 0 ((bs.drop k1).take (n - k1)), i, ?_, ?_, HHW.out.2.trans H3.out, hroom, HHW.out.1, HBY2.out, H7.out⟩, ?_⟩
          · have h := blk_set H1w3.out 2 (.int .i64 ((k : Int) + n))
            have e : ((q ++ bs.take n).length : Int) = (k : Int) + n := by rw [List.length_append, HK.out, List.length_take, HBl.out]; omega
            rw [e]
            simpa using h
          · have h := (Below.heap_setCell w3 ⟨R, 2, none⟩ (.int .i64 ((k : Int) + n)) D (H7.out)).trans HW3.out
            have e : nums .u8 (splice (splice buf t (bs.take k1)) 0 ((bs.drop k1).take (n - k1))) = splice (splice (nums .u8 buf) t (nums .u8 (bs.take k1))) 0 (nums .u8 ((bs.drop k1).take (n - k1))) := by
              simp [splice, nums, List.map_take, List.map_drop]
            rw [e]
            exact h
          · exact HK3.out.grown (grown_setCell (p := ⟨R, 2, none⟩) (grown_refl _ (some R)) (.inr rfl) _) (.inl rfl)
    · have HK1 : Hid (n = min (room - t) n) := by unfold Hid; omega
      have HK1' : Hid (n = Nat.min n (room - t)) := HK1.out.trans (Nat.min_comm _ _)
      by_cases hmk : bc = n
      · have hk1m : n ≤ room - t := by omega
        obtain rfl : n = bc := hmk.symm
        have HL1 : Hid ((nums .u8 (bs.take n)).length = n) := by unfold Hid; rw [nums_length, List.length_take, HBl.out]; omega
        have HL2 : Hid ((nums .u8 ((bs.drop n).take (n - n))).length = n - n) := by unfold Hid; rw [nums_length, List.length_take, List.length_drop, HBl.out]; omega
        have HSTEP : Hid (∀ (qq : Nat) (wa w2 : World), Hid (wa.heap[R]? = some (.cells #[.slice (some ⟨D, 0, none⟩) room room, .int .i64 i, .int .i64 k] 83 (0, 0))) → Hid (Cells wa B (nums .u8 bs)) → Hid (KeepTwo w wa R D) → (wa.drewN qq).grownBy w2 (some D) →
            w2.cell? ⟨R, 0, none⟩ = some (.slice (some ⟨D, 0, none⟩) room room) ∧ w2.cell? ⟨R, 2, none⟩ = some (.int .i64 k) ∧ w2.frozen? ⟨R, 2, none⟩ = false ∧
            Hid (w2.heap[R]? = some (.cells #[.slice (some ⟨D, 0, none⟩) room room, .int .i64 i, .int .i64 k] 83 (0, 0))) ∧ Hid (Cells w2 B (nums .u8 bs)) ∧ Hid (KeepTwo w w2 R D)) := by
          intro qq wa w2 hwa hC hK hg
          have hne : ¬ (some R = some D) := fun h => H7.out (by injection h with h; exact h.symm)
          have hH : w2.heap[R]? = some (.cells #[.slice (some ⟨D, 0, none⟩) room room, .int .i64 i, .int .i64 k] 83 (0, 0)) := (hg.block R (blk_lt hwa.out) hne).trans hwa.out
          have h0 := blk_cell hH 0
          have h2 := blk_cell hH 2
          simp at h0 h2
          exact ⟨h0, h2, blk_frozen hH 2, hH, (hC.out.drewN qq).grown hg (fun ad ha he => (HBR.out ad ha).2 (by injection he)), (hK.out.grown (grown_drewN (grown_refl wa none) qq) (.inr (.inr rfl))).grown hg (.inr (.inl rfl))⟩
        have hkK0 : (0 : Int) ≤ (n : Int) := by omega
        have hkK1 : (n : Int) ≤ (n : Int) := by omega
        have hkK2 : n ≤ n := by omega
        have HLm : Hid (n - n = Nat.min 0 room) := by
          unfold Hid
          refine (Eq.symm ?_).trans (Nat.min_comm _ _)
          rw [Nat.min_eq_right (by omega)]; omega
        have HLS : Hid ((splice (nums .u8 buf) t (nums .u8 (bs.take n))).length = room) := by
          unfold Hid
          rw [length_splice _ _ _ (by rw [HL1.out, nums_length, H3.out]; omega), nums_length, H3.out]
        have HCD : Hid (∀ wa, Hid (Cells wa B (nums .u8 bs)) → Cells wa B (nums .u8 ((bs.drop n).take (n - n)))) := by
          intro wa hC
          have h := hC.out.drop (size := 1) (n := bl) (c := n) (by rw [nums_length, Nat.mul_one]; exact HBl.out) hblc n (by omega)
          rw [Nat.mul_one, if_pos rfl] at h
          have h2 := h.take (n - n)
          rw [← nums_drop, ← nums_take] at h2
          exact h2
        have HKR : Hid (KeepTwo w w R D) := KeepTwo.refl w R D
        have HHW := Lib.hid (holds_write (n := n) (k1 := n) (t := t) (bs := bs) H5.out (by rw [HK.out, H3.out]; omega) (by rw [HBl.out]; omega) (by rw [HK.out, H3.out]; exact HT.out) (by rw [H3.out]; exact HK1.out))
        have HBY2 := Lib.hid (byt_splice 0 (byt_splice t H6.out (HBy.out.take n)) ((HBy.out.drop n).take (n - n)))
        go_wp2
        go_quiet (fail)
        go_wp2
        go_region_law
          (refine step_copy rfl (.tmp 35) (.tmp 38) 22 22 rfl 5 (.int .u8 0) 1 Try.underlying22 info_u8 _ _ (room - t) (room - t) n n rfl rfl D t _ 5 H2.out (nums .u8 (bs.take n)) ?c1 ?c0 ?c2 ?c3 (nums_one _ _) ?_
           (case c1 => rw [HL1.out]; exact HK1'.out)
           (case c0 => exact fun _ => rfl)
           (case c2 => rw [nums_take]; exact HBC.out.take _)
           (case c3 => rw [HL1.out, nums_length, H3.out]; omega)
           intro w2 hw2 hg2'
           rw [HL1.out]
           obtain ⟨hc0'', hc2', hf2', H1w2, HBC2, HK2⟩ := HSTEP.out _ w w2 H1 HBC HKR hg2'
           have HW2 := Lib.hid hw2
           clear hw2 hg2')
        all_goals
          go_wp2
          go_region_law
            (refine step_copy rfl (.tmp 43) (.tmp 47) 22 22 rfl 5 (.int .u8 0) 1 Try.underlying22 info_u8 _ _ room room 0 0 rfl rfl D 0 _ 5 HW2.out (nums .u8 ((bs.drop n).take (n - n))) ?d1 ?d0 ?d2 ?d3 (nums_one _ _) ?_
             (case d1 => rw [HL2.out]; exact HLm.out)
             (case d0 => exact fun _ => rfl)
             (case d2 => exact HCD.out _ HBC2)
             (case d3 => rw [HL2.out, HLS.out]; omega)
             intro w3 hw3 hg3'
             obtain ⟨hc03, hc23, hf23, H1w3, HBC3, HK3⟩ := HSTEP.out _ w2 w3 H1w2 HBC2 HK2 hg3'
             have HW3 := Lib.hid hw3
             clear hw3 hg3' hc0'' hc2' hf2' HW2)
          all_goals
            go_wp2
            go_ret
            refine ⟨rfl, ⟨splice (splice buf t (bs.take n)) 0 ((bs.drop n).take (n - n)), i, ?_, ?_, HHW.out.2.trans H3.out, hroom, HHW.out.1, HBY2.out, H7.out⟩, ?_⟩
            · have h := blk_set H1w3.out 2 (.int .i64 ((k : Int) + n))
              have e : ((q ++ bs.take n).length : Int) = (k : Int) + n := by rw [List.length_append, HK.out, List.length_take, HBl.out]; omega
              rw [e]
              simpa using h
            · have h := (Below.heap_setCell w3 ⟨R, 2, none⟩ (.int .i64 ((k : Int) + n)) D (H7.out)).trans HW3.out
              have e : nums .u8 (splice (splice buf t (bs.take n)) 0 ((bs.drop n).take (n - n))) = splice (splice (nums .u8 buf) t (nums .u8 (bs.take n))) 0 (nums .u8 ((bs.drop n).take (n - n))) := by
                simp [splice, nums, List.map_take, List.map_drop]
              rw [e]
              exact h
            · exact HK3.out.grown (grown_setCell (p := ⟨R, 2, none⟩) (grown_refl _ (some R)) (.inr rfl) _) (.inl rfl)
      · have hk1m : n ≤ room - t := by omega
        have HL1 : Hid ((nums .u8 (bs.take n)).length = n) := by unfold Hid; rw [nums_length, List.length_take, HBl.out]; omega
        have HL2 : Hid ((nums .u8 ((bs.drop n).take (n - n))).length = n - n) := by unfold Hid; rw [nums_length, List.length_take, List.length_drop, HBl.out]; omega
        have HSTEP : Hid (∀ (qq : Nat) (wa w2 : World), Hid (wa.heap[R]? = some (.cells #[.slice (some ⟨D, 0, none⟩) room room, .int .i64 i, .int .i64 k] 83 (0, 0))) → Hid (Cells wa B (nums .u8 bs)) → Hid (KeepTwo w wa R D) → (wa.drewN qq).grownBy w2 (some D) →
            w2.cell? ⟨R, 0, none⟩ = some (.slice (some ⟨D, 0, none⟩) room room) ∧ w2.cell? ⟨R, 2, none⟩ = some (.int .i64 k) ∧ w2.frozen? ⟨R, 2, none⟩ = false ∧
            Hid (w2.heap[R]? = some (.cells #[.slice (some ⟨D, 0, none⟩) room room, .int .i64 i, .int .i64 k] 83 (0, 0))) ∧ Hid (Cells w2 B (nums .u8 bs)) ∧ Hid (KeepTwo w w2 R D)) := by
          intro qq wa w2 hwa hC hK hg
          have hne : ¬ (some R = some D) := fun h => H7.out (by injection h with h; exact h.symm)
          have hH : w2.heap[R]? = some (.cells #[.slice (some ⟨D, 0, none⟩) room room, .int .i64 i, .int .i64 k] 83 (0, 0)) := (hg.block R (blk_lt hwa.out) hne).trans hwa.out
          have h0 := blk_cell hH 0
          have h2 := blk_cell hH 2
          simp at h0 h2
          exact ⟨h0, h2, blk_frozen hH 2, hH, (hC.out.drewN qq).grown hg (fun ad ha he => (HBR.out ad ha).2 (by injection he)), (hK.out.grown (grown_drewN (grown_refl wa none) qq) (.inr (.inr rfl))).grown hg (.inr (.inl rfl))⟩
        have hkK0 : (0 : Int) ≤ (n : Int) := by omega
        have hkK1 : (n : Int) ≤ (n : Int) := by omega
        have hkK2 : n ≤ n := by omega
        have HLm : Hid (n - n = Nat.min 0 room) := by
          unfold Hid
          refine (Eq.symm ?_).trans (Nat.min_comm _ _)
          rw [Nat.min_eq_right (by omega)]; omega
        have HLS : Hid ((splice (nums .u8 buf) t (nums .u8 (bs.take n))).length = room) := by
          unfold Hid
          rw [length_splice _ _ _ (by rw [HL1.out, nums_length, H3.out]; omega), nums_length, H3.out]
        have HCD : Hid (∀ wa, Hid (Cells wa B (nums .u8 bs)) → Cells wa (B.map (·.add n)) (nums .u8 ((bs.drop n).take (n - n)))) := by
          intro wa hC
          have h := hC.out.drop (size := 1) (n := bl) (c := bc) (by rw [nums_length, Nat.mul_one]; exact HBl.out) hblc n (by omega)
          rw [Nat.mul_one, if_neg hmk] at h
          have h2 := h.take (n - n)
          rw [← nums_drop, ← nums_take] at h2
          exact h2
        have HKR : Hid (KeepTwo w w R D) := KeepTwo.refl w R D
        have HHW := Lib.hid (holds_write (n := n) (k1 := n) (t := t) (bs := bs) H5.out (by rw [HK.out, H3.out]; omega) (by rw [HBl.out]; omega) (by rw [HK.out, H3.out]; exact HT.out) (by rw [H3.out]; exact HK1.out))
        have HBY2 := Lib.hid (byt_splice 0 (byt_splice t H6.out (HBy.out.take n)) ((HBy.out.drop n).take (n - n)))
        go_wp2
        go_quiet (fail)
        go_wp2
        go_region_law
          (refine step_copy rfl (.tmp 35) (.tmp 38) 22 22 rfl 5 (.int .u8 0) 1 Try.underlying22 info_u8 _ _ (room - t) (room - t) n bc rfl rfl D t _ 5 H2.out (nums .u8 (bs.take n)) ?c1 ?c0 ?c2 ?c3 (nums_one _ _) ?_
           (case c1 => rw [HL1.out]; exact HK1'.out)
           (case c0 => exact fun _ => rfl)
           (case c2 => rw [nums_take]; exact HBC.out.take _)
           (case c3 => rw [HL1.out, nums_length, H3.out]; omega)
           intro w2 hw2 hg2'
           rw [HL1.out]
           obtain ⟨hc0'', hc2', hf2', H1w2, HBC2, HK2⟩ := HSTEP.out _ w w2 H1 HBC HKR hg2'
           have HW2 := Lib.hid hw2
           clear hw2 hg2')
        all_goals
          go_wp2
          go_region_law
            (refine step_copy rfl (.tmp 43) (.tmp 47) 22 22 rfl 5 (.int .u8 0) 1 Try.underlying22 info_u8 _ _ room room 0 (bc - n) rfl rfl D 0 _ 5 HW2.out (nums .u8 ((bs.drop n).take (n - n))) ?d1 ?d0 ?d2 ?d3 (nums_one _ _) ?_
             (case d1 => rw [HL2.out]; exact HLm.out)
             (case d0 => exact fun _ => rfl)
             (case d2 => exact HCD.out _ HBC2)
             (case d3 => rw [HL2.out, HLS.out]; omega)
             intro w3 hw3 hg3'
             obtain ⟨hc03, hc23, hf23, H1w3, HBC3, HK3⟩ := HSTEP.out _ w2 w3 H1w2 HBC2 HK2 hg3'
             have HW3 := Lib.hid hw3
             clear hw3 hg3' hc0'' hc2' hf2' HW2)
          all_goals
            go_wp2
            go_ret
            refine ⟨rfl, ⟨splice (splice buf t (bs.take n)) 0 ((bs.drop n).take (n - n)), i, ?_, ?_, HHW.out.2.trans H3.out, hroom, HHW.out.1, HBY2.out, H7.out⟩, ?_⟩
            · have h := blk_set H1w3.out 2 (.int .i64 ((k : Int) + n))
              have e : ((q ++ bs.take n).length : Int) = (k : Int) + n := by rw [List.length_append, HK.out, List.length_take, HBl.out]; omega
              rw [e]
              simpa using h
            · have h := (Below.heap_setCell w3 ⟨R, 2, none⟩ (.int .i64 ((k : Int) + n)) D (H7.out)).trans HW3.out
              have e : nums .u8 (splice (splice buf t (bs.take n)) 0 ((bs.drop n).take (n - n))) = splice (splice (nums .u8 buf) t (nums .u8 (bs.take n))) 0 (nums .u8 ((bs.drop n).take (n - n))) := by
                simp [splice, nums, List.map_take, List.map_drop]
              rw [e]
              exact h
            · exact HK3.out.grown (grown_setCell (p := ⟨R, 2, none⟩) (grown_refl _ (some R)) (.inr rfl) _) (.inl rfl)
end Go.Proofs.Ythlfdckcnpnemaa
