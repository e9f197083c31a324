/-
  The reference's Echo. Conditions: data are no longer than the model's memory.
-/
import Derived.Test.YtodibldfolognaaLcI
namespace Go.Proofs.Ytodibldfolognaa
open Go.RowKit
set_option linter.unusedVariables false
set_option linter.unusedSimpArgs false

set_option maxRecDepth 100000 in
set_option maxHeartbeats 4000000 in
theorem recho_any (code id mru accm auth mm : Int) (b1 b2 : Bool) (A : Option Addr) (n c : Nat) (xs : List Int) (hm0 : 0 ≤ mm) (hm1 : mm < 4294967296) (hn : xs.length = n) (hnc : n ≤ c) (hb : Byt xs) (w : World) (hx : Cells w A (nums .u8 xs)) :
    Calls Try.prog 20 #[.agg #[.int .i64 code, .int .i64 id, .slice A n c], .agg #[.int .i64 mru, .int .i64 accm, .int .i64 auth, .int .u32 mm, .bool b1, .bool b2]] w (EchoTells (echoF code id xs mm) w) := by
  have Hn := Lib.hid hn
  have HX := Lib.hid hx
  have HB := Lib.hid hb
  clear hn hx hb
  by_cases h4 : n < 4
  · have HR : Hid (echoF code id xs mm = (((0, 0), []), false, 8)) := by unfold Hid echoF; rw [if_pos (by rw [Hn.out]; exact h4)]
    have h4I : (n : Int) < 4 := by omega
    clear h4
    go_enter Try.func20, Try.ntmps20
    go_wp2
    refine bodyPost_ret (results_cell_row3 Try.results20 _ _ (w.heap.size + 2) 43 #[.int .i64 0, .int .i64 0, .slice none 0 0] (0, 0) _ (.bool false) (.int .i64 8) rfl rfl rfl (at_new1 (by simp)) Try.underlying43 rfl (by kernel_rfl)) rfl ?_
    rw [HR.out]
    exact ⟨none, 0, rfl, own_nil _ _ _ _, Ext.out⟩
  have h4I : ¬ (n : Int) < 4 := by omega
  by_cases h9 : code < 9 ∨ 12 < code
  · have HR : Hid (echoF code id xs mm = (((0, 0), []), false, 90)) := by unfold Hid echoF; rw [if_neg (by rw [Hn.out]; exact h4), if_pos h9]
    rcases h9 with h9 | h9
    · obtain ⟨k9, k10, k11, k12⟩ : (code != 9) = true ∧ (code != 10) = true ∧ (code != 11) = true ∧ (code != 12) = true := by simp; omega
      go_enter Try.func20, Try.ntmps20
      go_wp2
      refine bodyPost_ret (results_cell_row3 Try.results20 _ _ (w.heap.size + 2) 43 #[.int .i64 0, .int .i64 0, .slice none 0 0] (0, 0) _ (.bool false) (.int .i64 90) rfl rfl rfl (at_new1 (by simp)) Try.underlying43 rfl (by kernel_rfl)) rfl ?_
      rw [HR.out]
      exact ⟨none, 0, rfl, own_nil _ _ _ _, Ext.out⟩
    · obtain ⟨k9, k10, k11, k12⟩ : (code != 9) = true ∧ (code != 10) = true ∧ (code != 11) = true ∧ (code != 12) = true := by simp; omega
      go_enter Try.func20, Try.ntmps20
      go_wp2
      refine bodyPost_ret (results_cell_row3 Try.results20 _ _ (w.heap.size + 2) 43 #[.int .i64 0, .int .i64 0, .slice none 0 0] (0, 0) _ (.bool false) (.int .i64 90) rfl rfl rfl (at_new1 (by simp)) Try.underlying43 rfl (by kernel_rfl)) rfl ?_
      rw [HR.out]
      exact ⟨none, 0, rfl, own_nil _ _ _ _, Ext.out⟩
  have HL4 : Hid ((xs.take 4).length = 4) := by unfold Hid; rw [List.length_take, Hn.out]; omega
  have HB4 : Hid (Byt (xs.take 4)) := HB.out.take 4
  have hbd := numF_bd (xs.take 4)
  have hb7 : numF (xs.take 4) < 4294967296 := by
    have h1 := numF_getN HB4.out (by rw [HL4.out]; omega) 4 (by rw [HL4.out]; omega)
    have h3 := getN_bound 4 (xs.take 4) HB4.out (by rw [HL4.out]; omega)
    rw [List.take_of_length_le (by rw [HL4.out]; omega)] at h1
    rw [h1]
    exact h3.2
  obtain ⟨N, hN⟩ : ∃ N, numF (xs.take 4) = N := ⟨_, rfl⟩
  have HNN := Lib.hid hN
  rw [hN] at hbd hb7
  have hb8 := hbd.1
  have hwN : IntKind.u32.wrap N = N := by rw [IntKind.wrap_u32]; omega
  have hwM : IntKind.u64.wrap mm = mm := by rw [IntKind.wrap_u64]; omega
  have hcI : (4 : Int) ≤ (c : Int) := by omega
  have hc4 : 4 ≤ c := by omega
  have h9a : ¬ code < 9 := by omega
  have h9b : ¬ 12 < code := by omega
  have HE0 : Hid (echoF code id xs mm = if mm ≠ 0 ∧ N = mm then (((0, 0), []), false, 0) else if code ≠ 9 then (((0, 0), []), true, 0)
      else (((replyF 10 id mm (xs.drop 4)).1, (replyF 10 id mm (xs.drop 4)).2.1), (replyF 10 id mm (xs.drop 4)).2.2 == 0, (replyF 10 id mm (xs.drop 4)).2.2)) := by
    unfold Hid echoF
    rw [if_neg (by rw [Hn.out]; exact h4), if_neg h9, HNN.out]
  clear hN hbd h4
  rcases (show code = 9 ∨ code = 10 ∨ code = 11 ∨ code = 12 by omega) with rfl | rfl | rfl | rfl
  · clear h9 h9a h9b
    by_cases hy : mm ≠ 0 ∧ N = mm
    · skip
      have HR : Hid (echoF 9 id xs mm = (((0, 0), []), false, 0)) := by unfold Hid; rw [HE0.out, if_pos hy]
      have hz1 : (mm != 0) = true := by simpa using hy.1
      have hz2 : (N == mm) = true := by simpa using hy.2
      clear hy
      have HZP : Hid ((((w.alloc (.cells #[.int .i64 9, .int .i64 id, .slice A n c] 43)).alloc (.cells #[.int .i64 mru, .int .i64 accm, .int .i64 auth, .int .u32 mm, .bool b1, .bool b2] 28)).alloc zPk).heap[w.heap.size + 2]? = some zPk) := at_new1 (by simp)
      have HPK : Hid ((((w.alloc (.cells #[.int .i64 9, .int .i64 id, .slice A n c] 43)).alloc (.cells #[.int .i64 mru, .int .i64 accm, .int .i64 auth, .int .u32 mm, .bool b1, .bool b2] 28)).alloc zPk).heap[w.heap.size]? = some (.cells #[.int .i64 9, .int .i64 id, .slice A n c] 43 (0, 0))) := at_ext (at_new w _)
      have HOP : Hid ((((w.alloc (.cells #[.int .i64 9, .int .i64 id, .slice A n c] 43)).alloc (.cells #[.int .i64 mru, .int .i64 accm, .int .i64 auth, .int .u32 mm, .bool b1, .bool b2] 28)).alloc zPk).heap[w.heap.size + 1]? = some (.cells #[.int .i64 mru, .int .i64 accm, .int .i64 auth, .int .u32 mm, .bool b1, .bool b2] 28 (0, 0))) := at_ext (w := (w.alloc (.cells #[.int .i64 9, .int .i64 id, .slice A n c] 43)).alloc (.cells #[.int .i64 mru, .int .i64 accm, .int .i64 auth, .int .u32 mm, .bool b1, .bool b2] 28)) (at_new1 (by simp))
      go_enter Try.func20, Try.ntmps20
      go_wp2
      have HW0 : Hid (Ext w (((w.alloc (.cells #[.int .i64 9, .int .i64 id, .slice A n c] 43)).alloc (.cells #[.int .i64 mru, .int .i64 accm, .int .i64 auth, .int .u32 mm, .bool b1, .bool b2] 28)).alloc zPk)) := inferInstanceAs (Ext w _)
      obtain ⟨w0, hw0⟩ : ∃ w0, ((w.alloc (.cells #[.int .i64 9, .int .i64 id, .slice A n c] 43)).alloc (.cells #[.int .i64 mru, .int .i64 accm, .int .i64 auth, .int .u32 mm, .bool b1, .bool b2] 28)).alloc zPk = w0 := ⟨_, rfl⟩
      rw [hw0] at HPK HOP HW0 HZP
      have pk2 : w0.cell? ⟨w.heap.size, 2, none⟩ = some (.slice A n c) := at_cell HPK.out 2
      have op3 : w0.cell? ⟨w.heap.size + 1, 3, none⟩ = some (.int .u32 mm) := at_cell HOP.out 3
      have Y0 : Ext w w0 := HW0.out
      try rw [hw0]
      refine wp_region_held_drew (S := fun W => Ext w0 W) (by kernel_rfl) (by exact inferInstance) (fun hHeld => ?_)
      refine wpAnyH_take (i := 0) (v := ?_) rfl (by kernel_rfl) (by kernel_rfl) (by kernel_rfl) (fun _ _ _ h => h) (Yields.yieldsIf (Or.inl ⟨by rfl, ?_⟩)) hHeld ?_
      rotate_left
      · intro W
        go_simp
        try with_reducible rfl
      simp only [List.getElem_toArray, List.getElem_cons_succ, List.getElem_cons_zero, Act.put, List.setIfInBounds_toArray, List.set_cons_zero, List.set_cons_succ]
      refine wpAnyH_take (i := 1) (v := ?_) rfl (by kernel_rfl) (by kernel_rfl) (by kernel_rfl) (fun _ _ _ h => h) (Or.inl ⟨by rfl, ?_⟩) hHeld ?_
      rotate_left
      · intro W hW
        have hcl := (cell_ext (h := hW) op3)
        go_simp
        try with_reducible rfl
      simp only [List.getElem_toArray, List.getElem_cons_succ, List.getElem_cons_zero, Act.put, List.setIfInBounds_toArray, List.set_cons_zero, List.set_cons_succ]
      refine wpAnyH_take (i := 2) (v := ?_) rfl (by kernel_rfl) (by kernel_rfl) (by kernel_rfl) (fun _ _ _ h => h) (Yields.yieldsIf (Or.inl ⟨by rfl, ?_⟩)) hHeld ?_
      rotate_left
      · intro W
        go_simp
        try with_reducible rfl
      simp only [List.getElem_toArray, List.getElem_cons_succ, List.getElem_cons_zero, Act.put, List.setIfInBounds_toArray, List.set_cons_zero, List.set_cons_succ]
      refine wpAnyH_take (i := 3) (v := ?_) rfl (by kernel_rfl) (by kernel_rfl) (by kernel_rfl) (fun _ _ _ h => h) (Yields.yieldsIf (Or.inl ⟨by rfl, ?_⟩)) hHeld ?_
      rotate_left
      · intro W
        go_simp
        try with_reducible rfl
      simp only [List.getElem_toArray, List.getElem_cons_succ, List.getElem_cons_zero, Act.put, List.setIfInBounds_toArray, List.set_cons_zero, List.set_cons_succ]
      refine wpAnyH_take (i := 4) (v := ?_) rfl (by kernel_rfl) (by kernel_rfl) (by kernel_rfl) (fun _ _ _ h => h) (Yields.yieldsIf (Or.inl ⟨by rfl, ?_⟩)) hHeld ?_
      rotate_left
      · intro W
        go_simp
        try with_reducible rfl
      simp only [List.getElem_toArray, List.getElem_cons_succ, List.getElem_cons_zero, Act.put, List.setIfInBounds_toArray, List.set_cons_zero, List.set_cons_succ]
      refine wpAnyH_take (i := 5) (v := ?_) rfl (by kernel_rfl) (by kernel_rfl) (by kernel_rfl) (fun _ _ _ h => h) (Or.inl ⟨by rfl, ?_⟩) hHeld ?_
      rotate_left
      · intro W hW
        have hcl := (cell_ext (h := hW) pk2)
        go_simp
        try with_reducible rfl
      simp only [List.getElem_toArray, List.getElem_cons_succ, List.getElem_cons_zero, Act.put, List.setIfInBounds_toArray, List.set_cons_zero, List.set_cons_succ]
      refine wpAnyH_take (i := 6) (v := ?_) rfl (by kernel_rfl) (by kernel_rfl) (by kernel_rfl) (fun _ _ _ h => h) (Yields.yieldsIf (Or.inl ⟨by rfl, ?_⟩)) hHeld ?_
      rotate_left
      · intro W
        go_simp
        try with_reducible rfl
      simp only [List.getElem_toArray, List.getElem_cons_succ, List.getElem_cons_zero, Act.put, List.setIfInBounds_toArray, List.set_cons_zero, List.set_cons_succ]
      refine wpAnyH_take (i := 8) (v := ?_) rfl (by kernel_rfl) (by kernel_rfl) (by kernel_rfl) (fun _ _ _ h => h) (Yields.yieldsIf (Or.inl ⟨by rfl, ?_⟩)) hHeld ?_
      rotate_left
      · intro W
        go_simp
        try with_reducible rfl
      simp only [List.getElem_toArray, List.getElem_cons_succ, List.getElem_cons_zero, Act.put, List.setIfInBounds_toArray, List.set_cons_zero, List.set_cons_succ]
      refine wpAnyH_take (i := 9) (v := ?_) rfl (by kernel_rfl) (by kernel_rfl) (by kernel_rfl) (fun _ _ _ h => h) (Or.inl ⟨by rfl, ?_⟩) hHeld ?_
      rotate_left
      · intro W hW
        have hcl := (cell_ext (h := hW) op3)
        go_simp
        try with_reducible rfl
      simp only [List.getElem_toArray, List.getElem_cons_succ, List.getElem_cons_zero, Act.put, List.setIfInBounds_toArray, List.set_cons_zero, List.set_cons_succ]
      refine wpAnyH_take (i := 10) (v := ?_) rfl (by kernel_rfl) (by kernel_rfl) (by kernel_rfl) (fun _ _ _ h => h) (Yields.yieldsIf (Or.inl ⟨by rfl, ?_⟩)) hHeld ?_
      rotate_left
      · intro W
        go_simp
        try with_reducible rfl
      simp only [List.getElem_toArray, List.getElem_cons_succ, List.getElem_cons_zero, Act.put, List.setIfInBounds_toArray, List.set_cons_zero, List.set_cons_succ]
      have HQ : Calls Try.prog 90 #[.slice A 4 c] w0.drew fun e w' => e = .returned (.int .u64 N) ∧ w0.drew = w' := by
        have h1 := rnumber_any A 4 c (xs.take 4) HL4.out (by omega) HB4.out w0.drew (by rw [nums_take]; exact (HX.out.take 4).ext)
        rw [HNN.out] at h1
        exact h1
      refine wpAnyH_ready (rs := [7]) (by kernel_rfl) (by simp) ?_
      refine AllReadyH.cons rfl (fun K hK => ?_) AllReadyH.nil
      refine step_call_w (by rfl) Try.func90 (by kernel_rfl) (by kernel_rfl) #[.tmp 39] #[41] rfl #[.slice A 4 c] ?hv HQ ?_
      case hv => go_simp
      rintro e wq ⟨rfl, rfl⟩
      refine ⟨_, rfl, ?_⟩
      clear hHeld HQ
      refine hK.out _ _ (by exact inferInstance) (fun hHeld => ?_)
      clear hK K
      simp only [List.getElem_toArray, List.getElem_cons_succ, List.getElem_cons_zero, Act.put, List.setIfInBounds_toArray, List.set_cons_zero, List.set_cons_succ]
      refine wpAnyH_take (i := 11) (v := ?_) rfl (by kernel_rfl) (by kernel_rfl) (by kernel_rfl) (fun _ _ _ h => h) (Yields.yieldsIf (Or.inl ⟨by rfl, ?_⟩)) hHeld ?_
      rotate_left
      · intro W
        go_simp
        try with_reducible rfl
      simp only [List.getElem_toArray, List.getElem_cons_succ, List.getElem_cons_zero, Act.put, List.setIfInBounds_toArray, List.set_cons_zero, List.set_cons_succ]
      refine wpAnyH_take (i := 12) (v := ?_) rfl (by kernel_rfl) (by kernel_rfl) (by kernel_rfl) (fun _ _ _ h => h) (Yields.yieldsIf (Or.inl ⟨by rfl, ?_⟩)) hHeld ?_
      rotate_left
      · intro W
        go_simp
        try with_reducible rfl
      simp only [List.getElem_toArray, List.getElem_cons_succ, List.getElem_cons_zero, Act.put, List.setIfInBounds_toArray, List.set_cons_zero, List.set_cons_succ]
      refine wpAnyH_done (by kernel_rfl) ?_ _
      clear hHeld
      obtain ⟨wd, hwd⟩ : ∃ wd, w0.drew = wd := ⟨_, rfl⟩
      have Yd : Ext w0 wd := by rw [← hwd]; exact inferInstance
      have YW : Ext w wd := Ext.trans_ Y0 Yd
      have HPd := Lib.hid (at_ext (w' := wd) HPK.out)
      have HOd := Lib.hid (at_ext (w' := wd) HOP.out)
      rw [hwd]
      clear hwd pk2 op3
      have pk0 : wd.cell? ⟨w.heap.size, 0, none⟩ = some (.int .i64 9) := at_cell HPd.out 0
      have pk1 : wd.cell? ⟨w.heap.size, 1, none⟩ = some (.int .i64 id) := at_cell HPd.out 1
      have pk2 : wd.cell? ⟨w.heap.size, 2, none⟩ = some (.slice A n c) := at_cell HPd.out 2
      have op3 : wd.cell? ⟨w.heap.size + 1, 3, none⟩ = some (.int .u32 mm) := at_cell HOd.out 3
      have HZDD : Hid (wd.heap[w.heap.size + 2]? = some zPk) := at_ext HZP.out
      go_wp2_with
        (first
         | (refine wpList_store_row rfl 43 (.tmp 4) (.tmp 46) rfl (w.heap.size + 2) #[.int .i64 0, .int .i64 0, .slice none 0 0] rfl rfl 43 #[.int .i64 0, .int .i64 0, .slice none 0 0] HZDD.out (by kernel_rfl) rfl (by simp [Value.oneCell']) ?_))
      refine bodyPost_ret (results_cell_row3 Try.results20 _ _ (w.heap.size + 2) 43 #[.int .i64 0, .int .i64 0, .slice none 0 0] (0, 0) _ (.bool false) (.int .i64 0) rfl rfl rfl (setRow_heap _ _ _ _ _ _ HZDD.out) Try.underlying43 rfl (by kernel_rfl)) rfl ?_
      rw [HR.out]
      exact ⟨none, 0, rfl, own_nil _ _ _ _, (Ext.setRow_ YW (by omega) _).out⟩
    · by_cases hz : mm = 0
      · subst hz
        have HR0 : Hid (echoF 9 id xs 0 = (((replyF 10 id 0 (xs.drop 4)).1, (replyF 10 id 0 (xs.drop 4)).2.1), (replyF 10 id 0 (xs.drop 4)).2.2 == 0, (replyF 10 id 0 (xs.drop 4)).2.2)) := HE0.out.trans ((if_neg hy).trans (if_neg (by decide)))
        have h4n : (4 : Int) ≤ (n : Int) := by omega
        have h4n' : 4 ≤ n := by omega
        clear hy
        have HZP : Hid ((((w.alloc (.cells #[.int .i64 9, .int .i64 id, .slice A n c] 43)).alloc (.cells #[.int .i64 mru, .int .i64 accm, .int .i64 auth, .int .u32 0, .bool b1, .bool b2] 28)).alloc zPk).heap[w.heap.size + 2]? = some zPk) := at_new1 (by simp)
        have HPK : Hid ((((w.alloc (.cells #[.int .i64 9, .int .i64 id, .slice A n c] 43)).alloc (.cells #[.int .i64 mru, .int .i64 accm, .int .i64 auth, .int .u32 0, .bool b1, .bool b2] 28)).alloc zPk).heap[w.heap.size]? = some (.cells #[.int .i64 9, .int .i64 id, .slice A n c] 43 (0, 0))) := at_ext (at_new w _)
        have HOP : Hid ((((w.alloc (.cells #[.int .i64 9, .int .i64 id, .slice A n c] 43)).alloc (.cells #[.int .i64 mru, .int .i64 accm, .int .i64 auth, .int .u32 0, .bool b1, .bool b2] 28)).alloc zPk).heap[w.heap.size + 1]? = some (.cells #[.int .i64 mru, .int .i64 accm, .int .i64 auth, .int .u32 0, .bool b1, .bool b2] 28 (0, 0))) := at_ext (w := (w.alloc (.cells #[.int .i64 9, .int .i64 id, .slice A n c] 43)).alloc (.cells #[.int .i64 mru, .int .i64 accm, .int .i64 auth, .int .u32 0, .bool b1, .bool b2] 28)) (at_new1 (by simp))
        go_enter Try.func20, Try.ntmps20
        go_wp2
        go_quiet (fail)
        obtain ⟨wd, hwd⟩ : ∃ wd, World.drewN (((w.alloc (.cells #[.int .i64 9, .int .i64 id, .slice A n c] 43)).alloc (.cells #[.int .i64 mru, .int .i64 accm, .int .i64 auth, .int .u32 0, .bool b1, .bool b2] 28)).alloc zPk) nq = wd := ⟨_, rfl⟩
        have YW : Ext w wd := by rw [← hwd]; exact inferInstance
        have Yd : Ext (((w.alloc (.cells #[.int .i64 9, .int .i64 id, .slice A n c] 43)).alloc (.cells #[.int .i64 mru, .int .i64 accm, .int .i64 auth, .int .u32 0, .bool b1, .bool b2] 28)).alloc zPk) wd := by rw [← hwd]; exact inferInstance
        have HPd := Lib.hid (at_ext (w' := wd) HPK.out)
        have HOd := Lib.hid (at_ext (w' := wd) HOP.out)
        have HZDD : Hid (wd.heap[w.heap.size + 2]? = some zPk) := at_ext HZP.out
        try rw [hwd]
        clear hwd
        have pk0 : wd.cell? ⟨w.heap.size, 0, none⟩ = some (.int .i64 9) := at_cell HPd.out 0
        have pk1 : wd.cell? ⟨w.heap.size, 1, none⟩ = some (.int .i64 id) := at_cell HPd.out 1
        have pk2 : wd.cell? ⟨w.heap.size, 2, none⟩ = some (.slice A n c) := at_cell HPd.out 2
        have op3 : wd.cell? ⟨w.heap.size + 1, 3, none⟩ = some (.int .u32 0) := at_cell HOd.out 3
        by_cases hc44 : c = 4
        · obtain ⟨ad, rfl, _⟩ := HX.out (by rw [nums_length, Hn.out]; omega)
          have hn44 : n = 4 := by omega
          subst hc44
          subst hn44
          have HDC : Hid (Cells w (some ad) (nums .u8 (xs.drop 4))) := by
            have h1 := HX.out.drop (n := 4) (c := 4) (size := 1) (by rw [nums_length, Nat.mul_one, Hn.out]) hnc 4 h4n'
            rw [if_pos rfl, Nat.mul_one, ← nums_drop] at h1
            exact h1
          go_wp2
          obtain ⟨⟨⟨ra, rb⟩, rd, re⟩, hrr⟩ : ∃ r, replyF 10 id 0 (xs.drop 4) = r := ⟨_, rfl⟩
          have HRR := Lib.hid hrr
          have HRF : Hid (echoF 9 id xs 0 = (((ra, rb), rd), re == 0, re)) := by unfold Hid; rw [HR0.out, hrr]
          have HDL : Hid ((xs.drop 4).length = 0) := by unfold Hid; rw [List.length_drop, Hn.out]
          have HZd : Hid (wd.heap[w.heap.size + 2]? = some zPk) := HZDD.out
          clear hrr
          refine wp_region_held_drew (S := fun W => Ext wd W) (by kernel_rfl) (by exact inferInstance) (fun hHeld => ?_)
          refine wpAnyH_take (i := 0) (v := ?_) rfl (by kernel_rfl) (by kernel_rfl) (by kernel_rfl) (fun _ _ _ h => h) (Yields.yieldsIf (Or.inl ⟨by rfl, ?_⟩)) hHeld ?_
          rotate_left
          · intro W
            go_simp
            try with_reducible rfl
          simp only [List.getElem_toArray, List.getElem_cons_succ, List.getElem_cons_zero, Act.put, List.setIfInBounds_toArray, List.set_cons_zero, List.set_cons_succ]
          refine wpAnyH_take (i := 1) (v := ?_) rfl (by kernel_rfl) (by kernel_rfl) (by kernel_rfl) (fun _ _ _ h => h) (Or.inl ⟨by rfl, ?_⟩) hHeld ?_
          rotate_left
          · intro W hW
            have hcl := (cell_ext (h := hW) pk1)
            go_simp
            try with_reducible rfl
          simp only [List.getElem_toArray, List.getElem_cons_succ, List.getElem_cons_zero, Act.put, List.setIfInBounds_toArray, List.set_cons_zero, List.set_cons_succ]
          refine wpAnyH_take (i := 2) (v := ?_) rfl (by kernel_rfl) (by kernel_rfl) (by kernel_rfl) (fun _ _ _ h => h) (Yields.yieldsIf (Or.inl ⟨by rfl, ?_⟩)) hHeld ?_
          rotate_left
          · intro W
            go_simp
            try with_reducible rfl
          simp only [List.getElem_toArray, List.getElem_cons_succ, List.getElem_cons_zero, Act.put, List.setIfInBounds_toArray, List.set_cons_zero, List.set_cons_succ]
          refine wpAnyH_take (i := 3) (v := ?_) rfl (by kernel_rfl) (by kernel_rfl) (by kernel_rfl) (fun _ _ _ h => h) (Or.inl ⟨by rfl, ?_⟩) hHeld ?_
          rotate_left
          · intro W hW
            have hcl := (cell_ext (h := hW) op3)
            go_simp
            try with_reducible rfl
          simp only [List.getElem_toArray, List.getElem_cons_succ, List.getElem_cons_zero, Act.put, List.setIfInBounds_toArray, List.set_cons_zero, List.set_cons_succ]
          refine wpAnyH_take (i := 4) (v := ?_) rfl (by kernel_rfl) (by kernel_rfl) (by kernel_rfl) (fun _ _ _ h => h) (Yields.yieldsIf (Or.inl ⟨by rfl, ?_⟩)) hHeld ?_
          rotate_left
          · intro W
            go_simp
            try with_reducible rfl
          simp only [List.getElem_toArray, List.getElem_cons_succ, List.getElem_cons_zero, Act.put, List.setIfInBounds_toArray, List.set_cons_zero, List.set_cons_succ]
          refine wpAnyH_take (i := 5) (v := ?_) rfl (by kernel_rfl) (by kernel_rfl) (by kernel_rfl) (fun _ _ _ h => h) (Or.inl ⟨by rfl, ?_⟩) hHeld ?_
          rotate_left
          · intro W hW
            have hcl := (cell_ext (h := hW) pk2)
            go_simp
            try with_reducible rfl
          simp only [List.getElem_toArray, List.getElem_cons_succ, List.getElem_cons_zero, Act.put, List.setIfInBounds_toArray, List.set_cons_zero, List.set_cons_succ]
          refine wpAnyH_take (i := 6) (v := ?_) rfl (by kernel_rfl) (by kernel_rfl) (by kernel_rfl) (fun _ _ _ h => h) (Yields.yieldsIf (Or.inl ⟨by rfl, ?_⟩)) hHeld ?_
          rotate_left
          · intro W
            go_simp
            try with_reducible rfl
          simp only [List.getElem_toArray, List.getElem_cons_succ, List.getElem_cons_zero, Act.put, List.setIfInBounds_toArray, List.set_cons_zero, List.set_cons_succ]
          refine wpAnyH_ready (rs := [7, 11]) (by kernel_rfl) (by simp) ?_
          refine AllReadyH.cons rfl (fun K hK => ?_) (AllReadyH.cons rfl (fun K hK => ?_) AllReadyH.nil)
          · refine step_call_w (by rfl) Try.func24 (by kernel_rfl) (by kernel_rfl) #[.const (.int .i64 10), .tmp 53, .tmp 55, .tmp 58] #[3, 3, 26, 41] rfl #[.int .i64 10, .int .i64 id, .int .u32 0, .slice (some ad) 0 0] ?hv (rreply_any 10 id 0 (some ad) 0 0 (xs.drop 4) hm0 hm1 HDL.out _ (by exact HDC.out.ext)) ?_
            case hv => go_simp
            rintro e w3 ⟨A3, c3, rfl, ho3, hb3⟩
            refine ⟨_, rfl, ?_⟩
            rw [HRR.out] at ho3 ⊢
            simp only at ho3 ⊢
            have S3 : Step w3 wd.drew := ⟨hb3⟩
            have X3 : Ext wd w3 := inferInstance
            have HO3 := Lib.hid ho3
            clear hb3 ho3 hHeld
            refine hK.out _ _ (by exact inferInstance) (fun hHeld => ?_)
            clear hK K
            simp only [List.getElem_toArray, List.getElem_cons_succ, List.getElem_cons_zero, Act.put, List.setIfInBounds_toArray, List.set_cons_zero, List.set_cons_succ]
            refine wpAnyH_take (i := 8) (v := ?_) rfl (by kernel_rfl) (by kernel_rfl) (by kernel_rfl) (fun _ _ _ h => h) (Yields.yieldsIf (Or.inl ⟨by rfl, ?_⟩)) hHeld ?_
            rotate_left
            · intro W
              go_simp
              try with_reducible rfl
            simp only [List.getElem_toArray, List.getElem_cons_succ, List.getElem_cons_zero, Act.put, List.setIfInBounds_toArray, List.set_cons_zero, List.set_cons_succ]
            refine wpAnyH_take (i := 9) (v := ?_) rfl (by kernel_rfl) (by kernel_rfl) (by kernel_rfl) (fun _ _ _ h => h) (Yields.yieldsIf (Or.inl ⟨by rfl, ?_⟩)) hHeld ?_
            rotate_left
            · intro W
              go_simp
              try with_reducible rfl
            simp only [List.getElem_toArray, List.getElem_cons_succ, List.getElem_cons_zero, Act.put, List.setIfInBounds_toArray, List.set_cons_zero, List.set_cons_succ]
            refine wpAnyH_take (i := 10) (v := ?_) rfl (by kernel_rfl) (by kernel_rfl) (by kernel_rfl) (fun _ _ _ h => h) (Yields.yieldsIf (Or.inl ⟨by rfl, ?_⟩)) hHeld ?_
            rotate_left
            · intro W
              go_simp
              try with_reducible rfl
            simp only [List.getElem_toArray, List.getElem_cons_succ, List.getElem_cons_zero, Act.put, List.setIfInBounds_toArray, List.set_cons_zero, List.set_cons_succ]
            refine wpAnyH_ready (rs := [11]) (by kernel_rfl) (by simp) ?_
            refine AllReadyH.cons rfl (fun K hK => ?_) AllReadyH.nil
            rw [if_pos (by rfl)]
            unfold Oper.wp
            go_simp
            clear hHeld
            refine hK.out _ _ (by exact inferInstance) (fun hHeld => ?_)
            clear hK K
            try simp only [List.getElem_toArray, List.getElem_cons_succ, List.getElem_cons_zero, Act.put, List.setIfInBounds_toArray, List.set_cons_zero, List.set_cons_succ]
            refine wpAnyH_ready (rs := [12]) (by kernel_rfl) (by simp) ?_
            refine AllReadyH.cons rfl (fun K hK => ?_) AllReadyH.nil
            refine step_store_row (by rfl) 43 (.tmp 7) (.tmp 60) rfl w3.heap.size #[.int .i64 ra, .int .i64 rb, .slice A3 rd.length c3] rfl rfl 43 #[.int .i64 0, .int .i64 0, .slice none 0 0] (at_new w3 zPk) (by kernel_rfl) rfl (by simp [Value.oneCell']) ?_
            clear hHeld
            refine hK.out _ _ (Ext.setRow_ (inferInstance : Ext wd (w3.alloc zPk)) X3.out.size _) (fun hHeld => ?_)
            clear hK K
            simp only [List.getElem_toArray, List.getElem_cons_succ, List.getElem_cons_zero, Act.put, List.setIfInBounds_toArray, List.set_cons_zero, List.set_cons_succ]
            refine wpAnyH_take (i := 13) (v := ?_) rfl (by kernel_rfl) (by kernel_rfl) (by kernel_rfl) (fun _ _ _ h => h) (Yields.yieldsIf (Or.inl ⟨by rfl, ?_⟩)) hHeld ?_
            rotate_left
            · intro W
              go_simp
              try with_reducible rfl
            simp only [List.getElem_toArray, List.getElem_cons_succ, List.getElem_cons_zero, Act.put, List.setIfInBounds_toArray, List.set_cons_zero, List.set_cons_succ]
            refine wpAnyH_done (by kernel_rfl) ?_ _
            clear hHeld
            obtain ⟨wf, hwf⟩ : ∃ wf, (w3.alloc zPk).setRow w3.heap.size #[.int .i64 ra, .int .i64 rb, .slice A3 rd.length c3] = wf := ⟨_, rfl⟩
            obtain ⟨bf, hbf⟩ : ∃ bf, w3.heap.size = bf := ⟨_, rfl⟩
            have hal : wf = w3.alloc (.cells #[.int .i64 ra, .int .i64 rb, .slice A3 rd.length c3] 43) := hwf.symm.trans (World.setRow_alloc_new w3 _ _ _)
            have Xf : Ext wd wf := by rw [hal]; exact inferInstance
            have YF : Ext w wf := Ext.trans_ YW Xf
            have X3f : Ext w3 wf := by rw [hal]; exact inferInstance
            have hbb : wf.heap[bf]? = some (.cells #[.int .i64 ra, .int .i64 rb, .slice A3 rd.length c3] 43 (0, 0)) := by rw [hal, ← hbf]; exact at_new w3 _
            rw [hwf, hbf]
            clear hal hwf hbf
            have HZf : Hid (wf.heap[w.heap.size + 2]? = some zPk) := (at_ext HZd.out)
            have HBf : Hid (wf.heap[bf]? = some (.cells #[.int .i64 ra, .int .i64 rb, .slice A3 rd.length c3] 43 (0, 0))) := hbb
            have HOf : Hid (wf.ownsRow w.heap.size 5 1 (.slice A3 rd.length c3) rd.length (nums .u8 rd)) := (own_weaken (own_ext HO3.out) (Nat.le_trans YW.out.size (by simp)))
            have HEf : Hid (Ext w wf) := YF
            have HNf : Hid ((Value.slice A3 rd.length c3).ownBlock ≠ some (w.heap.size + 2)) := (fun e => by have h1 := own_base HO3.out _ e; have h2 := at_lt HZd.out; simp at h1; omega)
            go_wp2_with
              (first
               | (refine wpList_load_row rfl 43 (.tmp 7) rfl bf rfl 43 #[.int .i64 ra, .int .i64 rb, .slice A3 rd.length c3] (0, 0) _ HBf.out Try.underlying43 rfl (by kernel_rfl) ?_)
               | (refine wpList_store_row rfl 43 (.tmp 4) (.tmp 62) rfl (w.heap.size + 2) #[.int .i64 ra, .int .i64 rb, .slice A3 rd.length c3] rfl rfl 43 #[.int .i64 0, .int .i64 0, .slice none 0 0] HZf.out (by kernel_rfl) rfl (by simp [Value.oneCell']) ?_))
            refine bodyPost_ret (results_cell_row3 Try.results20 _ _ (w.heap.size + 2) 43 #[.int .i64 ra, .int .i64 rb, .slice A3 rd.length c3] (0, 0) _ (.bool (re == 0)) (.int .i64 re) rfl rfl rfl (setRow_heap _ _ _ _ _ _ HZf.out) Try.underlying43 rfl (by kernel_rfl)) rfl ?_
            rw [HRF.out]
            exact ⟨A3, c3, rfl, own_setRow HOf.out HNf.out _, (Ext.setRow_ HEf.out (by omega) _).out⟩
          · rw [if_pos (by rfl)]
            unfold Oper.wp
            go_simp
            refine hK.out _ _ (by exact inferInstance) (fun hHeld => ?_)
            clear hK K
            try simp only [List.getElem_toArray, List.getElem_cons_succ, List.getElem_cons_zero, Act.put, List.setIfInBounds_toArray, List.set_cons_zero, List.set_cons_succ]
            refine wpAnyH_ready (rs := [7]) (by kernel_rfl) (by simp) ?_
            refine AllReadyH.cons rfl (fun K hK => ?_) AllReadyH.nil
            refine step_call_w (by rfl) Try.func24 (by kernel_rfl) (by kernel_rfl) #[.const (.int .i64 10), .tmp 53, .tmp 55, .tmp 58] #[3, 3, 26, 41] rfl #[.int .i64 10, .int .i64 id, .int .u32 0, .slice (some ad) 0 0] ?hv (rreply_any 10 id 0 (some ad) 0 0 (xs.drop 4) hm0 hm1 HDL.out _ (by exact HDC.out.ext)) ?_
            case hv => go_simp
            rintro e w3 ⟨A3, c3, rfl, ho3, hb3⟩
            refine ⟨_, rfl, ?_⟩
            rw [HRR.out] at ho3 ⊢
            simp only at ho3 ⊢
            have S3 : Step w3 (wd.drew.alloc zPk) := ⟨hb3⟩
            have X3 : Ext wd w3 := Ext.trans_ (inferInstance : Ext wd (wd.drew.alloc zPk)) (inferInstance : Ext (wd.drew.alloc zPk) w3)
            have HO3 := Lib.hid ho3
            have HZ3 : Hid (w3.heap[wd.heap.size]? = some zPk) := at_ext (w := wd.drew.alloc zPk) (at_new wd.drew zPk)
            clear hb3 ho3 hHeld
            refine hK.out _ _ (by exact inferInstance) (fun hHeld => ?_)
            clear hK K
            simp only [List.getElem_toArray, List.getElem_cons_succ, List.getElem_cons_zero, Act.put, List.setIfInBounds_toArray, List.set_cons_zero, List.set_cons_succ]
            refine wpAnyH_take (i := 8) (v := ?_) rfl (by kernel_rfl) (by kernel_rfl) (by kernel_rfl) (fun _ _ _ h => h) (Yields.yieldsIf (Or.inl ⟨by rfl, ?_⟩)) hHeld ?_
            rotate_left
            · intro W
              go_simp
              try with_reducible rfl
            simp only [List.getElem_toArray, List.getElem_cons_succ, List.getElem_cons_zero, Act.put, List.setIfInBounds_toArray, List.set_cons_zero, List.set_cons_succ]
            refine wpAnyH_take (i := 9) (v := ?_) rfl (by kernel_rfl) (by kernel_rfl) (by kernel_rfl) (fun _ _ _ h => h) (Yields.yieldsIf (Or.inl ⟨by rfl, ?_⟩)) hHeld ?_
            rotate_left
            · intro W
              go_simp
              try with_reducible rfl
            simp only [List.getElem_toArray, List.getElem_cons_succ, List.getElem_cons_zero, Act.put, List.setIfInBounds_toArray, List.set_cons_zero, List.set_cons_succ]
            refine wpAnyH_take (i := 10) (v := ?_) rfl (by kernel_rfl) (by kernel_rfl) (by kernel_rfl) (fun _ _ _ h => h) (Yields.yieldsIf (Or.inl ⟨by rfl, ?_⟩)) hHeld ?_
            rotate_left
            · intro W
              go_simp
              try with_reducible rfl
            simp only [List.getElem_toArray, List.getElem_cons_succ, List.getElem_cons_zero, Act.put, List.setIfInBounds_toArray, List.set_cons_zero, List.set_cons_succ]
            refine wpAnyH_ready (rs := [12]) (by kernel_rfl) (by simp) ?_
            refine AllReadyH.cons rfl (fun K hK => ?_) AllReadyH.nil
            refine step_store_row (by rfl) 43 (.tmp 7) (.tmp 60) rfl wd.heap.size #[.int .i64 ra, .int .i64 rb, .slice A3 rd.length c3] rfl rfl 43 #[.int .i64 0, .int .i64 0, .slice none 0 0] HZ3.out (by kernel_rfl) rfl (by simp [Value.oneCell']) ?_
            clear hHeld
            refine hK.out _ _ (Ext.setRow_ X3 (Nat.le_refl _) _) (fun hHeld => ?_)
            clear hK K
            simp only [List.getElem_toArray, List.getElem_cons_succ, List.getElem_cons_zero, Act.put, List.setIfInBounds_toArray, List.set_cons_zero, List.set_cons_succ]
            refine wpAnyH_take (i := 13) (v := ?_) rfl (by kernel_rfl) (by kernel_rfl) (by kernel_rfl) (fun _ _ _ h => h) (Yields.yieldsIf (Or.inl ⟨by rfl, ?_⟩)) hHeld ?_
            rotate_left
            · intro W
              go_simp
              try with_reducible rfl
            simp only [List.getElem_toArray, List.getElem_cons_succ, List.getElem_cons_zero, Act.put, List.setIfInBounds_toArray, List.set_cons_zero, List.set_cons_succ]
            refine wpAnyH_done (by kernel_rfl) ?_ _
            clear hHeld
            have hne3 : (Value.slice A3 rd.length c3).ownBlock ≠ some wd.heap.size := fun e => by
              have h1 := own_base HO3.out _ e
              simp at h1
              omega
            have hof : (w3.setRow wd.heap.size #[.int .i64 ra, .int .i64 rb, .slice A3 rd.length c3]).ownsRow w.heap.size 5 1 (.slice A3 rd.length c3) rd.length (nums .u8 rd) := own_weaken (own_setRow HO3.out hne3 _) (Nat.le_trans YW.out.size (by simp))
            obtain ⟨wf, hwf⟩ : ∃ wf, w3.setRow wd.heap.size #[.int .i64 ra, .int .i64 rb, .slice A3 rd.length c3] = wf := ⟨_, rfl⟩
            obtain ⟨bf, hbf⟩ : ∃ bf, wd.heap.size = bf := ⟨_, rfl⟩
            have Xf : Ext wd wf := by rw [← hwf]; exact Ext.setRow_ X3 (Nat.le_refl _) _
            have YF : Ext w wf := Ext.trans_ YW Xf
            have hbb : wf.heap[bf]? = some (.cells #[.int .i64 ra, .int .i64 rb, .slice A3 rd.length c3] 43 (0, 0)) := by rw [← hwf, ← hbf]; exact setRow_heap _ _ _ _ _ _ HZ3.out
            have hn2 : (Value.slice A3 rd.length c3).ownBlock ≠ some (w.heap.size + 2) := fun e => by
              have h1 := own_base HO3.out _ e
              have h2 := at_lt HZd.out
              simp at h1
              omega
            rw [hwf] at hof ⊢
            rw [hbf]
            clear hwf hbf hne3
            have HZf : Hid (wf.heap[w.heap.size + 2]? = some zPk) := (at_ext HZd.out)
            have HBf : Hid (wf.heap[bf]? = some (.cells #[.int .i64 ra, .int .i64 rb, .slice A3 rd.length c3] 43 (0, 0))) := hbb
            have HOf : Hid (wf.ownsRow w.heap.size 5 1 (.slice A3 rd.length c3) rd.length (nums .u8 rd)) := hof
            have HEf : Hid (Ext w wf) := YF
            have HNf : Hid ((Value.slice A3 rd.length c3).ownBlock ≠ some (w.heap.size + 2)) := hn2
            go_wp2_with
              (first
               | (refine wpList_load_row rfl 43 (.tmp 7) rfl bf rfl 43 #[.int .i64 ra, .int .i64 rb, .slice A3 rd.length c3] (0, 0) _ HBf.out Try.underlying43 rfl (by kernel_rfl) ?_)
               | (refine wpList_store_row rfl 43 (.tmp 4) (.tmp 62) rfl (w.heap.size + 2) #[.int .i64 ra, .int .i64 rb, .slice A3 rd.length c3] rfl rfl 43 #[.int .i64 0, .int .i64 0, .slice none 0 0] HZf.out (by kernel_rfl) rfl (by simp [Value.oneCell']) ?_))
            refine bodyPost_ret (results_cell_row3 Try.results20 _ _ (w.heap.size + 2) 43 #[.int .i64 ra, .int .i64 rb, .slice A3 rd.length c3] (0, 0) _ (.bool (re == 0)) (.int .i64 re) rfl rfl rfl (setRow_heap _ _ _ _ _ _ HZf.out) Try.underlying43 rfl (by kernel_rfl)) rfl ?_
            rw [HRF.out]
            exact ⟨A3, c3, rfl, own_setRow HOf.out HNf.out _, (Ext.setRow_ HEf.out (by omega) _).out⟩
        · obtain ⟨ad, rfl, _⟩ := HX.out (by rw [nums_length, Hn.out]; omega)
          have HDC : Hid (Cells w (some (ad.add 4)) (nums .u8 (xs.drop 4))) := by
            have h1 := HX.out.drop (n := n) (c := c) (size := 1) (by rw [nums_length, Nat.mul_one, Hn.out]) hnc 4 h4n'
            rw [if_neg hc44, Nat.mul_one, ← nums_drop] at h1
            exact h1
          go_wp2
          obtain ⟨⟨⟨ra, rb⟩, rd, re⟩, hrr⟩ : ∃ r, replyF 10 id 0 (xs.drop 4) = r := ⟨_, rfl⟩
          have HRR := Lib.hid hrr
          have HRF : Hid (echoF 9 id xs 0 = (((ra, rb), rd), re == 0, re)) := by unfold Hid; rw [HR0.out, hrr]
          have HDL : Hid ((xs.drop 4).length = (n - 4)) := by unfold Hid; rw [List.length_drop, Hn.out]
          have HZd : Hid (wd.heap[w.heap.size + 2]? = some zPk) := HZDD.out
          clear hrr
          refine wp_region_held_drew (S := fun W => Ext wd W) (by kernel_rfl) (by exact inferInstance) (fun hHeld => ?_)
          refine wpAnyH_take (i := 0) (v := ?_) rfl (by kernel_rfl) (by kernel_rfl) (by kernel_rfl) (fun _ _ _ h => h) (Yields.yieldsIf (Or.inl ⟨by rfl, ?_⟩)) hHeld ?_
          rotate_left
          · intro W
            go_simp
            try with_reducible rfl
          simp only [List.getElem_toArray, List.getElem_cons_succ, List.getElem_cons_zero, Act.put, List.setIfInBounds_toArray, List.set_cons_zero, List.set_cons_succ]
          refine wpAnyH_take (i := 1) (v := ?_) rfl (by kernel_rfl) (by kernel_rfl) (by kernel_rfl) (fun _ _ _ h => h) (Or.inl ⟨by rfl, ?_⟩) hHeld ?_
          rotate_left
          · intro W hW
            have hcl := (cell_ext (h := hW) pk1)
            go_simp
            try with_reducible rfl
          simp only [List.getElem_toArray, List.getElem_cons_succ, List.getElem_cons_zero, Act.put, List.setIfInBounds_toArray, List.set_cons_zero, List.set_cons_succ]
          refine wpAnyH_take (i := 2) (v := ?_) rfl (by kernel_rfl) (by kernel_rfl) (by kernel_rfl) (fun _ _ _ h => h) (Yields.yieldsIf (Or.inl ⟨by rfl, ?_⟩)) hHeld ?_
          rotate_left
          · intro W
            go_simp
            try with_reducible rfl
          simp only [List.getElem_toArray, List.getElem_cons_succ, List.getElem_cons_zero, Act.put, List.setIfInBounds_toArray, List.set_cons_zero, List.set_cons_succ]
          refine wpAnyH_take (i := 3) (v := ?_) rfl (by kernel_rfl) (by kernel_rfl) (by kernel_rfl) (fun _ _ _ h => h) (Or.inl ⟨by rfl, ?_⟩) hHeld ?_
          rotate_left
          · intro W hW
            have hcl := (cell_ext (h := hW) op3)
            go_simp
            try with_reducible rfl
          simp only [List.getElem_toArray, List.getElem_cons_succ, List.getElem_cons_zero, Act.put, List.setIfInBounds_toArray, List.set_cons_zero, List.set_cons_succ]
          refine wpAnyH_take (i := 4) (v := ?_) rfl (by kernel_rfl) (by kernel_rfl) (by kernel_rfl) (fun _ _ _ h => h) (Yields.yieldsIf (Or.inl ⟨by rfl, ?_⟩)) hHeld ?_
          rotate_left
          · intro W
            go_simp
            try with_reducible rfl
          simp only [List.getElem_toArray, List.getElem_cons_succ, List.getElem_cons_zero, Act.put, List.setIfInBounds_toArray, List.set_cons_zero, List.set_cons_succ]
          refine wpAnyH_take (i := 5) (v := ?_) rfl (by kernel_rfl) (by kernel_rfl) (by kernel_rfl) (fun _ _ _ h => h) (Or.inl ⟨by rfl, ?_⟩) hHeld ?_
          rotate_left
          · intro W hW
            have hcl := (cell_ext (h := hW) pk2)
            go_simp
            try with_reducible rfl
          simp only [List.getElem_toArray, List.getElem_cons_succ, List.getElem_cons_zero, Act.put, List.setIfInBounds_toArray, List.set_cons_zero, List.set_cons_succ]
          refine wpAnyH_take (i := 6) (v := ?_) rfl (by kernel_rfl) (by kernel_rfl) (by kernel_rfl) (fun _ _ _ h => h) (Yields.yieldsIf (Or.inl ⟨by rfl, ?_⟩)) hHeld ?_
          rotate_left
          · intro W
            go_simp
            try with_reducible rfl
          simp only [List.getElem_toArray, List.getElem_cons_succ, List.getElem_cons_zero, Act.put, List.setIfInBounds_toArray, List.set_cons_zero, List.set_cons_succ]
          refine wpAnyH_ready (rs := [7, 11]) (by kernel_rfl) (by simp) ?_
          refine AllReadyH.cons rfl (fun K hK => ?_) (AllReadyH.cons rfl (fun K hK => ?_) AllReadyH.nil)
          · refine step_call_w (by rfl) Try.func24 (by kernel_rfl) (by kernel_rfl) #[.const (.int .i64 10), .tmp 53, .tmp 55, .tmp 58] #[3, 3, 26, 41] rfl #[.int .i64 10, .int .i64 id, .int .u32 0, .slice (some (ad.add 4)) (n - 4) (c - 4)] ?hv (rreply_any 10 id 0 (some (ad.add 4)) (n - 4) (c - 4) (xs.drop 4) hm0 hm1 HDL.out _ (by exact HDC.out.ext)) ?_
            case hv => go_simp
            rintro e w3 ⟨A3, c3, rfl, ho3, hb3⟩
            refine ⟨_, rfl, ?_⟩
            rw [HRR.out] at ho3 ⊢
            simp only at ho3 ⊢
            have S3 : Step w3 wd.drew := ⟨hb3⟩
            have X3 : Ext wd w3 := inferInstance
            have HO3 := Lib.hid ho3
            clear hb3 ho3 hHeld
            refine hK.out _ _ (by exact inferInstance) (fun hHeld => ?_)
            clear hK K
            simp only [List.getElem_toArray, List.getElem_cons_succ, List.getElem_cons_zero, Act.put, List.setIfInBounds_toArray, List.set_cons_zero, List.set_cons_succ]
            refine wpAnyH_take (i := 8) (v := ?_) rfl (by kernel_rfl) (by kernel_rfl) (by kernel_rfl) (fun _ _ _ h => h) (Yields.yieldsIf (Or.inl ⟨by rfl, ?_⟩)) hHeld ?_
            rotate_left
            · intro W
              go_simp
              try with_reducible rfl
            simp only [List.getElem_toArray, List.getElem_cons_succ, List.getElem_cons_zero, Act.put, List.setIfInBounds_toArray, List.set_cons_zero, List.set_cons_succ]
            refine wpAnyH_take (i := 9) (v := ?_) rfl (by kernel_rfl) (by kernel_rfl) (by kernel_rfl) (fun _ _ _ h => h) (Yields.yieldsIf (Or.inl ⟨by rfl, ?_⟩)) hHeld ?_
            rotate_left
            · intro W
              go_simp
              try with_reducible rfl
            simp only [List.getElem_toArray, List.getElem_cons_succ, List.getElem_cons_zero, Act.put, List.setIfInBounds_toArray, List.set_cons_zero, List.set_cons_succ]
            refine wpAnyH_take (i := 10) (v := ?_) rfl (by kernel_rfl) (by kernel_rfl) (by kernel_rfl) (fun _ _ _ h => h) (Yields.yieldsIf (Or.inl ⟨by rfl, ?_⟩)) hHeld ?_
            rotate_left
            · intro W
              go_simp
              try with_reducible rfl
            simp only [List.getElem_toArray, List.getElem_cons_succ, List.getElem_cons_zero, Act.put, List.setIfInBounds_toArray, List.set_cons_zero, List.set_cons_succ]
            refine wpAnyH_ready (rs := [11]) (by kernel_rfl) (by simp) ?_
            refine AllReadyH.cons rfl (fun K hK => ?_) AllReadyH.nil
            rw [if_pos (by rfl)]
            unfold Oper.wp
            go_simp
            clear hHeld
            refine hK.out _ _ (by exact inferInstance) (fun hHeld => ?_)
            clear hK K
            try simp only [List.getElem_toArray, List.getElem_cons_succ, List.getElem_cons_zero, Act.put, List.setIfInBounds_toArray, List.set_cons_zero, List.set_cons_succ]
            refine wpAnyH_ready (rs := [12]) (by kernel_rfl) (by simp) ?_
            refine AllReadyH.cons rfl (fun K hK => ?_) AllReadyH.nil
            refine step_store_row (by rfl) 43 (.tmp 7) (.tmp 60) rfl w3.heap.size #[.int .i64 ra, .int .i64 rb, .slice A3 rd.length c3] rfl rfl 43 #[.int .i64 0, .int .i64 0, .slice none 0 0] (at_new w3 zPk) (by kernel_rfl) rfl (by simp [Value.oneCell']) ?_
            clear hHeld
            refine hK.out _ _ (Ext.setRow_ (inferInstance : Ext wd (w3.alloc zPk)) X3.out.size _) (fun hHeld => ?_)
            clear hK K
            simp only [List.getElem_toArray, List.getElem_cons_succ, List.getElem_cons_zero, Act.put, List.setIfInBounds_toArray, List.set_cons_zero, List.set_cons_succ]
            refine wpAnyH_take (i := 13) (v := ?_) rfl (by kernel_rfl) (by kernel_rfl) (by kernel_rfl) (fun _ _ _ h => h) (Yields.yieldsIf (Or.inl ⟨by rfl, ?_⟩)) hHeld ?_
            rotate_left
            · intro W
              go_simp
              try with_reducible rfl
            simp only [List.getElem_toArray, List.getElem_cons_succ, List.getElem_cons_zero, Act.put, List.setIfInBounds_toArray, List.set_cons_zero, List.set_cons_succ]
            refine wpAnyH_done (by kernel_rfl) ?_ _
            clear hHeld
            obtain ⟨wf, hwf⟩ : ∃ wf, (w3.alloc zPk).setRow w3.heap.size #[.int .i64 ra, .int .i64 rb, .slice A3 rd.length c3] = wf := ⟨_, rfl⟩
            obtain ⟨bf, hbf⟩ : ∃ bf, w3.heap.size = bf := ⟨_, rfl⟩
            have hal : wf = w3.alloc (.cells #[.int .i64 ra, .int .i64 rb, .slice A3 rd.length c3] 43) := hwf.symm.trans (World.setRow_alloc_new w3 _ _ _)
            have Xf : Ext wd wf := by rw [hal]; exact inferInstance
            have YF : Ext w wf := Ext.trans_ YW Xf
            have X3f : Ext w3 wf := by rw [hal]; exact inferInstance
            have hbb : wf.heap[bf]? = some (.cells #[.int .i64 ra, .int .i64 rb, .slice A3 rd.length c3] 43 (0, 0)) := by rw [hal, ← hbf]; exact at_new w3 _
            rw [hwf, hbf]
            clear hal hwf hbf
            have HZf : Hid (wf.heap[w.heap.size + 2]? = some zPk) := (at_ext HZd.out)
            have HBf : Hid (wf.heap[bf]? = some (.cells #[.int .i64 ra, .int .i64 rb, .slice A3 rd.length c3] 43 (0, 0))) := hbb
            have HOf : Hid (wf.ownsRow w.heap.size 5 1 (.slice A3 rd.length c3) rd.length (nums .u8 rd)) := (own_weaken (own_ext HO3.out) (Nat.le_trans YW.out.size (by simp)))
            have HEf : Hid (Ext w wf) := YF
            have HNf : Hid ((Value.slice A3 rd.length c3).ownBlock ≠ some (w.heap.size + 2)) := (fun e => by have h1 := own_base HO3.out _ e; have h2 := at_lt HZd.out; simp at h1; omega)
            go_wp2_with
              (first
               | (refine wpList_load_row rfl 43 (.tmp 7) rfl bf rfl 43 #[.int .i64 ra, .int .i64 rb, .slice A3 rd.length c3] (0, 0) _ HBf.out Try.underlying43 rfl (by kernel_rfl) ?_)
               | (refine wpList_store_row rfl 43 (.tmp 4) (.tmp 62) rfl (w.heap.size + 2) #[.int .i64 ra, .int .i64 rb, .slice A3 rd.length c3] rfl rfl 43 #[.int .i64 0, .int .i64 0, .slice none 0 0] HZf.out (by kernel_rfl) rfl (by simp [Value.oneCell']) ?_))
            refine bodyPost_ret (results_cell_row3 Try.results20 _ _ (w.heap.size + 2) 43 #[.int .i64 ra, .int .i64 rb, .slice A3 rd.length c3] (0, 0) _ (.bool (re == 0)) (.int .i64 re) rfl rfl rfl (setRow_heap _ _ _ _ _ _ HZf.out) Try.underlying43 rfl (by kernel_rfl)) rfl ?_
            rw [HRF.out]
            exact ⟨A3, c3, rfl, own_setRow HOf.out HNf.out _, (Ext.setRow_ HEf.out (by omega) _).out⟩
          · rw [if_pos (by rfl)]
            unfold Oper.wp
            go_simp
            refine hK.out _ _ (by exact inferInstance) (fun hHeld => ?_)
            clear hK K
            try simp only [List.getElem_toArray, List.getElem_cons_succ, List.getElem_cons_zero, Act.put, List.setIfInBounds_toArray, List.set_cons_zero, List.set_cons_succ]
            refine wpAnyH_ready (rs := [7]) (by kernel_rfl) (by simp) ?_
            refine AllReadyH.cons rfl (fun K hK => ?_) AllReadyH.nil
            refine step_call_w (by rfl) Try.func24 (by kernel_rfl) (by kernel_rfl) #[.const (.int .i64 10), .tmp 53, .tmp 55, .tmp 58] #[3, 3, 26, 41] rfl #[.int .i64 10, .int .i64 id, .int .u32 0, .slice (some (ad.add 4)) (n - 4) (c - 4)] ?hv (rreply_any 10 id 0 (some (ad.add 4)) (n - 4) (c - 4) (xs.drop 4) hm0 hm1 HDL.out _ (by exact HDC.out.ext)) ?_
            case hv => go_simp
            rintro e w3 ⟨A3, c3, rfl, ho3, hb3⟩
            refine ⟨_, rfl, ?_⟩
            rw [HRR.out] at ho3 ⊢
            simp only at ho3 ⊢
            have S3 : Step w3 (wd.drew.alloc zPk) := ⟨hb3⟩
            have X3 : Ext wd w3 := Ext.trans_ (inferInstance : Ext wd (wd.drew.alloc zPk)) (inferInstance : Ext (wd.drew.alloc zPk) w3)
            have HO3 := Lib.hid ho3
            have HZ3 : Hid (w3.heap[wd.heap.size]? = some zPk) := at_ext (w := wd.drew.alloc zPk) (at_new wd.drew zPk)
            clear hb3 ho3 hHeld
            refine hK.out _ _ (by exact inferInstance) (fun hHeld => ?_)
            clear hK K
            simp only [List.getElem_toArray, List.getElem_cons_succ, List.getElem_cons_zero, Act.put, List.setIfInBounds_toArray, List.set_cons_zero, List.set_cons_succ]
            refine wpAnyH_take (i := 8) (v := ?_) rfl (by kernel_rfl) (by kernel_rfl) (by kernel_rfl) (fun _ _ _ h => h) (Yields.yieldsIf (Or.inl ⟨by rfl, ?_⟩)) hHeld ?_
            rotate_left
            · intro W
              go_simp
              try with_reducible rfl
            simp only [List.getElem_toArray, List.getElem_cons_succ, List.getElem_cons_zero, Act.put, List.setIfInBounds_toArray, List.set_cons_zero, List.set_cons_succ]
            refine wpAnyH_take (i := 9) (v := ?_) rfl (by kernel_rfl) (by kernel_rfl) (by kernel_rfl) (fun _ _ _ h => h) (Yields.yieldsIf (Or.inl ⟨by rfl, ?_⟩)) hHeld ?_
            rotate_left
            · intro W
              go_simp
              try with_reducible rfl
            simp only [List.getElem_toArray, List.getElem_cons_succ, List.getElem_cons_zero, Act.put, List.setIfInBounds_toArray, List.set_cons_zero, List.set_cons_succ]
            refine wpAnyH_take (i := 10) (v := ?_) rfl (by kernel_rfl) (by kernel_rfl) (by kernel_rfl) (fun _ _ _ h => h) (Yields.yieldsIf (Or.inl ⟨by rfl, ?_⟩)) hHeld ?_
            rotate_left
            · intro W
              go_simp
              try with_reducible rfl
            simp only [List.getElem_toArray, List.getElem_cons_succ, List.getElem_cons_zero, Act.put, List.setIfInBounds_toArray, List.set_cons_zero, List.set_cons_succ]
            refine wpAnyH_ready (rs := [12]) (by kernel_rfl) (by simp) ?_
            refine AllReadyH.cons rfl (fun K hK => ?_) AllReadyH.nil
            refine step_store_row (by rfl) 43 (.tmp 7) (.tmp 60) rfl wd.heap.size #[.int .i64 ra, .int .i64 rb, .slice A3 rd.length c3] rfl rfl 43 #[.int .i64 0, .int .i64 0, .slice none 0 0] HZ3.out (by kernel_rfl) rfl (by simp [Value.oneCell']) ?_
            clear hHeld
            refine hK.out _ _ (Ext.setRow_ X3 (Nat.le_refl _) _) (fun hHeld => ?_)
            clear hK K
            simp only [List.getElem_toArray, List.getElem_cons_succ, List.getElem_cons_zero, Act.put, List.setIfInBounds_toArray, List.set_cons_zero, List.set_cons_succ]
            refine wpAnyH_take (i := 13) (v := ?_) rfl (by kernel_rfl) (by kernel_rfl) (by kernel_rfl) (fun _ _ _ h => h) (Yields.yieldsIf (Or.inl ⟨by rfl, ?_⟩)) hHeld ?_
            rotate_left
            · intro W
              go_simp
              try with_reducible rfl
            simp only [List.getElem_toArray, List.getElem_cons_succ, List.getElem_cons_zero, Act.put, List.setIfInBounds_toArray, List.set_cons_zero, List.set_cons_succ]
            refine wpAnyH_done (by kernel_rfl) ?_ _
            clear hHeld
            have hne3 : (Value.slice A3 rd.length c3).ownBlock ≠ some wd.heap.size := fun e => by
              have h1 := own_base HO3.out _ e
              simp at h1
              omega
            have hof : (w3.setRow wd.heap.size #[.int .i64 ra, .int .i64 rb, .slice A3 rd.length c3]).ownsRow w.heap.size 5 1 (.slice A3 rd.length c3) rd.length (nums .u8 rd) := own_weaken (own_setRow HO3.out hne3 _) (Nat.le_trans YW.out.size (by simp))
            obtain ⟨wf, hwf⟩ : ∃ wf, w3.setRow wd.heap.size #[.int .i64 ra, .int .i64 rb, .slice A3 rd.length c3] = wf := ⟨_, rfl⟩
            obtain ⟨bf, hbf⟩ : ∃ bf, wd.heap.size = bf := ⟨_, rfl⟩
            have Xf : Ext wd wf := by rw [← hwf]; exact Ext.setRow_ X3 (Nat.le_refl _) _
            have YF : Ext w wf := Ext.trans_ YW Xf
            have hbb : wf.heap[bf]? = some (.cells #[.int .i64 ra, .int .i64 rb, .slice A3 rd.length c3] 43 (0, 0)) := by rw [← hwf, ← hbf]; exact setRow_heap _ _ _ _ _ _ HZ3.out
            have hn2 : (Value.slice A3 rd.length c3).ownBlock ≠ some (w.heap.size + 2) := fun e => by
              have h1 := own_base HO3.out _ e
              have h2 := at_lt HZd.out
              simp at h1
              omega
            rw [hwf] at hof ⊢
            rw [hbf]
            clear hwf hbf hne3
            have HZf : Hid (wf.heap[w.heap.size + 2]? = some zPk) := (at_ext HZd.out)
            have HBf : Hid (wf.heap[bf]? = some (.cells #[.int .i64 ra, .int .i64 rb, .slice A3 rd.length c3] 43 (0, 0))) := hbb
            have HOf : Hid (wf.ownsRow w.heap.size 5 1 (.slice A3 rd.length c3) rd.length (nums .u8 rd)) := hof
            have HEf : Hid (Ext w wf) := YF
            have HNf : Hid ((Value.slice A3 rd.length c3).ownBlock ≠ some (w.heap.size + 2)) := hn2
            go_wp2_with
              (first
               | (refine wpList_load_row rfl 43 (.tmp 7) rfl bf rfl 43 #[.int .i64 ra, .int .i64 rb, .slice A3 rd.length c3] (0, 0) _ HBf.out Try.underlying43 rfl (by kernel_rfl) ?_)
               | (refine wpList_store_row rfl 43 (.tmp 4) (.tmp 62) rfl (w.heap.size + 2) #[.int .i64 ra, .int .i64 rb, .slice A3 rd.length c3] rfl rfl 43 #[.int .i64 0, .int .i64 0, .slice none 0 0] HZf.out (by kernel_rfl) rfl (by simp [Value.oneCell']) ?_))
            refine bodyPost_ret (results_cell_row3 Try.results20 _ _ (w.heap.size + 2) 43 #[.int .i64 ra, .int .i64 rb, .slice A3 rd.length c3] (0, 0) _ (.bool (re == 0)) (.int .i64 re) rfl rfl rfl (setRow_heap _ _ _ _ _ _ HZf.out) Try.underlying43 rfl (by kernel_rfl)) rfl ?_
            rw [HRF.out]
            exact ⟨A3, c3, rfl, own_setRow HOf.out HNf.out _, (Ext.setRow_ HEf.out (by omega) _).out⟩
      · have hz1 : (mm != 0) = true := by simpa using hz
        have hz2 : (N == mm) = false := by simp; exact fun h => hy ⟨hz, h⟩
        clear hz
        have HR0 : Hid (echoF 9 id xs mm = (((replyF 10 id mm (xs.drop 4)).1, (replyF 10 id mm (xs.drop 4)).2.1), (replyF 10 id mm (xs.drop 4)).2.2 == 0, (replyF 10 id mm (xs.drop 4)).2.2)) := HE0.out.trans ((if_neg hy).trans (if_neg (by decide)))
        have h4n : (4 : Int) ≤ (n : Int) := by omega
        have h4n' : 4 ≤ n := by omega
        clear hy
        have HZP : Hid ((((w.alloc (.cells #[.int .i64 9, .int .i64 id, .slice A n c] 43)).alloc (.cells #[.int .i64 mru, .int .i64 accm, .int .i64 auth, .int .u32 mm, .bool b1, .bool b2] 28)).alloc zPk).heap[w.heap.size + 2]? = some zPk) := at_new1 (by simp)
        have HPK : Hid ((((w.alloc (.cells #[.int .i64 9, .int .i64 id, .slice A n c] 43)).alloc (.cells #[.int .i64 mru, .int .i64 accm, .int .i64 auth, .int .u32 mm, .bool b1, .bool b2] 28)).alloc zPk).heap[w.heap.size]? = some (.cells #[.int .i64 9, .int .i64 id, .slice A n c] 43 (0, 0))) := at_ext (at_new w _)
        have HOP : Hid ((((w.alloc (.cells #[.int .i64 9, .int .i64 id, .slice A n c] 43)).alloc (.cells #[.int .i64 mru, .int .i64 accm, .int .i64 auth, .int .u32 mm, .bool b1, .bool b2] 28)).alloc zPk).heap[w.heap.size + 1]? = some (.cells #[.int .i64 mru, .int .i64 accm, .int .i64 auth, .int .u32 mm, .bool b1, .bool b2] 28 (0, 0))) := at_ext (w := (w.alloc (.cells #[.int .i64 9, .int .i64 id, .slice A n c] 43)).alloc (.cells #[.int .i64 mru, .int .i64 accm, .int .i64 auth, .int .u32 mm, .bool b1, .bool b2] 28)) (at_new1 (by simp))
        go_enter Try.func20, Try.ntmps20
        go_wp2
        have HW0 : Hid (Ext w (((w.alloc (.cells #[.int .i64 9, .int .i64 id, .slice A n c] 43)).alloc (.cells #[.int .i64 mru, .int .i64 accm, .int .i64 auth, .int .u32 mm, .bool b1, .bool b2] 28)).alloc zPk)) := inferInstanceAs (Ext w _)
        obtain ⟨w0, hw0⟩ : ∃ w0, ((w.alloc (.cells #[.int .i64 9, .int .i64 id, .slice A n c] 43)).alloc (.cells #[.int .i64 mru, .int .i64 accm, .int .i64 auth, .int .u32 mm, .bool b1, .bool b2] 28)).alloc zPk = w0 := ⟨_, rfl⟩
        rw [hw0] at HPK HOP HW0 HZP
        have pk2 : w0.cell? ⟨w.heap.size, 2, none⟩ = some (.slice A n c) := at_cell HPK.out 2
        have op3 : w0.cell? ⟨w.heap.size + 1, 3, none⟩ = some (.int .u32 mm) := at_cell HOP.out 3
        have Y0 : Ext w w0 := HW0.out
        try rw [hw0]
        refine wp_region_held_drew (S := fun W => Ext w0 W) (by kernel_rfl) (by exact inferInstance) (fun hHeld => ?_)
        refine wpAnyH_take (i := 0) (v := ?_) rfl (by kernel_rfl) (by kernel_rfl) (by kernel_rfl) (fun _ _ _ h => h) (Yields.yieldsIf (Or.inl ⟨by rfl, ?_⟩)) hHeld ?_
        rotate_left
        · intro W
          go_simp
          try with_reducible rfl
        simp only [List.getElem_toArray, List.getElem_cons_succ, List.getElem_cons_zero, Act.put, List.setIfInBounds_toArray, List.set_cons_zero, List.set_cons_succ]
        refine wpAnyH_take (i := 1) (v := ?_) rfl (by kernel_rfl) (by kernel_rfl) (by kernel_rfl) (fun _ _ _ h => h) (Or.inl ⟨by rfl, ?_⟩) hHeld ?_
        rotate_left
        · intro W hW
          have hcl := (cell_ext (h := hW) op3)
          go_simp
          try with_reducible rfl
        simp only [List.getElem_toArray, List.getElem_cons_succ, List.getElem_cons_zero, Act.put, List.setIfInBounds_toArray, List.set_cons_zero, List.set_cons_succ]
        refine wpAnyH_take (i := 2) (v := ?_) rfl (by kernel_rfl) (by kernel_rfl) (by kernel_rfl) (fun _ _ _ h => h) (Yields.yieldsIf (Or.inl ⟨by rfl, ?_⟩)) hHeld ?_
        rotate_left
        · intro W
          go_simp
          try with_reducible rfl
        simp only [List.getElem_toArray, List.getElem_cons_succ, List.getElem_cons_zero, Act.put, List.setIfInBounds_toArray, List.set_cons_zero, List.set_cons_succ]
        refine wpAnyH_take (i := 3) (v := ?_) rfl (by kernel_rfl) (by kernel_rfl) (by kernel_rfl) (fun _ _ _ h => h) (Yields.yieldsIf (Or.inl ⟨by rfl, ?_⟩)) hHeld ?_
        rotate_left
        · intro W
          go_simp
          try with_reducible rfl
        simp only [List.getElem_toArray, List.getElem_cons_succ, List.getElem_cons_zero, Act.put, List.setIfInBounds_toArray, List.set_cons_zero, List.set_cons_succ]
        refine wpAnyH_take (i := 4) (v := ?_) rfl (by kernel_rfl) (by kernel_rfl) (by kernel_rfl) (fun _ _ _ h => h) (Yields.yieldsIf (Or.inl ⟨by rfl, ?_⟩)) hHeld ?_
        rotate_left
        · intro W
          go_simp
          try with_reducible rfl
        simp only [List.getElem_toArray, List.getElem_cons_succ, List.getElem_cons_zero, Act.put, List.setIfInBounds_toArray, List.set_cons_zero, List.set_cons_succ]
        refine wpAnyH_take (i := 5) (v := ?_) rfl (by kernel_rfl) (by kernel_rfl) (by kernel_rfl) (fun _ _ _ h => h) (Or.inl ⟨by rfl, ?_⟩) hHeld ?_
        rotate_left
        · intro W hW
          have hcl := (cell_ext (h := hW) pk2)
          go_simp
          try with_reducible rfl
        simp only [List.getElem_toArray, List.getElem_cons_succ, List.getElem_cons_zero, Act.put, List.setIfInBounds_toArray, List.set_cons_zero, List.set_cons_succ]
        refine wpAnyH_take (i := 6) (v := ?_) rfl (by kernel_rfl) (by kernel_rfl) (by kernel_rfl) (fun _ _ _ h => h) (Yields.yieldsIf (Or.inl ⟨by rfl, ?_⟩)) hHeld ?_
        rotate_left
        · intro W
          go_simp
          try with_reducible rfl
        simp only [List.getElem_toArray, List.getElem_cons_succ, List.getElem_cons_zero, Act.put, List.setIfInBounds_toArray, List.set_cons_zero, List.set_cons_succ]
        refine wpAnyH_take (i := 8) (v := ?_) rfl (by kernel_rfl) (by kernel_rfl) (by kernel_rfl) (fun _ _ _ h => h) (Yields.yieldsIf (Or.inl ⟨by rfl, ?_⟩)) hHeld ?_
        rotate_left
        · intro W
          go_simp
          try with_reducible rfl
        simp only [List.getElem_toArray, List.getElem_cons_succ, List.getElem_cons_zero, Act.put, List.setIfInBounds_toArray, List.set_cons_zero, List.set_cons_succ]
        refine wpAnyH_take (i := 9) (v := ?_) rfl (by kernel_rfl) (by kernel_rfl) (by kernel_rfl) (fun _ _ _ h => h) (Or.inl ⟨by rfl, ?_⟩) hHeld ?_
        rotate_left
        · intro W hW
          have hcl := (cell_ext (h := hW) op3)
          go_simp
          try with_reducible rfl
        simp only [List.getElem_toArray, List.getElem_cons_succ, List.getElem_cons_zero, Act.put, List.setIfInBounds_toArray, List.set_cons_zero, List.set_cons_succ]
        refine wpAnyH_take (i := 10) (v := ?_) rfl (by kernel_rfl) (by kernel_rfl) (by kernel_rfl) (fun _ _ _ h => h) (Yields.yieldsIf (Or.inl ⟨by rfl, ?_⟩)) hHeld ?_
        rotate_left
        · intro W
          go_simp
          try with_reducible rfl
        simp only [List.getElem_toArray, List.getElem_cons_succ, List.getElem_cons_zero, Act.put, List.setIfInBounds_toArray, List.set_cons_zero, List.set_cons_succ]
        have HQ : Calls Try.prog 90 #[.slice A 4 c] w0.drew fun e w' => e = .returned (.int .u64 N) ∧ w0.drew = w' := by
          have h1 := rnumber_any A 4 c (xs.take 4) HL4.out (by omega) HB4.out w0.drew (by rw [nums_take]; exact (HX.out.take 4).ext)
          rw [HNN.out] at h1
          exact h1
        refine wpAnyH_ready (rs := [7]) (by kernel_rfl) (by simp) ?_
        refine AllReadyH.cons rfl (fun K hK => ?_) AllReadyH.nil
        refine step_call_w (by rfl) Try.func90 (by kernel_rfl) (by kernel_rfl) #[.tmp 39] #[41] rfl #[.slice A 4 c] ?hv HQ ?_
        case hv => go_simp
        rintro e wq ⟨rfl, rfl⟩
        refine ⟨_, rfl, ?_⟩
        clear hHeld HQ
        refine hK.out _ _ (by exact inferInstance) (fun hHeld => ?_)
        clear hK K
        simp only [List.getElem_toArray, List.getElem_cons_succ, List.getElem_cons_zero, Act.put, List.setIfInBounds_toArray, List.set_cons_zero, List.set_cons_succ]
        refine wpAnyH_take (i := 11) (v := ?_) rfl (by kernel_rfl) (by kernel_rfl) (by kernel_rfl) (fun _ _ _ h => h) (Yields.yieldsIf (Or.inl ⟨by rfl, ?_⟩)) hHeld ?_
        rotate_left
        · intro W
          go_simp
          try with_reducible rfl
        simp only [List.getElem_toArray, List.getElem_cons_succ, List.getElem_cons_zero, Act.put, List.setIfInBounds_toArray, List.set_cons_zero, List.set_cons_succ]
        refine wpAnyH_take (i := 12) (v := ?_) rfl (by kernel_rfl) (by kernel_rfl) (by kernel_rfl) (fun _ _ _ h => h) (Yields.yieldsIf (Or.inl ⟨by rfl, ?_⟩)) hHeld ?_
        rotate_left
        · intro W
          go_simp
          try with_reducible rfl
        simp only [List.getElem_toArray, List.getElem_cons_succ, List.getElem_cons_zero, Act.put, List.setIfInBounds_toArray, List.set_cons_zero, List.set_cons_succ]
        refine wpAnyH_done (by kernel_rfl) ?_ _
        clear hHeld
        obtain ⟨wd, hwd⟩ : ∃ wd, w0.drew = wd := ⟨_, rfl⟩
        have Yd : Ext w0 wd := by rw [← hwd]; exact inferInstance
        have YW : Ext w wd := Ext.trans_ Y0 Yd
        have HPd := Lib.hid (at_ext (w' := wd) HPK.out)
        have HOd := Lib.hid (at_ext (w' := wd) HOP.out)
        rw [hwd]
        clear hwd pk2 op3
        have pk0 : wd.cell? ⟨w.heap.size, 0, none⟩ = some (.int .i64 9) := at_cell HPd.out 0
        have pk1 : wd.cell? ⟨w.heap.size, 1, none⟩ = some (.int .i64 id) := at_cell HPd.out 1
        have pk2 : wd.cell? ⟨w.heap.size, 2, none⟩ = some (.slice A n c) := at_cell HPd.out 2
        have op3 : wd.cell? ⟨w.heap.size + 1, 3, none⟩ = some (.int .u32 mm) := at_cell HOd.out 3
        have HZDD : Hid (wd.heap[w.heap.size + 2]? = some zPk) := at_ext HZP.out
        by_cases hc44 : c = 4
        · obtain ⟨ad, rfl, _⟩ := HX.out (by rw [nums_length, Hn.out]; omega)
          have hn44 : n = 4 := by omega
          subst hc44
          subst hn44
          have HDC : Hid (Cells w (some ad) (nums .u8 (xs.drop 4))) := by
            have h1 := HX.out.drop (n := 4) (c := 4) (size := 1) (by rw [nums_length, Nat.mul_one, Hn.out]) hnc 4 h4n'
            rw [if_pos rfl, Nat.mul_one, ← nums_drop] at h1
            exact h1
          go_wp2
          obtain ⟨⟨⟨ra, rb⟩, rd, re⟩, hrr⟩ : ∃ r, replyF 10 id mm (xs.drop 4) = r := ⟨_, rfl⟩
          have HRR := Lib.hid hrr
          have HRF : Hid (echoF 9 id xs mm = (((ra, rb), rd), re == 0, re)) := by unfold Hid; rw [HR0.out, hrr]
          have HDL : Hid ((xs.drop 4).length = 0) := by unfold Hid; rw [List.length_drop, Hn.out]
          have HZd : Hid (wd.heap[w.heap.size + 2]? = some zPk) := HZDD.out
          clear hrr
          refine wp_region_held_drew (S := fun W => Ext wd W) (by kernel_rfl) (by exact inferInstance) (fun hHeld => ?_)
          refine wpAnyH_take (i := 0) (v := ?_) rfl (by kernel_rfl) (by kernel_rfl) (by kernel_rfl) (fun _ _ _ h => h) (Yields.yieldsIf (Or.inl ⟨by rfl, ?_⟩)) hHeld ?_
          rotate_left
          · intro W
            go_simp
            try with_reducible rfl
          simp only [List.getElem_toArray, List.getElem_cons_succ, List.getElem_cons_zero, Act.put, List.setIfInBounds_toArray, List.set_cons_zero, List.set_cons_succ]
          refine wpAnyH_take (i := 1) (v := ?_) rfl (by kernel_rfl) (by kernel_rfl) (by kernel_rfl) (fun _ _ _ h => h) (Or.inl ⟨by rfl, ?_⟩) hHeld ?_
          rotate_left
          · intro W hW
            have hcl := (cell_ext (h := hW) pk1)
            go_simp
            try with_reducible rfl
          simp only [List.getElem_toArray, List.getElem_cons_succ, List.getElem_cons_zero, Act.put, List.setIfInBounds_toArray, List.set_cons_zero, List.set_cons_succ]
          refine wpAnyH_take (i := 2) (v := ?_) rfl (by kernel_rfl) (by kernel_rfl) (by kernel_rfl) (fun _ _ _ h => h) (Yields.yieldsIf (Or.inl ⟨by rfl, ?_⟩)) hHeld ?_
          rotate_left
          · intro W
            go_simp
            try with_reducible rfl
          simp only [List.getElem_toArray, List.getElem_cons_succ, List.getElem_cons_zero, Act.put, List.setIfInBounds_toArray, List.set_cons_zero, List.set_cons_succ]
          refine wpAnyH_take (i := 3) (v := ?_) rfl (by kernel_rfl) (by kernel_rfl) (by kernel_rfl) (fun _ _ _ h => h) (Or.inl ⟨by rfl, ?_⟩) hHeld ?_
          rotate_left
          · intro W hW
            have hcl := (cell_ext (h := hW) op3)
            go_simp
            try with_reducible rfl
          simp only [List.getElem_toArray, List.getElem_cons_succ, List.getElem_cons_zero, Act.put, List.setIfInBounds_toArray, List.set_cons_zero, List.set_cons_succ]
          refine wpAnyH_take (i := 4) (v := ?_) rfl (by kernel_rfl) (by kernel_rfl) (by kernel_rfl) (fun _ _ _ h => h) (Yields.yieldsIf (Or.inl ⟨by rfl, ?_⟩)) hHeld ?_
          rotate_left
          · intro W
            go_simp
            try with_reducible rfl
          simp only [List.getElem_toArray, List.getElem_cons_succ, List.getElem_cons_zero, Act.put, List.setIfInBounds_toArray, List.set_cons_zero, List.set_cons_succ]
          refine wpAnyH_take (i := 5) (v := ?_) rfl (by kernel_rfl) (by kernel_rfl) (by kernel_rfl) (fun _ _ _ h => h) (Or.inl ⟨by rfl, ?_⟩) hHeld ?_
          rotate_left
          · intro W hW
            have hcl := (cell_ext (h := hW) pk2)
            go_simp
            try with_reducible rfl
          simp only [List.getElem_toArray, List.getElem_cons_succ, List.getElem_cons_zero, Act.put, List.setIfInBounds_toArray, List.set_cons_zero, List.set_cons_succ]
          refine wpAnyH_take (i := 6) (v := ?_) rfl (by kernel_rfl) (by kernel_rfl) (by kernel_rfl) (fun _ _ _ h => h) (Yields.yieldsIf (Or.inl ⟨by rfl, ?_⟩)) hHeld ?_
          rotate_left
          · intro W
            go_simp
            try with_reducible rfl
          simp only [List.getElem_toArray, List.getElem_cons_succ, List.getElem_cons_zero, Act.put, List.setIfInBounds_toArray, List.set_cons_zero, List.set_cons_succ]
          refine wpAnyH_ready (rs := [7, 11]) (by kernel_rfl) (by simp) ?_
          refine AllReadyH.cons rfl (fun K hK => ?_) (AllReadyH.cons rfl (fun K hK => ?_) AllReadyH.nil)
          · refine step_call_w (by rfl) Try.func24 (by kernel_rfl) (by kernel_rfl) #[.const (.int .i64 10), .tmp 53, .tmp 55, .tmp 58] #[3, 3, 26, 41] rfl #[.int .i64 10, .int .i64 id, .int .u32 mm, .slice (some ad) 0 0] ?hv (rreply_any 10 id mm (some ad) 0 0 (xs.drop 4) hm0 hm1 HDL.out _ (by exact HDC.out.ext)) ?_
            case hv => go_simp
            rintro e w3 ⟨A3, c3, rfl, ho3, hb3⟩
            refine ⟨_, rfl, ?_⟩
            rw [HRR.out] at ho3 ⊢
            simp only at ho3 ⊢
            have S3 : Step w3 wd.drew := ⟨hb3⟩
            have X3 : Ext wd w3 := inferInstance
            have HO3 := Lib.hid ho3
            clear hb3 ho3 hHeld
            refine hK.out _ _ (by exact inferInstance) (fun hHeld => ?_)
            clear hK K
            simp only [List.getElem_toArray, List.getElem_cons_succ, List.getElem_cons_zero, Act.put, List.setIfInBounds_toArray, List.set_cons_zero, List.set_cons_succ]
            refine wpAnyH_take (i := 8) (v := ?_) rfl (by kernel_rfl) (by kernel_rfl) (by kernel_rfl) (fun _ _ _ h => h) (Yields.yieldsIf (Or.inl ⟨by rfl, ?_⟩)) hHeld ?_
            rotate_left
            · intro W
              go_simp
              try with_reducible rfl
            simp only [List.getElem_toArray, List.getElem_cons_succ, List.getElem_cons_zero, Act.put, List.setIfInBounds_toArray, List.set_cons_zero, List.set_cons_succ]
            refine wpAnyH_take (i := 9) (v := ?_) rfl (by kernel_rfl) (by kernel_rfl) (by kernel_rfl) (fun _ _ _ h => h) (Yields.yieldsIf (Or.inl ⟨by rfl, ?_⟩)) hHeld ?_
            rotate_left
            · intro W
              go_simp
              try with_reducible rfl
            simp only [List.getElem_toArray, List.getElem_cons_succ, List.getElem_cons_zero, Act.put, List.setIfInBounds_toArray, List.set_cons_zero, List.set_cons_succ]
            refine wpAnyH_take (i := 10) (v := ?_) rfl (by kernel_rfl) (by kernel_rfl) (by kernel_rfl) (fun _ _ _ h => h) (Yields.yieldsIf (Or.inl ⟨by rfl, ?_⟩)) hHeld ?_
            rotate_left
            · intro W
              go_simp
              try with_reducible rfl
            simp only [List.getElem_toArray, List.getElem_cons_succ, List.getElem_cons_zero, Act.put, List.setIfInBounds_toArray, List.set_cons_zero, List.set_cons_succ]
            refine wpAnyH_ready (rs := [11]) (by kernel_rfl) (by simp) ?_
            refine AllReadyH.cons rfl (fun K hK => ?_) AllReadyH.nil
            rw [if_pos (by rfl)]
            unfold Oper.wp
            go_simp
            clear hHeld
            refine hK.out _ _ (by exact inferInstance) (fun hHeld => ?_)
            clear hK K
            try simp only [List.getElem_toArray, List.getElem_cons_succ, List.getElem_cons_zero, Act.put, List.setIfInBounds_toArray, List.set_cons_zero, List.set_cons_succ]
            refine wpAnyH_ready (rs := [12]) (by kernel_rfl) (by simp) ?_
            refine AllReadyH.cons rfl (fun K hK => ?_) AllReadyH.nil
            refine step_store_row (by rfl) 43 (.tmp 7) (.tmp 60) rfl w3.heap.size #[.int .i64 ra, .int .i64 rb, .slice A3 rd.length c3] rfl rfl 43 #[.int .i64 0, .int .i64 0, .slice none 0 0] (at_new w3 zPk) (by kernel_rfl) rfl (by simp [Value.oneCell']) ?_
            clear hHeld
            refine hK.out _ _ (Ext.setRow_ (inferInstance : Ext wd (w3.alloc zPk)) X3.out.size _) (fun hHeld => ?_)
            clear hK K
            simp only [List.getElem_toArray, List.getElem_cons_succ, List.getElem_cons_zero, Act.put, List.setIfInBounds_toArray, List.set_cons_zero, List.set_cons_succ]
            refine wpAnyH_take (i := 13) (v := ?_) rfl (by kernel_rfl) (by kernel_rfl) (by kernel_rfl) (fun _ _ _ h => h) (Yields.yieldsIf (Or.inl ⟨by rfl, ?_⟩)) hHeld ?_
            rotate_left
            · intro W
              go_simp
              try with_reducible rfl
            simp only [List.getElem_toArray, List.getElem_cons_succ, List.getElem_cons_zero, Act.put, List.setIfInBounds_toArray, List.set_cons_zero, List.set_cons_succ]
            refine wpAnyH_done (by kernel_rfl) ?_ _
            clear hHeld
            obtain ⟨wf, hwf⟩ : ∃ wf, (w3.alloc zPk).setRow w3.heap.size #[.int .i64 ra, .int .i64 rb, .slice A3 rd.length c3] = wf := ⟨_, rfl⟩
            obtain ⟨bf, hbf⟩ : ∃ bf, w3.heap.size = bf := ⟨_, rfl⟩
            have hal : wf = w3.alloc (.cells #[.int .i64 ra, .int .i64 rb, .slice A3 rd.length c3] 43) := hwf.symm.trans (World.setRow_alloc_new w3 _ _ _)
            have Xf : Ext wd wf := by rw [hal]; exact inferInstance
            have YF : Ext w wf := Ext.trans_ YW Xf
            have X3f : Ext w3 wf := by rw [hal]; exact inferInstance
            have hbb : wf.heap[bf]? = some (.cells #[.int .i64 ra, .int .i64 rb, .slice A3 rd.length c3] 43 (0, 0)) := by rw [hal, ← hbf]; exact at_new w3 _
            rw [hwf, hbf]
            clear hal hwf hbf
            have HZf : Hid (wf.heap[w.heap.size + 2]? = some zPk) := (at_ext HZd.out)
            have HBf : Hid (wf.heap[bf]? = some (.cells #[.int .i64 ra, .int .i64 rb, .slice A3 rd.length c3] 43 (0, 0))) := hbb
            have HOf : Hid (wf.ownsRow w.heap.size 5 1 (.slice A3 rd.length c3) rd.length (nums .u8 rd)) := (own_weaken (own_ext HO3.out) (Nat.le_trans YW.out.size (by simp)))
            have HEf : Hid (Ext w wf) := YF
            have HNf : Hid ((Value.slice A3 rd.length c3).ownBlock ≠ some (w.heap.size + 2)) := (fun e => by have h1 := own_base HO3.out _ e; have h2 := at_lt HZd.out; simp at h1; omega)
            go_wp2_with
              (first
               | (refine wpList_load_row rfl 43 (.tmp 7) rfl bf rfl 43 #[.int .i64 ra, .int .i64 rb, .slice A3 rd.length c3] (0, 0) _ HBf.out Try.underlying43 rfl (by kernel_rfl) ?_)
               | (refine wpList_store_row rfl 43 (.tmp 4) (.tmp 62) rfl (w.heap.size + 2) #[.int .i64 ra, .int .i64 rb, .slice A3 rd.length c3] rfl rfl 43 #[.int .i64 0, .int .i64 0, .slice none 0 0] HZf.out (by kernel_rfl) rfl (by simp [Value.oneCell']) ?_))
            refine bodyPost_ret (results_cell_row3 Try.results20 _ _ (w.heap.size + 2) 43 #[.int .i64 ra, .int .i64 rb, .slice A3 rd.length c3] (0, 0) _ (.bool (re == 0)) (.int .i64 re) rfl rfl rfl (setRow_heap _ _ _ _ _ _ HZf.out) Try.underlying43 rfl (by kernel_rfl)) rfl ?_
            rw [HRF.out]
            exact ⟨A3, c3, rfl, own_setRow HOf.out HNf.out _, (Ext.setRow_ HEf.out (by omega) _).out⟩
          · rw [if_pos (by rfl)]
            unfold Oper.wp
            go_simp
            refine hK.out _ _ (by exact inferInstance) (fun hHeld => ?_)
            clear hK K
            try simp only [List.getElem_toArray, List.getElem_cons_succ, List.getElem_cons_zero, Act.put, List.setIfInBounds_toArray, List.set_cons_zero, List.set_cons_succ]
            refine wpAnyH_ready (rs := [7]) (by kernel_rfl) (by simp) ?_
            refine AllReadyH.cons rfl (fun K hK => ?_) AllReadyH.nil
            refine step_call_w (by rfl) Try.func24 (by kernel_rfl) (by kernel_rfl) #[.const (.int .i64 10), .tmp 53, .tmp 55, .tmp 58] #[3, 3, 26, 41] rfl #[.int .i64 10, .int .i64 id, .int .u32 mm, .slice (some ad) 0 0] ?hv (rreply_any 10 id mm (some ad) 0 0 (xs.drop 4) hm0 hm1 HDL.out _ (by exact HDC.out.ext)) ?_
            case hv => go_simp
            rintro e w3 ⟨A3, c3, rfl, ho3, hb3⟩
            refine ⟨_, rfl, ?_⟩
            rw [HRR.out] at ho3 ⊢
            simp only at ho3 ⊢
            have S3 : Step w3 (wd.drew.alloc zPk) := ⟨hb3⟩
            have X3 : Ext wd w3 := Ext.trans_ (inferInstance : Ext wd (wd.drew.alloc zPk)) (inferInstance : Ext (wd.drew.alloc zPk) w3)
            have HO3 := Lib.hid ho3
            have HZ3 : Hid (w3.heap[wd.heap.size]? = some zPk) := at_ext (w := wd.drew.alloc zPk) (at_new wd.drew zPk)
            clear hb3 ho3 hHeld
            refine hK.out _ _ (by exact inferInstance) (fun hHeld => ?_)
            clear hK K
            simp only [List.getElem_toArray, List.getElem_cons_succ, List.getElem_cons_zero, Act.put, List.setIfInBounds_toArray, List.set_cons_zero, List.set_cons_succ]
            refine wpAnyH_take (i := 8) (v := ?_) rfl (by kernel_rfl) (by kernel_rfl) (by kernel_rfl) (fun _ _ _ h => h) (Yields.yieldsIf (Or.inl ⟨by rfl, ?_⟩)) hHeld ?_
            rotate_left
            · intro W
              go_simp
              try with_reducible rfl
            simp only [List.getElem_toArray, List.getElem_cons_succ, List.getElem_cons_zero, Act.put, List.setIfInBounds_toArray, List.set_cons_zero, List.set_cons_succ]
            refine wpAnyH_take (i := 9) (v := ?_) rfl (by kernel_rfl) (by kernel_rfl) (by kernel_rfl) (fun _ _ _ h => h) (Yields.yieldsIf (Or.inl ⟨by rfl, ?_⟩)) hHeld ?_
            rotate_left
            · intro W
              go_simp
              try with_reducible rfl
            simp only [List.getElem_toArray, List.getElem_cons_succ, List.getElem_cons_zero, Act.put, List.setIfInBounds_toArray, List.set_cons_zero, List.set_cons_succ]
            refine wpAnyH_take (i := 10) (v := ?_) rfl (by kernel_rfl) (by kernel_rfl) (by kernel_rfl) (fun _ _ _ h => h) (Yields.yieldsIf (Or.inl ⟨by rfl, ?_⟩)) hHeld ?_
            rotate_left
            · intro W
              go_simp
              try with_reducible rfl
            simp only [List.getElem_toArray, List.getElem_cons_succ, List.getElem_cons_zero, Act.put, List.setIfInBounds_toArray, List.set_cons_zero, List.set_cons_succ]
            refine wpAnyH_ready (rs := [12]) (by kernel_rfl) (by simp) ?_
            refine AllReadyH.cons rfl (fun K hK => ?_) AllReadyH.nil
            refine step_store_row (by rfl) 43 (.tmp 7) (.tmp 60) rfl wd.heap.size #[.int .i64 ra, .int .i64 rb, .slice A3 rd.length c3] rfl rfl 43 #[.int .i64 0, .int .i64 0, .slice none 0 0] HZ3.out (by kernel_rfl) rfl (by simp [Value.oneCell']) ?_
            clear hHeld
            refine hK.out _ _ (Ext.setRow_ X3 (Nat.le_refl _) _) (fun hHeld => ?_)
            clear hK K
            simp only [List.getElem_toArray, List.getElem_cons_succ, List.getElem_cons_zero, Act.put, List.setIfInBounds_toArray, List.set_cons_zero, List.set_cons_succ]
            refine wpAnyH_take (i := 13) (v := ?_) rfl (by kernel_rfl) (by kernel_rfl) (by kernel_rfl) (fun _ _ _ h => h) (Yields.yieldsIf (Or.inl ⟨by rfl, ?_⟩)) hHeld ?_
            rotate_left
            · intro W
              go_simp
              try with_reducible rfl
            simp only [List.getElem_toArray, List.getElem_cons_succ, List.getElem_cons_zero, Act.put, List.setIfInBounds_toArray, List.set_cons_zero, List.set_cons_succ]
            refine wpAnyH_done (by kernel_rfl) ?_ _
            clear hHeld
            have hne3 : (Value.slice A3 rd.length c3).ownBlock ≠ some wd.heap.size := fun e => by
              have h1 := own_base HO3.out _ e
              simp at h1
              omega
            have hof : (w3.setRow wd.heap.size #[.int .i64 ra, .int .i64 rb, .slice A3 rd.length c3]).ownsRow w.heap.size 5 1 (.slice A3 rd.length c3) rd.length (nums .u8 rd) := own_weaken (own_setRow HO3.out hne3 _) (Nat.le_trans YW.out.size (by simp))
            obtain ⟨wf, hwf⟩ : ∃ wf, w3.setRow wd.heap.size #[.int .i64 ra, .int .i64 rb, .slice A3 rd.length c3] = wf := ⟨_, rfl⟩
            obtain ⟨bf, hbf⟩ : ∃ bf, wd.heap.size = bf := ⟨_, rfl⟩
            have Xf : Ext wd wf := by rw [← hwf]; exact Ext.setRow_ X3 (Nat.le_refl _) _
            have YF : Ext w wf := Ext.trans_ YW Xf
            have hbb : wf.heap[bf]? = some (.cells #[.int .i64 ra, .int .i64 rb, .slice A3 rd.length c3] 43 (0, 0)) := by rw [← hwf, ← hbf]; exact setRow_heap _ _ _ _ _ _ HZ3.out
            have hn2 : (Value.slice A3 rd.length c3).ownBlock ≠ some (w.heap.size + 2) := fun e => by
              have h1 := own_base HO3.out _ e
              have h2 := at_lt HZd.out
              simp at h1
              omega
            rw [hwf] at hof ⊢
            rw [hbf]
            clear hwf hbf hne3
            have HZf : Hid (wf.heap[w.heap.size + 2]? = some zPk) := (at_ext HZd.out)
            have HBf : Hid (wf.heap[bf]? = some (.cells #[.int .i64 ra, .int .i64 rb, .slice A3 rd.length c3] 43 (0, 0))) := hbb
            have HOf : Hid (wf.ownsRow w.heap.size 5 1 (.slice A3 rd.length c3) rd.length (nums .u8 rd)) := hof
            have HEf : Hid (Ext w wf) := YF
            have HNf : Hid ((Value.slice A3 rd.length c3).ownBlock ≠ some (w.heap.size + 2)) := hn2
            go_wp2_with
              (first
               | (refine wpList_load_row rfl 43 (.tmp 7) rfl bf rfl 43 #[.int .i64 ra, .int .i64 rb, .slice A3 rd.length c3] (0, 0) _ HBf.out Try.underlying43 rfl (by kernel_rfl) ?_)
               | (refine wpList_store_row rfl 43 (.tmp 4) (.tmp 62) rfl (w.heap.size + 2) #[.int .i64 ra, .int .i64 rb, .slice A3 rd.length c3] rfl rfl 43 #[.int .i64 0, .int .i64 0, .slice none 0 0] HZf.out (by kernel_rfl) rfl (by simp [Value.oneCell']) ?_))
            refine bodyPost_ret (results_cell_row3 Try.results20 _ _ (w.heap.size + 2) 43 #[.int .i64 ra, .int .i64 rb, .slice A3 rd.length c3] (0, 0) _ (.bool (re == 0)) (.int .i64 re) rfl rfl rfl (setRow_heap _ _ _ _ _ _ HZf.out) Try.underlying43 rfl (by kernel_rfl)) rfl ?_
            rw [HRF.out]
            exact ⟨A3, c3, rfl, own_setRow HOf.out HNf.out _, (Ext.setRow_ HEf.out (by omega) _).out⟩
        · obtain ⟨ad, rfl, _⟩ := HX.out (by rw [nums_length, Hn.out]; omega)
          have HDC : Hid (Cells w (some (ad.add 4)) (nums .u8 (xs.drop 4))) := by
            have h1 := HX.out.drop (n := n) (c := c) (size := 1) (by rw [nums_length, Nat.mul_one, Hn.out]) hnc 4 h4n'
            rw [if_neg hc44, Nat.mul_one, ← nums_drop] at h1
            exact h1
          go_wp2
          obtain ⟨⟨⟨ra, rb⟩, rd, re⟩, hrr⟩ : ∃ r, replyF 10 id mm (xs.drop 4) = r := ⟨_, rfl⟩
          have HRR := Lib.hid hrr
          have HRF : Hid (echoF 9 id xs mm = (((ra, rb), rd), re == 0, re)) := by unfold Hid; rw [HR0.out, hrr]
          have HDL : Hid ((xs.drop 4).length = (n - 4)) := by unfold Hid; rw [List.length_drop, Hn.out]
          have HZd : Hid (wd.heap[w.heap.size + 2]? = some zPk) := HZDD.out
          clear hrr
          refine wp_region_held_drew (S := fun W => Ext wd W) (by kernel_rfl) (by exact inferInstance) (fun hHeld => ?_)
          refine wpAnyH_take (i := 0) (v := ?_) rfl (by kernel_rfl) (by kernel_rfl) (by kernel_rfl) (fun _ _ _ h => h) (Yields.yieldsIf (Or.inl ⟨by rfl, ?_⟩)) hHeld ?_
          rotate_left
          · intro W
            go_simp
            try with_reducible rfl
          simp only [List.getElem_toArray, List.getElem_cons_succ, List.getElem_cons_zero, Act.put, List.setIfInBounds_toArray, List.set_cons_zero, List.set_cons_succ]
          refine wpAnyH_take (i := 1) (v := ?_) rfl (by kernel_rfl) (by kernel_rfl) (by kernel_rfl) (fun _ _ _ h => h) (Or.inl ⟨by rfl, ?_⟩) hHeld ?_
          rotate_left
          · intro W hW
            have hcl := (cell_ext (h := hW) pk1)
            go_simp
            try with_reducible rfl
          simp only [List.getElem_toArray, List.getElem_cons_succ, List.getElem_cons_zero, Act.put, List.setIfInBounds_toArray, List.set_cons_zero, List.set_cons_succ]
          refine wpAnyH_take (i := 2) (v := ?_) rfl (by kernel_rfl) (by kernel_rfl) (by kernel_rfl) (fun _ _ _ h => h) (Yields.yieldsIf (Or.inl ⟨by rfl, ?_⟩)) hHeld ?_
          rotate_left
          · intro W
            go_simp
            try with_reducible rfl
          simp only [List.getElem_toArray, List.getElem_cons_succ, List.getElem_cons_zero, Act.put, List.setIfInBounds_toArray, List.set_cons_zero, List.set_cons_succ]
          refine wpAnyH_take (i := 3) (v := ?_) rfl (by kernel_rfl) (by kernel_rfl) (by kernel_rfl) (fun _ _ _ h => h) (Or.inl ⟨by rfl, ?_⟩) hHeld ?_
          rotate_left
          · intro W hW
            have hcl := (cell_ext (h := hW) op3)
            go_simp
            try with_reducible rfl
          simp only [List.getElem_toArray, List.getElem_cons_succ, List.getElem_cons_zero, Act.put, List.setIfInBounds_toArray, List.set_cons_zero, List.set_cons_succ]
          refine wpAnyH_take (i := 4) (v := ?_) rfl (by kernel_rfl) (by kernel_rfl) (by kernel_rfl) (fun _ _ _ h => h) (Yields.yieldsIf (Or.inl ⟨by rfl, ?_⟩)) hHeld ?_
          rotate_left
          · intro W
            go_simp
            try with_reducible rfl
          simp only [List.getElem_toArray, List.getElem_cons_succ, List.getElem_cons_zero, Act.put, List.setIfInBounds_toArray, List.set_cons_zero, List.set_cons_succ]
          refine wpAnyH_take (i := 5) (v := ?_) rfl (by kernel_rfl) (by kernel_rfl) (by kernel_rfl) (fun _ _ _ h => h) (Or.inl ⟨by rfl, ?_⟩) hHeld ?_
          rotate_left
          · intro W hW
            have hcl := (cell_ext (h := hW) pk2)
            go_simp
            try with_reducible rfl
          simp only [List.getElem_toArray, List.getElem_cons_succ, List.getElem_cons_zero, Act.put, List.setIfInBounds_toArray, List.set_cons_zero, List.set_cons_succ]
          refine wpAnyH_take (i := 6) (v := ?_) rfl (by kernel_rfl) (by kernel_rfl) (by kernel_rfl) (fun _ _ _ h => h) (Yields.yieldsIf (Or.inl ⟨by rfl, ?_⟩)) hHeld ?_
          rotate_left
          · intro W
            go_simp
            try with_reducible rfl
          simp only [List.getElem_toArray, List.getElem_cons_succ, List.getElem_cons_zero, Act.put, List.setIfInBounds_toArray, List.set_cons_zero, List.set_cons_succ]
          refine wpAnyH_ready (rs := [7, 11]) (by kernel_rfl) (by simp) ?_
          refine AllReadyH.cons rfl (fun K hK => ?_) (AllReadyH.cons rfl (fun K hK => ?_) AllReadyH.nil)
          · refine step_call_w (by rfl) Try.func24 (by kernel_rfl) (by kernel_rfl) #[.const (.int .i64 10), .tmp 53, .tmp 55, .tmp 58] #[3, 3, 26, 41] rfl #[.int .i64 10, .int .i64 id, .int .u32 mm, .slice (some (ad.add 4)) (n - 4) (c - 4)] ?hv (rreply_any 10 id mm (some (ad.add 4)) (n - 4) (c - 4) (xs.drop 4) hm0 hm1 HDL.out _ (by exact HDC.out.ext)) ?_
            case hv => go_simp
            rintro e w3 ⟨A3, c3, rfl, ho3, hb3⟩
            refine ⟨_, rfl, ?_⟩
            rw [HRR.out] at ho3 ⊢
            simp only at ho3 ⊢
            have S3 : Step w3 wd.drew := ⟨hb3⟩
            have X3 : Ext wd w3 := inferInstance
            have HO3 := Lib.hid ho3
            clear hb3 ho3 hHeld
            refine hK.out _ _ (by exact inferInstance) (fun hHeld => ?_)
            clear hK K
            simp only [List.getElem_toArray, List.getElem_cons_succ, List.getElem_cons_zero, Act.put, List.setIfInBounds_toArray, List.set_cons_zero, List.set_cons_succ]
            refine wpAnyH_take (i := 8) (v := ?_) rfl (by kernel_rfl) (by kernel_rfl) (by kernel_rfl) (fun _ _ _ h => h) (Yields.yieldsIf (Or.inl ⟨by rfl, ?_⟩)) hHeld ?_
            rotate_left
            · intro W
              go_simp
              try with_reducible rfl
            simp only [List.getElem_toArray, List.getElem_cons_succ, List.getElem_cons_zero, Act.put, List.setIfInBounds_toArray, List.set_cons_zero, List.set_cons_succ]
            refine wpAnyH_take (i := 9) (v := ?_) rfl (by kernel_rfl) (by kernel_rfl) (by kernel_rfl) (fun _ _ _ h => h) (Yields.yieldsIf (Or.inl ⟨by rfl, ?_⟩)) hHeld ?_
            rotate_left
            · intro W
              go_simp
              try with_reducible rfl
            simp only [List.getElem_toArray, List.getElem_cons_succ, List.getElem_cons_zero, Act.put, List.setIfInBounds_toArray, List.set_cons_zero, List.set_cons_succ]
            refine wpAnyH_take (i := 10) (v := ?_) rfl (by kernel_rfl) (by kernel_rfl) (by kernel_rfl) (fun _ _ _ h => h) (Yields.yieldsIf (Or.inl ⟨by rfl, ?_⟩)) hHeld ?_
            rotate_left
            · intro W
              go_simp
              try with_reducible rfl
            simp only [List.getElem_toArray, List.getElem_cons_succ, List.getElem_cons_zero, Act.put, List.setIfInBounds_toArray, List.set_cons_zero, List.set_cons_succ]
            refine wpAnyH_ready (rs := [11]) (by kernel_rfl) (by simp) ?_
            refine AllReadyH.cons rfl (fun K hK => ?_) AllReadyH.nil
            rw [if_pos (by rfl)]
            unfold Oper.wp
            go_simp
            clear hHeld
            refine hK.out _ _ (by exact inferInstance) (fun hHeld => ?_)
            clear hK K
            try simp only [List.getElem_toArray, List.getElem_cons_succ, List.getElem_cons_zero, Act.put, List.setIfInBounds_toArray, List.set_cons_zero, List.set_cons_succ]
            refine wpAnyH_ready (rs := [12]) (by kernel_rfl) (by simp) ?_
            refine AllReadyH.cons rfl (fun K hK => ?_) AllReadyH.nil
            refine step_store_row (by rfl) 43 (.tmp 7) (.tmp 60) rfl w3.heap.size #[.int .i64 ra, .int .i64 rb, .slice A3 rd.length c3] rfl rfl 43 #[.int .i64 0, .int .i64 0, .slice none 0 0] (at_new w3 zPk) (by kernel_rfl) rfl (by simp [Value.oneCell']) ?_
            clear hHeld
            refine hK.out _ _ (Ext.setRow_ (inferInstance : Ext wd (w3.alloc zPk)) X3.out.size _) (fun hHeld => ?_)
            clear hK K
            simp only [List.getElem_toArray, List.getElem_cons_succ, List.getElem_cons_zero, Act.put, List.setIfInBounds_toArray, List.set_cons_zero, List.set_cons_succ]
            refine wpAnyH_take (i := 13) (v := ?_) rfl (by kernel_rfl) (by kernel_rfl) (by kernel_rfl) (fun _ _ _ h => h) (Yields.yieldsIf (Or.inl ⟨by rfl, ?_⟩)) hHeld ?_
            rotate_left
            · intro W
              go_simp
              try with_reducible rfl
            simp only [List.getElem_toArray, List.getElem_cons_succ, List.getElem_cons_zero, Act.put, List.setIfInBounds_toArray, List.set_cons_zero, List.set_cons_succ]
            refine wpAnyH_done (by kernel_rfl) ?_ _
            clear hHeld
            obtain ⟨wf, hwf⟩ : ∃ wf, (w3.alloc zPk).setRow w3.heap.size #[.int .i64 ra, .int .i64 rb, .slice A3 rd.length c3] = wf := ⟨_, rfl⟩
            obtain ⟨bf, hbf⟩ : ∃ bf, w3.heap.size = bf := ⟨_, rfl⟩
            have hal : wf = w3.alloc (.cells #[.int .i64 ra, .int .i64 rb, .slice A3 rd.length c3] 43) := hwf.symm.trans (World.setRow_alloc_new w3 _ _ _)
            have Xf : Ext wd wf := by rw [hal]; exact inferInstance
            have YF : Ext w wf := Ext.trans_ YW Xf
            have X3f : Ext w3 wf := by rw [hal]; exact inferInstance
            have hbb : wf.heap[bf]? = some (.cells #[.int .i64 ra, .int .i64 rb, .slice A3 rd.length c3] 43 (0, 0)) := by rw [hal, ← hbf]; exact at_new w3 _
            rw [hwf, hbf]
            clear hal hwf hbf
            have HZf : Hid (wf.heap[w.heap.size + 2]? = some zPk) := (at_ext HZd.out)
            have HBf : Hid (wf.heap[bf]? = some (.cells #[.int .i64 ra, .int .i64 rb, .slice A3 rd.length c3] 43 (0, 0))) := hbb
            have HOf : Hid (wf.ownsRow w.heap.size 5 1 (.slice A3 rd.length c3) rd.length (nums .u8 rd)) := (own_weaken (own_ext HO3.out) (Nat.le_trans YW.out.size (by simp)))
            have HEf : Hid (Ext w wf) := YF
            have HNf : Hid ((Value.slice A3 rd.length c3).ownBlock ≠ some (w.heap.size + 2)) := (fun e => by have h1 := own_base HO3.out _ e; have h2 := at_lt HZd.out; simp at h1; omega)
            go_wp2_with
              (first
               | (refine wpList_load_row rfl 43 (.tmp 7) rfl bf rfl 43 #[.int .i64 ra, .int .i64 rb, .slice A3 rd.length c3] (0, 0) _ HBf.out Try.underlying43 rfl (by kernel_rfl) ?_)
               | (refine wpList_store_row rfl 43 (.tmp 4) (.tmp 62) rfl (w.heap.size + 2) #[.int .i64 ra, .int .i64 rb, .slice A3 rd.length c3] rfl rfl 43 #[.int .i64 0, .int .i64 0, .slice none 0 0] HZf.out (by kernel_rfl) rfl (by simp [Value.oneCell']) ?_))
            refine bodyPost_ret (results_cell_row3 Try.results20 _ _ (w.heap.size + 2) 43 #[.int .i64 ra, .int .i64 rb, .slice A3 rd.length c3] (0, 0) _ (.bool (re == 0)) (.int .i64 re) rfl rfl rfl (setRow_heap _ _ _ _ _ _ HZf.out) Try.underlying43 rfl (by kernel_rfl)) rfl ?_
            rw [HRF.out]
            exact ⟨A3, c3, rfl, own_setRow HOf.out HNf.out _, (Ext.setRow_ HEf.out (by omega) _).out⟩
          · rw [if_pos (by rfl)]
            unfold Oper.wp
            go_simp
            refine hK.out _ _ (by exact inferInstance) (fun hHeld => ?_)
            clear hK K
            try simp only [List.getElem_toArray, List.getElem_cons_succ, List.getElem_cons_zero, Act.put, List.setIfInBounds_toArray, List.set_cons_zero, List.set_cons_succ]
            refine wpAnyH_ready (rs := [7]) (by kernel_rfl) (by simp) ?_
            refine AllReadyH.cons rfl (fun K hK => ?_) AllReadyH.nil
            refine step_call_w (by rfl) Try.func24 (by kernel_rfl) (by kernel_rfl) #[.const (.int .i64 10), .tmp 53, .tmp 55, .tmp 58] #[3, 3, 26, 41] rfl #[.int .i64 10, .int .i64 id, .int .u32 mm, .slice (some (ad.add 4)) (n - 4) (c - 4)] ?hv (rreply_any 10 id mm (some (ad.add 4)) (n - 4) (c - 4) (xs.drop 4) hm0 hm1 HDL.out _ (by exact HDC.out.ext)) ?_
            case hv => go_simp
            rintro e w3 ⟨A3, c3, rfl, ho3, hb3⟩
            refine ⟨_, rfl, ?_⟩
            rw [HRR.out] at ho3 ⊢
            simp only at ho3 ⊢
            have S3 : Step w3 (wd.drew.alloc zPk) := ⟨hb3⟩
            have X3 : Ext wd w3 := Ext.trans_ (inferInstance : Ext wd (wd.drew.alloc zPk)) (inferInstance : Ext (wd.drew.alloc zPk) w3)
            have HO3 := Lib.hid ho3
            have HZ3 : Hid (w3.heap[wd.heap.size]? = some zPk) := at_ext (w := wd.drew.alloc zPk) (at_new wd.drew zPk)
            clear hb3 ho3 hHeld
            refine hK.out _ _ (by exact inferInstance) (fun hHeld => ?_)
            clear hK K
            simp only [List.getElem_toArray, List.getElem_cons_succ, List.getElem_cons_zero, Act.put, List.setIfInBounds_toArray, List.set_cons_zero, List.set_cons_succ]
            refine wpAnyH_take (i := 8) (v := ?_) rfl (by kernel_rfl) (by kernel_rfl) (by kernel_rfl) (fun _ _ _ h => h) (Yields.yieldsIf (Or.inl ⟨by rfl, ?_⟩)) hHeld ?_
            rotate_left
            · intro W
              go_simp
              try with_reducible rfl
            simp only [List.getElem_toArray, List.getElem_cons_succ, List.getElem_cons_zero, Act.put, List.setIfInBounds_toArray, List.set_cons_zero, List.set_cons_succ]
            refine wpAnyH_take (i := 9) (v := ?_) rfl (by kernel_rfl) (by kernel_rfl) (by kernel_rfl) (fun _ _ _ h => h) (Yields.yieldsIf (Or.inl ⟨by rfl, ?_⟩)) hHeld ?_
            rotate_left
            · intro W
              go_simp
              try with_reducible rfl
            simp only [List.getElem_toArray, List.getElem_cons_succ, List.getElem_cons_zero, Act.put, List.setIfInBounds_toArray, List.set_cons_zero, List.set_cons_succ]
            refine wpAnyH_take (i := 10) (v := ?_) rfl (by kernel_rfl) (by kernel_rfl) (by kernel_rfl) (fun _ _ _ h => h) (Yields.yieldsIf (Or.inl ⟨by rfl, ?_⟩)) hHeld ?_
            rotate_left
            · intro W
              go_simp
              try with_reducible rfl
            simp only [List.getElem_toArray, List.getElem_cons_succ, List.getElem_cons_zero, Act.put, List.setIfInBounds_toArray, List.set_cons_zero, List.set_cons_succ]
            refine wpAnyH_ready (rs := [12]) (by kernel_rfl) (by simp) ?_
            refine AllReadyH.cons rfl (fun K hK => ?_) AllReadyH.nil
            refine step_store_row (by rfl) 43 (.tmp 7) (.tmp 60) rfl wd.heap.size #[.int .i64 ra, .int .i64 rb, .slice A3 rd.length c3] rfl rfl 43 #[.int .i64 0, .int .i64 0, .slice none 0 0] HZ3.out (by kernel_rfl) rfl (by simp [Value.oneCell']) ?_
            clear hHeld
            refine hK.out _ _ (Ext.setRow_ X3 (Nat.le_refl _) _) (fun hHeld => ?_)
            clear hK K
            simp only [List.getElem_toArray, List.getElem_cons_succ, List.getElem_cons_zero, Act.put, List.setIfInBounds_toArray, List.set_cons_zero, List.set_cons_succ]
            refine wpAnyH_take (i := 13) (v := ?_) rfl (by kernel_rfl) (by kernel_rfl) (by kernel_rfl) (fun _ _ _ h => h) (Yields.yieldsIf (Or.inl ⟨by rfl, ?_⟩)) hHeld ?_
            rotate_left
            · intro W
              go_simp
              try with_reducible rfl
            simp only [List.getElem_toArray, List.getElem_cons_succ, List.getElem_cons_zero, Act.put, List.setIfInBounds_toArray, List.set_cons_zero, List.set_cons_succ]
            refine wpAnyH_done (by kernel_rfl) ?_ _
            clear hHeld
            have hne3 : (Value.slice A3 rd.length c3).ownBlock ≠ some wd.heap.size := fun e => by
              have h1 := own_base HO3.out _ e
              simp at h1
              omega
            have hof : (w3.setRow wd.heap.size #[.int .i64 ra, .int .i64 rb, .slice A3 rd.length c3]).ownsRow w.heap.size 5 1 (.slice A3 rd.length c3) rd.length (nums .u8 rd) := own_weaken (own_setRow HO3.out hne3 _) (Nat.le_trans YW.out.size (by simp))
            obtain ⟨wf, hwf⟩ : ∃ wf, w3.setRow wd.heap.size #[.int .i64 ra, .int .i64 rb, .slice A3 rd.length c3] = wf := ⟨_, rfl⟩
            obtain ⟨bf, hbf⟩ : ∃ bf, wd.heap.size = bf := ⟨_, rfl⟩
            have Xf : Ext wd wf := by rw [← hwf]; exact Ext.setRow_ X3 (Nat.le_refl _) _
            have YF : Ext w wf := Ext.trans_ YW Xf
            have hbb : wf.heap[bf]? = some (.cells #[.int .i64 ra, .int .i64 rb, .slice A3 rd.length c3] 43 (0, 0)) := by rw [← hwf, ← hbf]; exact setRow_heap _ _ _ _ _ _ HZ3.out
            have hn2 : (Value.slice A3 rd.length c3).ownBlock ≠ some (w.heap.size + 2) := fun e => by
              have h1 := own_base HO3.out _ e
              have h2 := at_lt HZd.out
              simp at h1
              omega
            rw [hwf] at hof ⊢
            rw [hbf]
            clear hwf hbf hne3
            have HZf : Hid (wf.heap[w.heap.size + 2]? = some zPk) := (at_ext HZd.out)
            have HBf : Hid (wf.heap[bf]? = some (.cells #[.int .i64 ra, .int .i64 rb, .slice A3 rd.length c3] 43 (0, 0))) := hbb
            have HOf : Hid (wf.ownsRow w.heap.size 5 1 (.slice A3 rd.length c3) rd.length (nums .u8 rd)) := hof
            have HEf : Hid (Ext w wf) := YF
            have HNf : Hid ((Value.slice A3 rd.length c3).ownBlock ≠ some (w.heap.size + 2)) := hn2
            go_wp2_with
              (first
               | (refine wpList_load_row rfl 43 (.tmp 7) rfl bf rfl 43 #[.int .i64 ra, .int .i64 rb, .slice A3 rd.length c3] (0, 0) _ HBf.out Try.underlying43 rfl (by kernel_rfl) ?_)
               | (refine wpList_store_row rfl 43 (.tmp 4) (.tmp 62) rfl (w.heap.size + 2) #[.int .i64 ra, .int .i64 rb, .slice A3 rd.length c3] rfl rfl 43 #[.int .i64 0, .int .i64 0, .slice none 0 0] HZf.out (by kernel_rfl) rfl (by simp [Value.oneCell']) ?_))
            refine bodyPost_ret (results_cell_row3 Try.results20 _ _ (w.heap.size + 2) 43 #[.int .i64 ra, .int .i64 rb, .slice A3 rd.length c3] (0, 0) _ (.bool (re == 0)) (.int .i64 re) rfl rfl rfl (setRow_heap _ _ _ _ _ _ HZf.out) Try.underlying43 rfl (by kernel_rfl)) rfl ?_
            rw [HRF.out]
            exact ⟨A3, c3, rfl, own_setRow HOf.out HNf.out _, (Ext.setRow_ HEf.out (by omega) _).out⟩
  · skip
    clear h9 h9a h9b
    by_cases hy : mm ≠ 0 ∧ N = mm
    · skip
      have HR : Hid (echoF 10 id xs mm = (((0, 0), []), false, 0)) := by unfold Hid; rw [HE0.out, if_pos hy]
      have hz1 : (mm != 0) = true := by simpa using hy.1
      have hz2 : (N == mm) = true := by simpa using hy.2
      clear hy
      have HZP : Hid ((((w.alloc (.cells #[.int .i64 10, .int .i64 id, .slice A n c] 43)).alloc (.cells #[.int .i64 mru, .int .i64 accm, .int .i64 auth, .int .u32 mm, .bool b1, .bool b2] 28)).alloc zPk).heap[w.heap.size + 2]? = some zPk) := at_new1 (by simp)
      have HPK : Hid ((((w.alloc (.cells #[.int .i64 10, .int .i64 id, .slice A n c] 43)).alloc (.cells #[.int .i64 mru, .int .i64 accm, .int .i64 auth, .int .u32 mm, .bool b1, .bool b2] 28)).alloc zPk).heap[w.heap.size]? = some (.cells #[.int .i64 10, .int .i64 id, .slice A n c] 43 (0, 0))) := at_ext (at_new w _)
      have HOP : Hid ((((w.alloc (.cells #[.int .i64 10, .int .i64 id, .slice A n c] 43)).alloc (.cells #[.int .i64 mru, .int .i64 accm, .int .i64 auth, .int .u32 mm, .bool b1, .bool b2] 28)).alloc zPk).heap[w.heap.size + 1]? = some (.cells #[.int .i64 mru, .int .i64 accm, .int .i64 auth, .int .u32 mm, .bool b1, .bool b2] 28 (0, 0))) := at_ext (w := (w.alloc (.cells #[.int .i64 10, .int .i64 id, .slice A n c] 43)).alloc (.cells #[.int .i64 mru, .int .i64 accm, .int .i64 auth, .int .u32 mm, .bool b1, .bool b2] 28)) (at_new1 (by simp))
      go_enter Try.func20, Try.ntmps20
      go_wp2
      have HW0 : Hid (Ext w (((w.alloc (.cells #[.int .i64 10, .int .i64 id, .slice A n c] 43)).alloc (.cells #[.int .i64 mru, .int .i64 accm, .int .i64 auth, .int .u32 mm, .bool b1, .bool b2] 28)).alloc zPk)) := inferInstanceAs (Ext w _)
      obtain ⟨w0, hw0⟩ : ∃ w0, ((w.alloc (.cells #[.int .i64 10, .int .i64 id, .slice A n c] 43)).alloc (.cells #[.int .i64 mru, .int .i64 accm, .int .i64 auth, .int .u32 mm, .bool b1, .bool b2] 28)).alloc zPk = w0 := ⟨_, rfl⟩
      rw [hw0] at HPK HOP HW0 HZP
      have pk2 : w0.cell? ⟨w.heap.size, 2, none⟩ = some (.slice A n c) := at_cell HPK.out 2
      have op3 : w0.cell? ⟨w.heap.size + 1, 3, none⟩ = some (.int .u32 mm) := at_cell HOP.out 3
      have Y0 : Ext w w0 := HW0.out
      try rw [hw0]
      refine wp_region_held_drew (S := fun W => Ext w0 W) (by kernel_rfl) (by exact inferInstance) (fun hHeld => ?_)
      refine wpAnyH_take (i := 0) (v := ?_) rfl (by kernel_rfl) (by kernel_rfl) (by kernel_rfl) (fun _ _ _ h => h) (Yields.yieldsIf (Or.inl ⟨by rfl, ?_⟩)) hHeld ?_
      rotate_left
      · intro W
        go_simp
        try with_reducible rfl
      simp only [List.getElem_toArray, List.getElem_cons_succ, List.getElem_cons_zero, Act.put, List.setIfInBounds_toArray, List.set_cons_zero, List.set_cons_succ]
      refine wpAnyH_take (i := 1) (v := ?_) rfl (by kernel_rfl) (by kernel_rfl) (by kernel_rfl) (fun _ _ _ h => h) (Or.inl ⟨by rfl, ?_⟩) hHeld ?_
      rotate_left
      · intro W hW
        have hcl := (cell_ext (h := hW) op3)
        go_simp
        try with_reducible rfl
      simp only [List.getElem_toArray, List.getElem_cons_succ, List.getElem_cons_zero, Act.put, List.setIfInBounds_toArray, List.set_cons_zero, List.set_cons_succ]
      refine wpAnyH_take (i := 2) (v := ?_) rfl (by kernel_rfl) (by kernel_rfl) (by kernel_rfl) (fun _ _ _ h => h) (Yields.yieldsIf (Or.inl ⟨by rfl, ?_⟩)) hHeld ?_
      rotate_left
      · intro W
        go_simp
        try with_reducible rfl
      simp only [List.getElem_toArray, List.getElem_cons_succ, List.getElem_cons_zero, Act.put, List.setIfInBounds_toArray, List.set_cons_zero, List.set_cons_succ]
      refine wpAnyH_take (i := 3) (v := ?_) rfl (by kernel_rfl) (by kernel_rfl) (by kernel_rfl) (fun _ _ _ h => h) (Yields.yieldsIf (Or.inl ⟨by rfl, ?_⟩)) hHeld ?_
      rotate_left
      · intro W
        go_simp
        try with_reducible rfl
      simp only [List.getElem_toArray, List.getElem_cons_succ, List.getElem_cons_zero, Act.put, List.setIfInBounds_toArray, List.set_cons_zero, List.set_cons_succ]
      refine wpAnyH_take (i := 4) (v := ?_) rfl (by kernel_rfl) (by kernel_rfl) (by kernel_rfl) (fun _ _ _ h => h) (Yields.yieldsIf (Or.inl ⟨by rfl, ?_⟩)) hHeld ?_
      rotate_left
      · intro W
        go_simp
        try with_reducible rfl
      simp only [List.getElem_toArray, List.getElem_cons_succ, List.getElem_cons_zero, Act.put, List.setIfInBounds_toArray, List.set_cons_zero, List.set_cons_succ]
      refine wpAnyH_take (i := 5) (v := ?_) rfl (by kernel_rfl) (by kernel_rfl) (by kernel_rfl) (fun _ _ _ h => h) (Or.inl ⟨by rfl, ?_⟩) hHeld ?_
      rotate_left
      · intro W hW
        have hcl := (cell_ext (h := hW) pk2)
        go_simp
        try with_reducible rfl
      simp only [List.getElem_toArray, List.getElem_cons_succ, List.getElem_cons_zero, Act.put, List.setIfInBounds_toArray, List.set_cons_zero, List.set_cons_succ]
      refine wpAnyH_take (i := 6) (v := ?_) rfl (by kernel_rfl) (by kernel_rfl) (by kernel_rfl) (fun _ _ _ h => h) (Yields.yieldsIf (Or.inl ⟨by rfl, ?_⟩)) hHeld ?_
      rotate_left
      · intro W
        go_simp
        try with_reducible rfl
      simp only [List.getElem_toArray, List.getElem_cons_succ, List.getElem_cons_zero, Act.put, List.setIfInBounds_toArray, List.set_cons_zero, List.set_cons_succ]
      refine wpAnyH_take (i := 8) (v := ?_) rfl (by kernel_rfl) (by kernel_rfl) (by kernel_rfl) (fun _ _ _ h => h) (Yields.yieldsIf (Or.inl ⟨by rfl, ?_⟩)) hHeld ?_
      rotate_left
      · intro W
        go_simp
        try with_reducible rfl
      simp only [List.getElem_toArray, List.getElem_cons_succ, List.getElem_cons_zero, Act.put, List.setIfInBounds_toArray, List.set_cons_zero, List.set_cons_succ]
      refine wpAnyH_take (i := 9) (v := ?_) rfl (by kernel_rfl) (by kernel_rfl) (by kernel_rfl) (fun _ _ _ h => h) (Or.inl ⟨by rfl, ?_⟩) hHeld ?_
      rotate_left
      · intro W hW
        have hcl := (cell_ext (h := hW) op3)
        go_simp
        try with_reducible rfl
      simp only [List.getElem_toArray, List.getElem_cons_succ, List.getElem_cons_zero, Act.put, List.setIfInBounds_toArray, List.set_cons_zero, List.set_cons_succ]
      refine wpAnyH_take (i := 10) (v := ?_) rfl (by kernel_rfl) (by kernel_rfl) (by kernel_rfl) (fun _ _ _ h => h) (Yields.yieldsIf (Or.inl ⟨by rfl, ?_⟩)) hHeld ?_
      rotate_left
      · intro W
        go_simp
        try with_reducible rfl
      simp only [List.getElem_toArray, List.getElem_cons_succ, List.getElem_cons_zero, Act.put, List.setIfInBounds_toArray, List.set_cons_zero, List.set_cons_succ]
      have HQ : Calls Try.prog 90 #[.slice A 4 c] w0.drew fun e w' => e = .returned (.int .u64 N) ∧ w0.drew = w' := by
        have h1 := rnumber_any A 4 c (xs.take 4) HL4.out (by omega) HB4.out w0.drew (by rw [nums_take]; exact (HX.out.take 4).ext)
        rw [HNN.out] at h1
        exact h1
      refine wpAnyH_ready (rs := [7]) (by kernel_rfl) (by simp) ?_
      refine AllReadyH.cons rfl (fun K hK => ?_) AllReadyH.nil
      refine step_call_w (by rfl) Try.func90 (by kernel_rfl) (by kernel_rfl) #[.tmp 39] #[41] rfl #[.slice A 4 c] ?hv HQ ?_
      case hv => go_simp
      rintro e wq ⟨rfl, rfl⟩
      refine ⟨_, rfl, ?_⟩
      clear hHeld HQ
      refine hK.out _ _ (by exact inferInstance) (fun hHeld => ?_)
      clear hK K
      simp only [List.getElem_toArray, List.getElem_cons_succ, List.getElem_cons_zero, Act.put, List.setIfInBounds_toArray, List.set_cons_zero, List.set_cons_succ]
      refine wpAnyH_take (i := 11) (v := ?_) rfl (by kernel_rfl) (by kernel_rfl) (by kernel_rfl) (fun _ _ _ h => h) (Yields.yieldsIf (Or.inl ⟨by rfl, ?_⟩)) hHeld ?_
      rotate_left
      · intro W
        go_simp
        try with_reducible rfl
      simp only [List.getElem_toArray, List.getElem_cons_succ, List.getElem_cons_zero, Act.put, List.setIfInBounds_toArray, List.set_cons_zero, List.set_cons_succ]
      refine wpAnyH_take (i := 12) (v := ?_) rfl (by kernel_rfl) (by kernel_rfl) (by kernel_rfl) (fun _ _ _ h => h) (Yields.yieldsIf (Or.inl ⟨by rfl, ?_⟩)) hHeld ?_
      rotate_left
      · intro W
        go_simp
        try with_reducible rfl
      simp only [List.getElem_toArray, List.getElem_cons_succ, List.getElem_cons_zero, Act.put, List.setIfInBounds_toArray, List.set_cons_zero, List.set_cons_succ]
      refine wpAnyH_done (by kernel_rfl) ?_ _
      clear hHeld
      obtain ⟨wd, hwd⟩ : ∃ wd, w0.drew = wd := ⟨_, rfl⟩
      have Yd : Ext w0 wd := by rw [← hwd]; exact inferInstance
      have YW : Ext w wd := Ext.trans_ Y0 Yd
      have HPd := Lib.hid (at_ext (w' := wd) HPK.out)
      have HOd := Lib.hid (at_ext (w' := wd) HOP.out)
      rw [hwd]
      clear hwd pk2 op3
      have pk0 : wd.cell? ⟨w.heap.size, 0, none⟩ = some (.int .i64 10) := at_cell HPd.out 0
      have pk1 : wd.cell? ⟨w.heap.size, 1, none⟩ = some (.int .i64 id) := at_cell HPd.out 1
      have pk2 : wd.cell? ⟨w.heap.size, 2, none⟩ = some (.slice A n c) := at_cell HPd.out 2
      have op3 : wd.cell? ⟨w.heap.size + 1, 3, none⟩ = some (.int .u32 mm) := at_cell HOd.out 3
      have HZDD : Hid (wd.heap[w.heap.size + 2]? = some zPk) := at_ext HZP.out
      go_wp2_with
        (first
         | (refine wpList_store_row rfl 43 (.tmp 4) (.tmp 46) rfl (w.heap.size + 2) #[.int .i64 0, .int .i64 0, .slice none 0 0] rfl rfl 43 #[.int .i64 0, .int .i64 0, .slice none 0 0] HZDD.out (by kernel_rfl) rfl (by simp [Value.oneCell']) ?_))
      refine bodyPost_ret (results_cell_row3 Try.results20 _ _ (w.heap.size + 2) 43 #[.int .i64 0, .int .i64 0, .slice none 0 0] (0, 0) _ (.bool false) (.int .i64 0) rfl rfl rfl (setRow_heap _ _ _ _ _ _ HZDD.out) Try.underlying43 rfl (by kernel_rfl)) rfl ?_
      rw [HR.out]
      exact ⟨none, 0, rfl, own_nil _ _ _ _, (Ext.setRow_ YW (by omega) _).out⟩
    · have HR : Hid (echoF 10 id xs mm = (((0, 0), []), true, 0)) := by unfold Hid; rw [HE0.out, if_neg hy, if_pos (by decide)]
      by_cases hz : mm = 0
      · subst hz
        clear hy
        have HZP : Hid ((((w.alloc (.cells #[.int .i64 10, .int .i64 id, .slice A n c] 43)).alloc (.cells #[.int .i64 mru, .int .i64 accm, .int .i64 auth, .int .u32 0, .bool b1, .bool b2] 28)).alloc zPk).heap[w.heap.size + 2]? = some zPk) := at_new1 (by simp)
        have HPK : Hid ((((w.alloc (.cells #[.int .i64 10, .int .i64 id, .slice A n c] 43)).alloc (.cells #[.int .i64 mru, .int .i64 accm, .int .i64 auth, .int .u32 0, .bool b1, .bool b2] 28)).alloc zPk).heap[w.heap.size]? = some (.cells #[.int .i64 10, .int .i64 id, .slice A n c] 43 (0, 0))) := at_ext (at_new w _)
        have HOP : Hid ((((w.alloc (.cells #[.int .i64 10, .int .i64 id, .slice A n c] 43)).alloc (.cells #[.int .i64 mru, .int .i64 accm, .int .i64 auth, .int .u32 0, .bool b1, .bool b2] 28)).alloc zPk).heap[w.heap.size + 1]? = some (.cells #[.int .i64 mru, .int .i64 accm, .int .i64 auth, .int .u32 0, .bool b1, .bool b2] 28 (0, 0))) := at_ext (w := (w.alloc (.cells #[.int .i64 10, .int .i64 id, .slice A n c] 43)).alloc (.cells #[.int .i64 mru, .int .i64 accm, .int .i64 auth, .int .u32 0, .bool b1, .bool b2] 28)) (at_new1 (by simp))
        go_enter Try.func20, Try.ntmps20
        go_wp2
        go_quiet (fail)
        obtain ⟨wd, hwd⟩ : ∃ wd, World.drewN (((w.alloc (.cells #[.int .i64 10, .int .i64 id, .slice A n c] 43)).alloc (.cells #[.int .i64 mru, .int .i64 accm, .int .i64 auth, .int .u32 0, .bool b1, .bool b2] 28)).alloc zPk) nq = wd := ⟨_, rfl⟩
        have YW : Ext w wd := by rw [← hwd]; exact inferInstance
        have Yd : Ext (((w.alloc (.cells #[.int .i64 10, .int .i64 id, .slice A n c] 43)).alloc (.cells #[.int .i64 mru, .int .i64 accm, .int .i64 auth, .int .u32 0, .bool b1, .bool b2] 28)).alloc zPk) wd := by rw [← hwd]; exact inferInstance
        have HPd := Lib.hid (at_ext (w' := wd) HPK.out)
        have HOd := Lib.hid (at_ext (w' := wd) HOP.out)
        have HZDD : Hid (wd.heap[w.heap.size + 2]? = some zPk) := at_ext HZP.out
        try rw [hwd]
        clear hwd
        have pk0 : wd.cell? ⟨w.heap.size, 0, none⟩ = some (.int .i64 10) := at_cell HPd.out 0
        have pk1 : wd.cell? ⟨w.heap.size, 1, none⟩ = some (.int .i64 id) := at_cell HPd.out 1
        have pk2 : wd.cell? ⟨w.heap.size, 2, none⟩ = some (.slice A n c) := at_cell HPd.out 2
        have op3 : wd.cell? ⟨w.heap.size + 1, 3, none⟩ = some (.int .u32 0) := at_cell HOd.out 3
        go_wp2_with
          (first
           | (refine wpList_store_row rfl 43 (.tmp 4) (.tmp 50) rfl (w.heap.size + 2) #[.int .i64 0, .int .i64 0, .slice none 0 0] rfl rfl 43 #[.int .i64 0, .int .i64 0, .slice none 0 0] HZDD.out (by kernel_rfl) rfl (by simp [Value.oneCell']) ?_))
        refine bodyPost_ret (results_cell_row3 Try.results20 _ _ (w.heap.size + 2) 43 #[.int .i64 0, .int .i64 0, .slice none 0 0] (0, 0) _ (.bool true) (.int .i64 0) rfl rfl rfl (setRow_heap _ _ _ _ _ _ HZDD.out) Try.underlying43 rfl (by kernel_rfl)) rfl ?_
        rw [HR.out]
        exact ⟨none, 0, rfl, own_nil _ _ _ _, (Ext.setRow_ YW (by omega) _).out⟩
      · have hz1 : (mm != 0) = true := by simpa using hz
        have hz2 : (N == mm) = false := by simp; exact fun h => hy ⟨hz, h⟩
        clear hz hy
        have HZP : Hid ((((w.alloc (.cells #[.int .i64 10, .int .i64 id, .slice A n c] 43)).alloc (.cells #[.int .i64 mru, .int .i64 accm, .int .i64 auth, .int .u32 mm, .bool b1, .bool b2] 28)).alloc zPk).heap[w.heap.size + 2]? = some zPk) := at_new1 (by simp)
        have HPK : Hid ((((w.alloc (.cells #[.int .i64 10, .int .i64 id, .slice A n c] 43)).alloc (.cells #[.int .i64 mru, .int .i64 accm, .int .i64 auth, .int .u32 mm, .bool b1, .bool b2] 28)).alloc zPk).heap[w.heap.size]? = some (.cells #[.int .i64 10, .int .i64 id, .slice A n c] 43 (0, 0))) := at_ext (at_new w _)
        have HOP : Hid ((((w.alloc (.cells #[.int .i64 10, .int .i64 id, .slice A n c] 43)).alloc (.cells #[.int .i64 mru, .int .i64 accm, .int .i64 auth, .int .u32 mm, .bool b1, .bool b2] 28)).alloc zPk).heap[w.heap.size + 1]? = some (.cells #[.int .i64 mru, .int .i64 accm, .int .i64 auth, .int .u32 mm, .bool b1, .bool b2] 28 (0, 0))) := at_ext (w := (w.alloc (.cells #[.int .i64 10, .int .i64 id, .slice A n c] 43)).alloc (.cells #[.int .i64 mru, .int .i64 accm, .int .i64 auth, .int .u32 mm, .bool b1, .bool b2] 28)) (at_new1 (by simp))
        go_enter Try.func20, Try.ntmps20
        go_wp2
        have HW0 : Hid (Ext w (((w.alloc (.cells #[.int .i64 10, .int .i64 id, .slice A n c] 43)).alloc (.cells #[.int .i64 mru, .int .i64 accm, .int .i64 auth, .int .u32 mm, .bool b1, .bool b2] 28)).alloc zPk)) := inferInstanceAs (Ext w _)
        obtain ⟨w0, hw0⟩ : ∃ w0, ((w.alloc (.cells #[.int .i64 10, .int .i64 id, .slice A n c] 43)).alloc (.cells #[.int .i64 mru, .int .i64 accm, .int .i64 auth, .int .u32 mm, .bool b1, .bool b2] 28)).alloc zPk = w0 := ⟨_, rfl⟩
        rw [hw0] at HPK HOP HW0 HZP
        have pk2 : w0.cell? ⟨w.heap.size, 2, none⟩ = some (.slice A n c) := at_cell HPK.out 2
        have op3 : w0.cell? ⟨w.heap.size + 1, 3, none⟩ = some (.int .u32 mm) := at_cell HOP.out 3
        have Y0 : Ext w w0 := HW0.out
        try rw [hw0]
        refine wp_region_held_drew (S := fun W => Ext w0 W) (by kernel_rfl) (by exact inferInstance) (fun hHeld => ?_)
        refine wpAnyH_take (i := 0) (v := ?_) rfl (by kernel_rfl) (by kernel_rfl) (by kernel_rfl) (fun _ _ _ h => h) (Yields.yieldsIf (Or.inl ⟨by rfl, ?_⟩)) hHeld ?_
        rotate_left
        · intro W
          go_simp
          try with_reducible rfl
        simp only [List.getElem_toArray, List.getElem_cons_succ, List.getElem_cons_zero, Act.put, List.setIfInBounds_toArray, List.set_cons_zero, List.set_cons_succ]
        refine wpAnyH_take (i := 1) (v := ?_) rfl (by kernel_rfl) (by kernel_rfl) (by kernel_rfl) (fun _ _ _ h => h) (Or.inl ⟨by rfl, ?_⟩) hHeld ?_
        rotate_left
        · intro W hW
          have hcl := (cell_ext (h := hW) op3)
          go_simp
          try with_reducible rfl
        simp only [List.getElem_toArray, List.getElem_cons_succ, List.getElem_cons_zero, Act.put, List.setIfInBounds_toArray, List.set_cons_zero, List.set_cons_succ]
        refine wpAnyH_take (i := 2) (v := ?_) rfl (by kernel_rfl) (by kernel_rfl) (by kernel_rfl) (fun _ _ _ h => h) (Yields.yieldsIf (Or.inl ⟨by rfl, ?_⟩)) hHeld ?_
        rotate_left
        · intro W
          go_simp
          try with_reducible rfl
        simp only [List.getElem_toArray, List.getElem_cons_succ, List.getElem_cons_zero, Act.put, List.setIfInBounds_toArray, List.set_cons_zero, List.set_cons_succ]
        refine wpAnyH_take (i := 3) (v := ?_) rfl (by kernel_rfl) (by kernel_rfl) (by kernel_rfl) (fun _ _ _ h => h) (Yields.yieldsIf (Or.inl ⟨by rfl, ?_⟩)) hHeld ?_
        rotate_left
        · intro W
          go_simp
          try with_reducible rfl
        simp only [List.getElem_toArray, List.getElem_cons_succ, List.getElem_cons_zero, Act.put, List.setIfInBounds_toArray, List.set_cons_zero, List.set_cons_succ]
        refine wpAnyH_take (i := 4) (v := ?_) rfl (by kernel_rfl) (by kernel_rfl) (by kernel_rfl) (fun _ _ _ h => h) (Yields.yieldsIf (Or.inl ⟨by rfl, ?_⟩)) hHeld ?_
        rotate_left
        · intro W
          go_simp
          try with_reducible rfl
        simp only [List.getElem_toArray, List.getElem_cons_succ, List.getElem_cons_zero, Act.put, List.setIfInBounds_toArray, List.set_cons_zero, List.set_cons_succ]
        refine wpAnyH_take (i := 5) (v := ?_) rfl (by kernel_rfl) (by kernel_rfl) (by kernel_rfl) (fun _ _ _ h => h) (Or.inl ⟨by rfl, ?_⟩) hHeld ?_
        rotate_left
        · intro W hW
          have hcl := (cell_ext (h := hW) pk2)
          go_simp
          try with_reducible rfl
        simp only [List.getElem_toArray, List.getElem_cons_succ, List.getElem_cons_zero, Act.put, List.setIfInBounds_toArray, List.set_cons_zero, List.set_cons_succ]
        refine wpAnyH_take (i := 6) (v := ?_) rfl (by kernel_rfl) (by kernel_rfl) (by kernel_rfl) (fun _ _ _ h => h) (Yields.yieldsIf (Or.inl ⟨by rfl, ?_⟩)) hHeld ?_
        rotate_left
        · intro W
          go_simp
          try with_reducible rfl
        simp only [List.getElem_toArray, List.getElem_cons_succ, List.getElem_cons_zero, Act.put, List.setIfInBounds_toArray, List.set_cons_zero, List.set_cons_succ]
        refine wpAnyH_take (i := 8) (v := ?_) rfl (by kernel_rfl) (by kernel_rfl) (by kernel_rfl) (fun _ _ _ h => h) (Yields.yieldsIf (Or.inl ⟨by rfl, ?_⟩)) hHeld ?_
        rotate_left
        · intro W
          go_simp
          try with_reducible rfl
        simp only [List.getElem_toArray, List.getElem_cons_succ, List.getElem_cons_zero, Act.put, List.setIfInBounds_toArray, List.set_cons_zero, List.set_cons_succ]
        refine wpAnyH_take (i := 9) (v := ?_) rfl (by kernel_rfl) (by kernel_rfl) (by kernel_rfl) (fun _ _ _ h => h) (Or.inl ⟨by rfl, ?_⟩) hHeld ?_
        rotate_left
        · intro W hW
          have hcl := (cell_ext (h := hW) op3)
          go_simp
          try with_reducible rfl
        simp only [List.getElem_toArray, List.getElem_cons_succ, List.getElem_cons_zero, Act.put, List.setIfInBounds_toArray, List.set_cons_zero, List.set_cons_succ]
        refine wpAnyH_take (i := 10) (v := ?_) rfl (by kernel_rfl) (by kernel_rfl) (by kernel_rfl) (fun _ _ _ h => h) (Yields.yieldsIf (Or.inl ⟨by rfl, ?_⟩)) hHeld ?_
        rotate_left
        · intro W
          go_simp
          try with_reducible rfl
        simp only [List.getElem_toArray, List.getElem_cons_succ, List.getElem_cons_zero, Act.put, List.setIfInBounds_toArray, List.set_cons_zero, List.set_cons_succ]
        have HQ : Calls Try.prog 90 #[.slice A 4 c] w0.drew fun e w' => e = .returned (.int .u64 N) ∧ w0.drew = w' := by
          have h1 := rnumber_any A 4 c (xs.take 4) HL4.out (by omega) HB4.out w0.drew (by rw [nums_take]; exact (HX.out.take 4).ext)
          rw [HNN.out] at h1
          exact h1
        refine wpAnyH_ready (rs := [7]) (by kernel_rfl) (by simp) ?_
        refine AllReadyH.cons rfl (fun K hK => ?_) AllReadyH.nil
        refine step_call_w (by rfl) Try.func90 (by kernel_rfl) (by kernel_rfl) #[.tmp 39] #[41] rfl #[.slice A 4 c] ?hv HQ ?_
        case hv => go_simp
        rintro e wq ⟨rfl, rfl⟩
        refine ⟨_, rfl, ?_⟩
        clear hHeld HQ
        refine hK.out _ _ (by exact inferInstance) (fun hHeld => ?_)
        clear hK K
        simp only [List.getElem_toArray, List.getElem_cons_succ, List.getElem_cons_zero, Act.put, List.setIfInBounds_toArray, List.set_cons_zero, List.set_cons_succ]
        refine wpAnyH_take (i := 11) (v := ?_) rfl (by kernel_rfl) (by kernel_rfl) (by kernel_rfl) (fun _ _ _ h => h) (Yields.yieldsIf (Or.inl ⟨by rfl, ?_⟩)) hHeld ?_
        rotate_left
        · intro W
          go_simp
          try with_reducible rfl
        simp only [List.getElem_toArray, List.getElem_cons_succ, List.getElem_cons_zero, Act.put, List.setIfInBounds_toArray, List.set_cons_zero, List.set_cons_succ]
        refine wpAnyH_take (i := 12) (v := ?_) rfl (by kernel_rfl) (by kernel_rfl) (by kernel_rfl) (fun _ _ _ h => h) (Yields.yieldsIf (Or.inl ⟨by rfl, ?_⟩)) hHeld ?_
        rotate_left
        · intro W
          go_simp
          try with_reducible rfl
        simp only [List.getElem_toArray, List.getElem_cons_succ, List.getElem_cons_zero, Act.put, List.setIfInBounds_toArray, List.set_cons_zero, List.set_cons_succ]
        refine wpAnyH_done (by kernel_rfl) ?_ _
        clear hHeld
        obtain ⟨wd, hwd⟩ : ∃ wd, w0.drew = wd := ⟨_, rfl⟩
        have Yd : Ext w0 wd := by rw [← hwd]; exact inferInstance
        have YW : Ext w wd := Ext.trans_ Y0 Yd
        have HPd := Lib.hid (at_ext (w' := wd) HPK.out)
        have HOd := Lib.hid (at_ext (w' := wd) HOP.out)
        rw [hwd]
        clear hwd pk2 op3
        have pk0 : wd.cell? ⟨w.heap.size, 0, none⟩ = some (.int .i64 10) := at_cell HPd.out 0
        have pk1 : wd.cell? ⟨w.heap.size, 1, none⟩ = some (.int .i64 id) := at_cell HPd.out 1
        have pk2 : wd.cell? ⟨w.heap.size, 2, none⟩ = some (.slice A n c) := at_cell HPd.out 2
        have op3 : wd.cell? ⟨w.heap.size + 1, 3, none⟩ = some (.int .u32 mm) := at_cell HOd.out 3
        have HZDD : Hid (wd.heap[w.heap.size + 2]? = some zPk) := at_ext HZP.out
        go_wp2_with
          (first
           | (refine wpList_store_row rfl 43 (.tmp 4) (.tmp 50) rfl (w.heap.size + 2) #[.int .i64 0, .int .i64 0, .slice none 0 0] rfl rfl 43 #[.int .i64 0, .int .i64 0, .slice none 0 0] HZDD.out (by kernel_rfl) rfl (by simp [Value.oneCell']) ?_))
        refine bodyPost_ret (results_cell_row3 Try.results20 _ _ (w.heap.size + 2) 43 #[.int .i64 0, .int .i64 0, .slice none 0 0] (0, 0) _ (.bool true) (.int .i64 0) rfl rfl rfl (setRow_heap _ _ _ _ _ _ HZDD.out) Try.underlying43 rfl (by kernel_rfl)) rfl ?_
        rw [HR.out]
        exact ⟨none, 0, rfl, own_nil _ _ _ _, (Ext.setRow_ YW (by omega) _).out⟩
  · skip
    clear h9 h9a h9b
    by_cases hy : mm ≠ 0 ∧ N = mm
    · skip
      have HR : Hid (echoF 11 id xs mm = (((0, 0), []), false, 0)) := by unfold Hid; rw [HE0.out, if_pos hy]
      have hz1 : (mm != 0) = true := by simpa using hy.1
      have hz2 : (N == mm) = true := by simpa using hy.2
      clear hy
      have HZP : Hid ((((w.alloc (.cells #[.int .i64 11, .int .i64 id, .slice A n c] 43)).alloc (.cells #[.int .i64 mru, .int .i64 accm, .int .i64 auth, .int .u32 mm, .bool b1, .bool b2] 28)).alloc zPk).heap[w.heap.size + 2]? = some zPk) := at_new1 (by simp)
      have HPK : Hid ((((w.alloc (.cells #[.int .i64 11, .int .i64 id, .slice A n c] 43)).alloc (.cells #[.int .i64 mru, .int .i64 accm, .int .i64 auth, .int .u32 mm, .bool b1, .bool b2] 28)).alloc zPk).heap[w.heap.size]? = some (.cells #[.int .i64 11, .int .i64 id, .slice A n c] 43 (0, 0))) := at_ext (at_new w _)
      have HOP : Hid ((((w.alloc (.cells #[.int .i64 11, .int .i64 id, .slice A n c] 43)).alloc (.cells #[.int .i64 mru, .int .i64 accm, .int .i64 auth, .int .u32 mm, .bool b1, .bool b2] 28)).alloc zPk).heap[w.heap.size + 1]? = some (.cells #[.int .i64 mru, .int .i64 accm, .int .i64 auth, .int .u32 mm, .bool b1, .bool b2] 28 (0, 0))) := at_ext (w := (w.alloc (.cells #[.int .i64 11, .int .i64 id, .slice A n c] 43)).alloc (.cells #[.int .i64 mru, .int .i64 accm, .int .i64 auth, .int .u32 mm, .bool b1, .bool b2] 28)) (at_new1 (by simp))
      go_enter Try.func20, Try.ntmps20
      go_wp2
      have HW0 : Hid (Ext w (((w.alloc (.cells #[.int .i64 11, .int .i64 id, .slice A n c] 43)).alloc (.cells #[.int .i64 mru, .int .i64 accm, .int .i64 auth, .int .u32 mm, .bool b1, .bool b2] 28)).alloc zPk)) := inferInstanceAs (Ext w _)
      obtain ⟨w0, hw0⟩ : ∃ w0, ((w.alloc (.cells #[.int .i64 11, .int .i64 id, .slice A n c] 43)).alloc (.cells #[.int .i64 mru, .int .i64 accm, .int .i64 auth, .int .u32 mm, .bool b1, .bool b2] 28)).alloc zPk = w0 := ⟨_, rfl⟩
      rw [hw0] at HPK HOP HW0 HZP
      have pk2 : w0.cell? ⟨w.heap.size, 2, none⟩ = some (.slice A n c) := at_cell HPK.out 2
      have op3 : w0.cell? ⟨w.heap.size + 1, 3, none⟩ = some (.int .u32 mm) := at_cell HOP.out 3
      have Y0 : Ext w w0 := HW0.out
      try rw [hw0]
      refine wp_region_held_drew (S := fun W => Ext w0 W) (by kernel_rfl) (by exact inferInstance) (fun hHeld => ?_)
      refine wpAnyH_take (i := 0) (v := ?_) rfl (by kernel_rfl) (by kernel_rfl) (by kernel_rfl) (fun _ _ _ h => h) (Yields.yieldsIf (Or.inl ⟨by rfl, ?_⟩)) hHeld ?_
      rotate_left
      · intro W
        go_simp
        try with_reducible rfl
      simp only [List.getElem_toArray, List.getElem_cons_succ, List.getElem_cons_zero, Act.put, List.setIfInBounds_toArray, List.set_cons_zero, List.set_cons_succ]
      refine wpAnyH_take (i := 1) (v := ?_) rfl (by kernel_rfl) (by kernel_rfl) (by kernel_rfl) (fun _ _ _ h => h) (Or.inl ⟨by rfl, ?_⟩) hHeld ?_
      rotate_left
      · intro W hW
        have hcl := (cell_ext (h := hW) op3)
        go_simp
        try with_reducible rfl
      simp only [List.getElem_toArray, List.getElem_cons_succ, List.getElem_cons_zero, Act.put, List.setIfInBounds_toArray, List.set_cons_zero, List.set_cons_succ]
      refine wpAnyH_take (i := 2) (v := ?_) rfl (by kernel_rfl) (by kernel_rfl) (by kernel_rfl) (fun _ _ _ h => h) (Yields.yieldsIf (Or.inl ⟨by rfl, ?_⟩)) hHeld ?_
      rotate_left
      · intro W
        go_simp
        try with_reducible rfl
      simp only [List.getElem_toArray, List.getElem_cons_succ, List.getElem_cons_zero, Act.put, List.setIfInBounds_toArray, List.set_cons_zero, List.set_cons_succ]
      refine wpAnyH_take (i := 3) (v := ?_) rfl (by kernel_rfl) (by kernel_rfl) (by kernel_rfl) (fun _ _ _ h => h) (Yields.yieldsIf (Or.inl ⟨by rfl, ?_⟩)) hHeld ?_
      rotate_left
      · intro W
        go_simp
        try with_reducible rfl
      simp only [List.getElem_toArray, List.getElem_cons_succ, List.getElem_cons_zero, Act.put, List.setIfInBounds_toArray, List.set_cons_zero, List.set_cons_succ]
      refine wpAnyH_take (i := 4) (v := ?_) rfl (by kernel_rfl) (by kernel_rfl) (by kernel_rfl) (fun _ _ _ h => h) (Yields.yieldsIf (Or.inl ⟨by rfl, ?_⟩)) hHeld ?_
      rotate_left
      · intro W
        go_simp
        try with_reducible rfl
      simp only [List.getElem_toArray, List.getElem_cons_succ, List.getElem_cons_zero, Act.put, List.setIfInBounds_toArray, List.set_cons_zero, List.set_cons_succ]
      refine wpAnyH_take (i := 5) (v := ?_) rfl (by kernel_rfl) (by kernel_rfl) (by kernel_rfl) (fun _ _ _ h => h) (Or.inl ⟨by rfl, ?_⟩) hHeld ?_
      rotate_left
      · intro W hW
        have hcl := (cell_ext (h := hW) pk2)
        go_simp
        try with_reducible rfl
      simp only [List.getElem_toArray, List.getElem_cons_succ, List.getElem_cons_zero, Act.put, List.setIfInBounds_toArray, List.set_cons_zero, List.set_cons_succ]
      refine wpAnyH_take (i := 6) (v := ?_) rfl (by kernel_rfl) (by kernel_rfl) (by kernel_rfl) (fun _ _ _ h => h) (Yields.yieldsIf (Or.inl ⟨by rfl, ?_⟩)) hHeld ?_
      rotate_left
      · intro W
        go_simp
        try with_reducible rfl
      simp only [List.getElem_toArray, List.getElem_cons_succ, List.getElem_cons_zero, Act.put, List.setIfInBounds_toArray, List.set_cons_zero, List.set_cons_succ]
      refine wpAnyH_take (i := 8) (v := ?_) rfl (by kernel_rfl) (by kernel_rfl) (by kernel_rfl) (fun _ _ _ h => h) (Yields.yieldsIf (Or.inl ⟨by rfl, ?_⟩)) hHeld ?_
      rotate_left
      · intro W
        go_simp
        try with_reducible rfl
      simp only [List.getElem_toArray, List.getElem_cons_succ, List.getElem_cons_zero, Act.put, List.setIfInBounds_toArray, List.set_cons_zero, List.set_cons_succ]
      refine wpAnyH_take (i := 9) (v := ?_) rfl (by kernel_rfl) (by kernel_rfl) (by kernel_rfl) (fun _ _ _ h => h) (Or.inl ⟨by rfl, ?_⟩) hHeld ?_
      rotate_left
      · intro W hW
        have hcl := (cell_ext (h := hW) op3)
        go_simp
        try with_reducible rfl
      simp only [List.getElem_toArray, List.getElem_cons_succ, List.getElem_cons_zero, Act.put, List.setIfInBounds_toArray, List.set_cons_zero, List.set_cons_succ]
      refine wpAnyH_take (i := 10) (v := ?_) rfl (by kernel_rfl) (by kernel_rfl) (by kernel_rfl) (fun _ _ _ h => h) (Yields.yieldsIf (Or.inl ⟨by rfl, ?_⟩)) hHeld ?_
      rotate_left
      · intro W
        go_simp
        try with_reducible rfl
      simp only [List.getElem_toArray, List.getElem_cons_succ, List.getElem_cons_zero, Act.put, List.setIfInBounds_toArray, List.set_cons_zero, List.set_cons_succ]
      have HQ : Calls Try.prog 90 #[.slice A 4 c] w0.drew fun e w' => e = .returned (.int .u64 N) ∧ w0.drew = w' := by
        have h1 := rnumber_any A 4 c (xs.take 4) HL4.out (by omega) HB4.out w0.drew (by rw [nums_take]; exact (HX.out.take 4).ext)
        rw [HNN.out] at h1
        exact h1
      refine wpAnyH_ready (rs := [7]) (by kernel_rfl) (by simp) ?_
      refine AllReadyH.cons rfl (fun K hK => ?_) AllReadyH.nil
      refine step_call_w (by rfl) Try.func90 (by kernel_rfl) (by kernel_rfl) #[.tmp 39] #[41] rfl #[.slice A 4 c] ?hv HQ ?_
      case hv => go_simp
      rintro e wq ⟨rfl, rfl⟩
      refine ⟨_, rfl, ?_⟩
      clear hHeld HQ
      refine hK.out _ _ (by exact inferInstance) (fun hHeld => ?_)
      clear hK K
      simp only [List.getElem_toArray, List.getElem_cons_succ, List.getElem_cons_zero, Act.put, List.setIfInBounds_toArray, List.set_cons_zero, List.set_cons_succ]
      refine wpAnyH_take (i := 11) (v := ?_) rfl (by kernel_rfl) (by kernel_rfl) (by kernel_rfl) (fun _ _ _ h => h) (Yields.yieldsIf (Or.inl ⟨by rfl, ?_⟩)) hHeld ?_
      rotate_left
      · intro W
        go_simp
        try with_reducible rfl
      simp only [List.getElem_toArray, List.getElem_cons_succ, List.getElem_cons_zero, Act.put, List.setIfInBounds_toArray, List.set_cons_zero, List.set_cons_succ]
      refine wpAnyH_take (i := 12) (v := ?_) rfl (by kernel_rfl) (by kernel_rfl) (by kernel_rfl) (fun _ _ _ h => h) (Yields.yieldsIf (Or.inl ⟨by rfl, ?_⟩)) hHeld ?_
      rotate_left
      · intro W
        go_simp
        try with_reducible rfl
      simp only [List.getElem_toArray, List.getElem_cons_succ, List.getElem_cons_zero, Act.put, List.setIfInBounds_toArray, List.set_cons_zero, List.set_cons_succ]
      refine wpAnyH_done (by kernel_rfl) ?_ _
      clear hHeld
      obtain ⟨wd, hwd⟩ : ∃ wd, w0.drew = wd := ⟨_, rfl⟩
      have Yd : Ext w0 wd := by rw [← hwd]; exact inferInstance
      have YW : Ext w wd := Ext.trans_ Y0 Yd
      have HPd := Lib.hid (at_ext (w' := wd) HPK.out)
      have HOd := Lib.hid (at_ext (w' := wd) HOP.out)
      rw [hwd]
      clear hwd pk2 op3
      have pk0 : wd.cell? ⟨w.heap.size, 0, none⟩ = some (.int .i64 11) := at_cell HPd.out 0
      have pk1 : wd.cell? ⟨w.heap.size, 1, none⟩ = some (.int .i64 id) := at_cell HPd.out 1
      have pk2 : wd.cell? ⟨w.heap.size, 2, none⟩ = some (.slice A n c) := at_cell HPd.out 2
      have op3 : wd.cell? ⟨w.heap.size + 1, 3, none⟩ = some (.int .u32 mm) := at_cell HOd.out 3
      have HZDD : Hid (wd.heap[w.heap.size + 2]? = some zPk) := at_ext HZP.out
      go_wp2_with
        (first
         | (refine wpList_store_row rfl 43 (.tmp 4) (.tmp 46) rfl (w.heap.size + 2) #[.int .i64 0, .int .i64 0, .slice none 0 0] rfl rfl 43 #[.int .i64 0, .int .i64 0, .slice none 0 0] HZDD.out (by kernel_rfl) rfl (by simp [Value.oneCell']) ?_))
      refine bodyPost_ret (results_cell_row3 Try.results20 _ _ (w.heap.size + 2) 43 #[.int .i64 0, .int .i64 0, .slice none 0 0] (0, 0) _ (.bool false) (.int .i64 0) rfl rfl rfl (setRow_heap _ _ _ _ _ _ HZDD.out) Try.underlying43 rfl (by kernel_rfl)) rfl ?_
      rw [HR.out]
      exact ⟨none, 0, rfl, own_nil _ _ _ _, (Ext.setRow_ YW (by omega) _).out⟩
    · have HR : Hid (echoF 11 id xs mm = (((0, 0), []), true, 0)) := by unfold Hid; rw [HE0.out, if_neg hy, if_pos (by decide)]
      by_cases hz : mm = 0
      · subst hz
        clear hy
        have HZP : Hid ((((w.alloc (.cells #[.int .i64 11, .int .i64 id, .slice A n c] 43)).alloc (.cells #[.int .i64 mru, .int .i64 accm, .int .i64 auth, .int .u32 0, .bool b1, .bool b2] 28)).alloc zPk).heap[w.heap.size + 2]? = some zPk) := at_new1 (by simp)
        have HPK : Hid ((((w.alloc (.cells #[.int .i64 11, .int .i64 id, .slice A n c] 43)).alloc (.cells #[.int .i64 mru, .int .i64 accm, .int .i64 auth, .int .u32 0, .bool b1, .bool b2] 28)).alloc zPk).heap[w.heap.size]? = some (.cells #[.int .i64 11, .int .i64 id, .slice A n c] 43 (0, 0))) := at_ext (at_new w _)
        have HOP : Hid ((((w.alloc (.cells #[.int .i64 11, .int .i64 id, .slice A n c] 43)).alloc (.cells #[.int .i64 mru, .int .i64 accm, .int .i64 auth, .int .u32 0, .bool b1, .bool b2] 28)).alloc zPk).heap[w.heap.size + 1]? = some (.cells #[.int .i64 mru, .int .i64 accm, .int .i64 auth, .int .u32 0, .bool b1, .bool b2] 28 (0, 0))) := at_ext (w := (w.alloc (.cells #[.int .i64 11, .int .i64 id, .slice A n c] 43)).alloc (.cells #[.int .i64 mru, .int .i64 accm, .int .i64 auth, .int .u32 0, .bool b1, .bool b2] 28)) (at_new1 (by simp))
        go_enter Try.func20, Try.ntmps20
        go_wp2
        go_quiet (fail)
        obtain ⟨wd, hwd⟩ : ∃ wd, World.drewN (((w.alloc (.cells #[.int .i64 11, .int .i64 id, .slice A n c] 43)).alloc (.cells #[.int .i64 mru, .int .i64 accm, .int .i64 auth, .int .u32 0, .bool b1, .bool b2] 28)).alloc zPk) nq = wd := ⟨_, rfl⟩
        have YW : Ext w wd := by rw [← hwd]; exact inferInstance
        have Yd : Ext (((w.alloc (.cells #[.int .i64 11, .int .i64 id, .slice A n c] 43)).alloc (.cells #[.int .i64 mru, .int .i64 accm, .int .i64 auth, .int .u32 0, .bool b1, .bool b2] 28)).alloc zPk) wd := by rw [← hwd]; exact inferInstance
        have HPd := Lib.hid (at_ext (w' := wd) HPK.out)
        have HOd := Lib.hid (at_ext (w' := wd) HOP.out)
        have HZDD : Hid (wd.heap[w.heap.size + 2]? = some zPk) := at_ext HZP.out
        try rw [hwd]
        clear hwd
        have pk0 : wd.cell? ⟨w.heap.size, 0, none⟩ = some (.int .i64 11) := at_cell HPd.out 0
        have pk1 : wd.cell? ⟨w.heap.size, 1, none⟩ = some (.int .i64 id) := at_cell HPd.out 1
        have pk2 : wd.cell? ⟨w.heap.size, 2, none⟩ = some (.slice A n c) := at_cell HPd.out 2
        have op3 : wd.cell? ⟨w.heap.size + 1, 3, none⟩ = some (.int .u32 0) := at_cell HOd.out 3
        go_wp2_with
          (first
           | (refine wpList_store_row rfl 43 (.tmp 4) (.tmp 50) rfl (w.heap.size + 2) #[.int .i64 0, .int .i64 0, .slice none 0 0] rfl rfl 43 #[.int .i64 0, .int .i64 0, .slice none 0 0] HZDD.out (by kernel_rfl) rfl (by simp [Value.oneCell']) ?_))
        refine bodyPost_ret (results_cell_row3 Try.results20 _ _ (w.heap.size + 2) 43 #[.int .i64 0, .int .i64 0, .slice none 0 0] (0, 0) _ (.bool true) (.int .i64 0) rfl rfl rfl (setRow_heap _ _ _ _ _ _ HZDD.out) Try.underlying43 rfl (by kernel_rfl)) rfl ?_
        rw [HR.out]
        exact ⟨none, 0, rfl, own_nil _ _ _ _, (Ext.setRow_ YW (by omega) _).out⟩
      · have hz1 : (mm != 0) = true := by simpa using hz
        have hz2 : (N == mm) = false := by simp; exact fun h => hy ⟨hz, h⟩
        clear hz hy
        have HZP : Hid ((((w.alloc (.cells #[.int .i64 11, .int .i64 id, .slice A n c] 43)).alloc (.cells #[.int .i64 mru, .int .i64 accm, .int .i64 auth, .int .u32 mm, .bool b1, .bool b2] 28)).alloc zPk).heap[w.heap.size + 2]? = some zPk) := at_new1 (by simp)
        have HPK : Hid ((((w.alloc (.cells #[.int .i64 11, .int .i64 id, .slice A n c] 43)).alloc (.cells #[.int .i64 mru, .int .i64 accm, .int .i64 auth, .int .u32 mm, .bool b1, .bool b2] 28)).alloc zPk).heap[w.heap.size]? = some (.cells #[.int .i64 11, .int .i64 id, .slice A n c] 43 (0, 0))) := at_ext (at_new w _)
        have HOP : Hid ((((w.alloc (.cells #[.int .i64 11, .int .i64 id, .slice A n c] 43)).alloc (.cells #[.int .i64 mru, .int .i64 accm, .int .i64 auth, .int .u32 mm, .bool b1, .bool b2] 28)).alloc zPk).heap[w.heap.size + 1]? = some (.cells #[.int .i64 mru, .int .i64 accm, .int .i64 auth, .int .u32 mm, .bool b1, .bool b2] 28 (0, 0))) := at_ext (w := (w.alloc (.cells #[.int .i64 11, .int .i64 id, .slice A n c] 43)).alloc (.cells #[.int .i64 mru, .int .i64 accm, .int .i64 auth, .int .u32 mm, .bool b1, .bool b2] 28)) (at_new1 (by simp))
        go_enter Try.func20, Try.ntmps20
        go_wp2
        have HW0 : Hid (Ext w (((w.alloc (.cells #[.int .i64 11, .int .i64 id, .slice A n c] 43)).alloc (.cells #[.int .i64 mru, .int .i64 accm, .int .i64 auth, .int .u32 mm, .bool b1, .bool b2] 28)).alloc zPk)) := inferInstanceAs (Ext w _)
        obtain ⟨w0, hw0⟩ : ∃ w0, ((w.alloc (.cells #[.int .i64 11, .int .i64 id, .slice A n c] 43)).alloc (.cells #[.int .i64 mru, .int .i64 accm, .int .i64 auth, .int .u32 mm, .bool b1, .bool b2] 28)).alloc zPk = w0 := ⟨_, rfl⟩
        rw [hw0] at HPK HOP HW0 HZP
        have pk2 : w0.cell? ⟨w.heap.size, 2, none⟩ = some (.slice A n c) := at_cell HPK.out 2
        have op3 : w0.cell? ⟨w.heap.size + 1, 3, none⟩ = some (.int .u32 mm) := at_cell HOP.out 3
        have Y0 : Ext w w0 := HW0.out
        try rw [hw0]
        refine wp_region_held_drew (S := fun W => Ext w0 W) (by kernel_rfl) (by exact inferInstance) (fun hHeld => ?_)
        refine wpAnyH_take (i := 0) (v := ?_) rfl (by kernel_rfl) (by kernel_rfl) (by kernel_rfl) (fun _ _ _ h => h) (Yields.yieldsIf (Or.inl ⟨by rfl, ?_⟩)) hHeld ?_
        rotate_left
        · intro W
          go_simp
          try with_reducible rfl
        simp only [List.getElem_toArray, List.getElem_cons_succ, List.getElem_cons_zero, Act.put, List.setIfInBounds_toArray, List.set_cons_zero, List.set_cons_succ]
        refine wpAnyH_take (i := 1) (v := ?_) rfl (by kernel_rfl) (by kernel_rfl) (by kernel_rfl) (fun _ _ _ h => h) (Or.inl ⟨by rfl, ?_⟩) hHeld ?_
        rotate_left
        · intro W hW
          have hcl := (cell_ext (h := hW) op3)
          go_simp
          try with_reducible rfl
        simp only [List.getElem_toArray, List.getElem_cons_succ, List.getElem_cons_zero, Act.put, List.setIfInBounds_toArray, List.set_cons_zero, List.set_cons_succ]
        refine wpAnyH_take (i := 2) (v := ?_) rfl (by kernel_rfl) (by kernel_rfl) (by kernel_rfl) (fun _ _ _ h => h) (Yields.yieldsIf (Or.inl ⟨by rfl, ?_⟩)) hHeld ?_
        rotate_left
        · intro W
          go_simp
          try with_reducible rfl
        simp only [List.getElem_toArray, List.getElem_cons_succ, List.getElem_cons_zero, Act.put, List.setIfInBounds_toArray, List.set_cons_zero, List.set_cons_succ]
        refine wpAnyH_take (i := 3) (v := ?_) rfl (by kernel_rfl) (by kernel_rfl) (by kernel_rfl) (fun _ _ _ h => h) (Yields.yieldsIf (Or.inl ⟨by rfl, ?_⟩)) hHeld ?_
        rotate_left
        · intro W
          go_simp
          try with_reducible rfl
        simp only [List.getElem_toArray, List.getElem_cons_succ, List.getElem_cons_zero, Act.put, List.setIfInBounds_toArray, List.set_cons_zero, List.set_cons_succ]
        refine wpAnyH_take (i := 4) (v := ?_) rfl (by kernel_rfl) (by kernel_rfl) (by kernel_rfl) (fun _ _ _ h => h) (Yields.yieldsIf (Or.inl ⟨by rfl, ?_⟩)) hHeld ?_
        rotate_left
        · intro W
          go_simp
          try with_reducible rfl
        simp only [List.getElem_toArray, List.getElem_cons_succ, List.getElem_cons_zero, Act.put, List.setIfInBounds_toArray, List.set_cons_zero, List.set_cons_succ]
        refine wpAnyH_take (i := 5) (v := ?_) rfl (by kernel_rfl) (by kernel_rfl) (by kernel_rfl) (fun _ _ _ h => h) (Or.inl ⟨by rfl, ?_⟩) hHeld ?_
        rotate_left
        · intro W hW
          have hcl := (cell_ext (h := hW) pk2)
          go_simp
          try with_reducible rfl
        simp only [List.getElem_toArray, List.getElem_cons_succ, List.getElem_cons_zero, Act.put, List.setIfInBounds_toArray, List.set_cons_zero, List.set_cons_succ]
        refine wpAnyH_take (i := 6) (v := ?_) rfl (by kernel_rfl) (by kernel_rfl) (by kernel_rfl) (fun _ _ _ h => h) (Yields.yieldsIf (Or.inl ⟨by rfl, ?_⟩)) hHeld ?_
        rotate_left
        · intro W
          go_simp
          try with_reducible rfl
        simp only [List.getElem_toArray, List.getElem_cons_succ, List.getElem_cons_zero, Act.put, List.setIfInBounds_toArray, List.set_cons_zero, List.set_cons_succ]
        refine wpAnyH_take (i := 8) (v := ?_) rfl (by kernel_rfl) (by kernel_rfl) (by kernel_rfl) (fun _ _ _ h => h) (Yields.yieldsIf (Or.inl ⟨by rfl, ?_⟩)) hHeld ?_
        rotate_left
        · intro W
          go_simp
          try with_reducible rfl
        simp only [List.getElem_toArray, List.getElem_cons_succ, List.getElem_cons_zero, Act.put, List.setIfInBounds_toArray, List.set_cons_zero, List.set_cons_succ]
        refine wpAnyH_take (i := 9) (v := ?_) rfl (by kernel_rfl) (by kernel_rfl) (by kernel_rfl) (fun _ _ _ h => h) (Or.inl ⟨by rfl, ?_⟩) hHeld ?_
        rotate_left
        · intro W hW
          have hcl := (cell_ext (h := hW) op3)
          go_simp
          try with_reducible rfl
        simp only [List.getElem_toArray, List.getElem_cons_succ, List.getElem_cons_zero, Act.put, List.setIfInBounds_toArray, List.set_cons_zero, List.set_cons_succ]
        refine wpAnyH_take (i := 10) (v := ?_) rfl (by kernel_rfl) (by kernel_rfl) (by kernel_rfl) (fun _ _ _ h => h) (Yields.yieldsIf (Or.inl ⟨by rfl, ?_⟩)) hHeld ?_
        rotate_left
        · intro W
          go_simp
          try with_reducible rfl
        simp only [List.getElem_toArray, List.getElem_cons_succ, List.getElem_cons_zero, Act.put, List.setIfInBounds_toArray, List.set_cons_zero, List.set_cons_succ]
        have HQ : Calls Try.prog 90 #[.slice A 4 c] w0.drew fun e w' => e = .returned (.int .u64 N) ∧ w0.drew = w' := by
          have h1 := rnumber_any A 4 c (xs.take 4) HL4.out (by omega) HB4.out w0.drew (by rw [nums_take]; exact (HX.out.take 4).ext)
          rw [HNN.out] at h1
          exact h1
        refine wpAnyH_ready (rs := [7]) (by kernel_rfl) (by simp) ?_
        refine AllReadyH.cons rfl (fun K hK => ?_) AllReadyH.nil
        refine step_call_w (by rfl) Try.func90 (by kernel_rfl) (by kernel_rfl) #[.tmp 39] #[41] rfl #[.slice A 4 c] ?hv HQ ?_
        case hv => go_simp
        rintro e wq ⟨rfl, rfl⟩
        refine ⟨_, rfl, ?_⟩
        clear hHeld HQ
        refine hK.out _ _ (by exact inferInstance) (fun hHeld => ?_)
        clear hK K
        simp only [List.getElem_toArray, List.getElem_cons_succ, List.getElem_cons_zero, Act.put, List.setIfInBounds_toArray, List.set_cons_zero, List.set_cons_succ]
        refine wpAnyH_take (i := 11) (v := ?_) rfl (by kernel_rfl) (by kernel_rfl) (by kernel_rfl) (fun _ _ _ h => h) (Yields.yieldsIf (Or.inl ⟨by rfl, ?_⟩)) hHeld ?_
        rotate_left
        · intro W
          go_simp
          try with_reducible rfl
        simp only [List.getElem_toArray, List.getElem_cons_succ, List.getElem_cons_zero, Act.put, List.setIfInBounds_toArray, List.set_cons_zero, List.set_cons_succ]
        refine wpAnyH_take (i := 12) (v := ?_) rfl (by kernel_rfl) (by kernel_rfl) (by kernel_rfl) (fun _ _ _ h => h) (Yields.yieldsIf (Or.inl ⟨by rfl, ?_⟩)) hHeld ?_
        rotate_left
        · intro W
          go_simp
          try with_reducible rfl
        simp only [List.getElem_toArray, List.getElem_cons_succ, List.getElem_cons_zero, Act.put, List.setIfInBounds_toArray, List.set_cons_zero, List.set_cons_succ]
        refine wpAnyH_done (by kernel_rfl) ?_ _
        clear hHeld
        obtain ⟨wd, hwd⟩ : ∃ wd, w0.drew = wd := ⟨_, rfl⟩
        have Yd : Ext w0 wd := by rw [← hwd]; exact inferInstance
        have YW : Ext w wd := Ext.trans_ Y0 Yd
        have HPd := Lib.hid (at_ext (w' := wd) HPK.out)
        have HOd := Lib.hid (at_ext (w' := wd) HOP.out)
        rw [hwd]
        clear hwd pk2 op3
        have pk0 : wd.cell? ⟨w.heap.size, 0, none⟩ = some (.int .i64 11) := at_cell HPd.out 0
        have pk1 : wd.cell? ⟨w.heap.size, 1, none⟩ = some (.int .i64 id) := at_cell HPd.out 1
        have pk2 : wd.cell? ⟨w.heap.size, 2, none⟩ = some (.slice A n c) := at_cell HPd.out 2
        have op3 : wd.cell? ⟨w.heap.size + 1, 3, none⟩ = some (.int .u32 mm) := at_cell HOd.out 3
        have HZDD : Hid (wd.heap[w.heap.size + 2]? = some zPk) := at_ext HZP.out
        go_wp2_with
          (first
           | (refine wpList_store_row rfl 43 (.tmp 4) (.tmp 50) rfl (w.heap.size + 2) #[.int .i64 0, .int .i64 0, .slice none 0 0] rfl rfl 43 #[.int .i64 0, .int .i64 0, .slice none 0 0] HZDD.out (by kernel_rfl) rfl (by simp [Value.oneCell']) ?_))
        refine bodyPost_ret (results_cell_row3 Try.results20 _ _ (w.heap.size + 2) 43 #[.int .i64 0, .int .i64 0, .slice none 0 0] (0, 0) _ (.bool true) (.int .i64 0) rfl rfl rfl (setRow_heap _ _ _ _ _ _ HZDD.out) Try.underlying43 rfl (by kernel_rfl)) rfl ?_
        rw [HR.out]
        exact ⟨none, 0, rfl, own_nil _ _ _ _, (Ext.setRow_ YW (by omega) _).out⟩
  · skip
    clear h9 h9a h9b
    by_cases hy : mm ≠ 0 ∧ N = mm
    · skip
      have HR : Hid (echoF 12 id xs mm = (((0, 0), []), false, 0)) := by unfold Hid; rw [HE0.out, if_pos hy]
      have hz1 : (mm != 0) = true := by simpa using hy.1
      have hz2 : (N == mm) = true := by simpa using hy.2
      clear hy
      have HZP : Hid ((((w.alloc (.cells #[.int .i64 12, .int .i64 id, .slice A n c] 43)).alloc (.cells #[.int .i64 mru, .int .i64 accm, .int .i64 auth, .int .u32 mm, .bool b1, .bool b2] 28)).alloc zPk).heap[w.heap.size + 2]? = some zPk) := at_new1 (by simp)
      have HPK : Hid ((((w.alloc (.cells #[.int .i64 12, .int .i64 id, .slice A n c] 43)).alloc (.cells #[.int .i64 mru, .int .i64 accm, .int .i64 auth, .int .u32 mm, .bool b1, .bool b2] 28)).alloc zPk).heap[w.heap.size]? = some (.cells #[.int .i64 12, .int .i64 id, .slice A n c] 43 (0, 0))) := at_ext (at_new w _)
      have HOP : Hid ((((w.alloc (.cells #[.int .i64 12, .int .i64 id, .slice A n c] 43)).alloc (.cells #[.int .i64 mru, .int .i64 accm, .int .i64 auth, .int .u32 mm, .bool b1, .bool b2] 28)).alloc zPk).heap[w.heap.size + 1]? = some (.cells #[.int .i64 mru, .int .i64 accm, .int .i64 auth, .int .u32 mm, .bool b1, .bool b2] 28 (0, 0))) := at_ext (w := (w.alloc (.cells #[.int .i64 12, .int .i64 id, .slice A n c] 43)).alloc (.cells #[.int .i64 mru, .int .i64 accm, .int .i64 auth, .int .u32 mm, .bool b1, .bool b2] 28)) (at_new1 (by simp))
      go_enter Try.func20, Try.ntmps20
      go_wp2
      have HW0 : Hid (Ext w (((w.alloc (.cells #[.int .i64 12, .int .i64 id, .slice A n c] 43)).alloc (.cells #[.int .i64 mru, .int .i64 accm, .int .i64 auth, .int .u32 mm, .bool b1, .bool b2] 28)).alloc zPk)) := inferInstanceAs (Ext w _)
      obtain ⟨w0, hw0⟩ : ∃ w0, ((w.alloc (.cells #[.int .i64 12, .int .i64 id, .slice A n c] 43)).alloc (.cells #[.int .i64 mru, .int .i64 accm, .int .i64 auth, .int .u32 mm, .bool b1, .bool b2] 28)).alloc zPk = w0 := ⟨_, rfl⟩
      rw [hw0] at HPK HOP HW0 HZP
      have pk2 : w0.cell? ⟨w.heap.size, 2, none⟩ = some (.slice A n c) := at_cell HPK.out 2
      have op3 : w0.cell? ⟨w.heap.size + 1, 3, none⟩ = some (.int .u32 mm) := at_cell HOP.out 3
      have Y0 : Ext w w0 := HW0.out
      try rw [hw0]
      refine wp_region_held_drew (S := fun W => Ext w0 W) (by kernel_rfl) (by exact inferInstance) (fun hHeld => ?_)
      refine wpAnyH_take (i := 0) (v := ?_) rfl (by kernel_rfl) (by kernel_rfl) (by kernel_rfl) (fun _ _ _ h => h) (Yields.yieldsIf (Or.inl ⟨by rfl, ?_⟩)) hHeld ?_
      rotate_left
      · intro W
        go_simp
        try with_reducible rfl
      simp only [List.getElem_toArray, List.getElem_cons_succ, List.getElem_cons_zero, Act.put, List.setIfInBounds_toArray, List.set_cons_zero, List.set_cons_succ]
      refine wpAnyH_take (i := 1) (v := ?_) rfl (by kernel_rfl) (by kernel_rfl) (by kernel_rfl) (fun _ _ _ h => h) (Or.inl ⟨by rfl, ?_⟩) hHeld ?_
      rotate_left
      · intro W hW
        have hcl := (cell_ext (h := hW) op3)
        go_simp
        try with_reducible rfl
      simp only [List.getElem_toArray, List.getElem_cons_succ, List.getElem_cons_zero, Act.put, List.setIfInBounds_toArray, List.set_cons_zero, List.set_cons_succ]
      refine wpAnyH_take (i := 2) (v := ?_) rfl (by kernel_rfl) (by kernel_rfl) (by kernel_rfl) (fun _ _ _ h => h) (Yields.yieldsIf (Or.inl ⟨by rfl, ?_⟩)) hHeld ?_
      rotate_left
      · intro W
        go_simp
        try with_reducible rfl
      simp only [List.getElem_toArray, List.getElem_cons_succ, List.getElem_cons_zero, Act.put, List.setIfInBounds_toArray, List.set_cons_zero, List.set_cons_succ]
      refine wpAnyH_take (i := 3) (v := ?_) rfl (by kernel_rfl) (by kernel_rfl) (by kernel_rfl) (fun _ _ _ h => h) (Yields.yieldsIf (Or.inl ⟨by rfl, ?_⟩)) hHeld ?_
      rotate_left
      · intro W
        go_simp
        try with_reducible rfl
      simp only [List.getElem_toArray, List.getElem_cons_succ, List.getElem_cons_zero, Act.put, List.setIfInBounds_toArray, List.set_cons_zero, List.set_cons_succ]
      refine wpAnyH_take (i := 4) (v := ?_) rfl (by kernel_rfl) (by kernel_rfl) (by kernel_rfl) (fun _ _ _ h => h) (Yields.yieldsIf (Or.inl ⟨by rfl, ?_⟩)) hHeld ?_
      rotate_left
      · intro W
        go_simp
        try with_reducible rfl
      simp only [List.getElem_toArray, List.getElem_cons_succ, List.getElem_cons_zero, Act.put, List.setIfInBounds_toArray, List.set_cons_zero, List.set_cons_succ]
      refine wpAnyH_take (i := 5) (v := ?_) rfl (by kernel_rfl) (by kernel_rfl) (by kernel_rfl) (fun _ _ _ h => h) (Or.inl ⟨by rfl, ?_⟩) hHeld ?_
      rotate_left
      · intro W hW
        have hcl := (cell_ext (h := hW) pk2)
        go_simp
        try with_reducible rfl
      simp only [List.getElem_toArray, List.getElem_cons_succ, List.getElem_cons_zero, Act.put, List.setIfInBounds_toArray, List.set_cons_zero, List.set_cons_succ]
      refine wpAnyH_take (i := 6) (v := ?_) rfl (by kernel_rfl) (by kernel_rfl) (by kernel_rfl) (fun _ _ _ h => h) (Yields.yieldsIf (Or.inl ⟨by rfl, ?_⟩)) hHeld ?_
      rotate_left
      · intro W
        go_simp
        try with_reducible rfl
      simp only [List.getElem_toArray, List.getElem_cons_succ, List.getElem_cons_zero, Act.put, List.setIfInBounds_toArray, List.set_cons_zero, List.set_cons_succ]
      refine wpAnyH_take (i := 8) (v := ?_) rfl (by kernel_rfl) (by kernel_rfl) (by kernel_rfl) (fun _ _ _ h => h) (Yields.yieldsIf (Or.inl ⟨by rfl, ?_⟩)) hHeld ?_
      rotate_left
      · intro W
        go_simp
        try with_reducible rfl
      simp only [List.getElem_toArray, List.getElem_cons_succ, List.getElem_cons_zero, Act.put, List.setIfInBounds_toArray, List.set_cons_zero, List.set_cons_succ]
      refine wpAnyH_take (i := 9) (v := ?_) rfl (by kernel_rfl) (by kernel_rfl) (by kernel_rfl) (fun _ _ _ h => h) (Or.inl ⟨by rfl, ?_⟩) hHeld ?_
      rotate_left
      · intro W hW
        have hcl := (cell_ext (h := hW) op3)
        go_simp
        try with_reducible rfl
      simp only [List.getElem_toArray, List.getElem_cons_succ, List.getElem_cons_zero, Act.put, List.setIfInBounds_toArray, List.set_cons_zero, List.set_cons_succ]
      refine wpAnyH_take (i := 10) (v := ?_) rfl (by kernel_rfl) (by kernel_rfl) (by kernel_rfl) (fun _ _ _ h => h) (Yields.yieldsIf (Or.inl ⟨by rfl, ?_⟩)) hHeld ?_
      rotate_left
      · intro W
        go_simp
        try with_reducible rfl
      simp only [List.getElem_toArray, List.getElem_cons_succ, List.getElem_cons_zero, Act.put, List.setIfInBounds_toArray, List.set_cons_zero, List.set_cons_succ]
      have HQ : Calls Try.prog 90 #[.slice A 4 c] w0.drew fun e w' => e = .returned (.int .u64 N) ∧ w0.drew = w' := by
        have h1 := rnumber_any A 4 c (xs.take 4) HL4.out (by omega) HB4.out w0.drew (by rw [nums_take]; exact (HX.out.take 4).ext)
        rw [HNN.out] at h1
        exact h1
      refine wpAnyH_ready (rs := [7]) (by kernel_rfl) (by simp) ?_
      refine AllReadyH.cons rfl (fun K hK => ?_) AllReadyH.nil
      refine step_call_w (by rfl) Try.func90 (by kernel_rfl) (by kernel_rfl) #[.tmp 39] #[41] rfl #[.slice A 4 c] ?hv HQ ?_
      case hv => go_simp
      rintro e wq ⟨rfl, rfl⟩
      refine ⟨_, rfl, ?_⟩
      clear hHeld HQ
      refine hK.out _ _ (by exact inferInstance) (fun hHeld => ?_)
      clear hK K
      simp only [List.getElem_toArray, List.getElem_cons_succ, List.getElem_cons_zero, Act.put, List.setIfInBounds_toArray, List.set_cons_zero, List.set_cons_succ]
      refine wpAnyH_take (i := 11) (v := ?_) rfl (by kernel_rfl) (by kernel_rfl) (by kernel_rfl) (fun _ _ _ h => h) (Yields.yieldsIf (Or.inl ⟨by rfl, ?_⟩)) hHeld ?_
      rotate_left
      · intro W
        go_simp
        try with_reducible rfl
      simp only [List.getElem_toArray, List.getElem_cons_succ, List.getElem_cons_zero, Act.put, List.setIfInBounds_toArray, List.set_cons_zero, List.set_cons_succ]
      refine wpAnyH_take (i := 12) (v := ?_) rfl (by kernel_rfl) (by kernel_rfl) (by kernel_rfl) (fun _ _ _ h => h) (Yields.yieldsIf (Or.inl ⟨by rfl, ?_⟩)) hHeld ?_
      rotate_left
      · intro W
        go_simp
        try with_reducible rfl
      simp only [List.getElem_toArray, List.getElem_cons_succ, List.getElem_cons_zero, Act.put, List.setIfInBounds_toArray, List.set_cons_zero, List.set_cons_succ]
      refine wpAnyH_done (by kernel_rfl) ?_ _
      clear hHeld
      obtain ⟨wd, hwd⟩ : ∃ wd, w0.drew = wd := ⟨_, rfl⟩
      have Yd : Ext w0 wd := by rw [← hwd]; exact inferInstance
      have YW : Ext w wd := Ext.trans_ Y0 Yd
      have HPd := Lib.hid (at_ext (w' := wd) HPK.out)
      have HOd := Lib.hid (at_ext (w' := wd) HOP.out)
      rw [hwd]
      clear hwd pk2 op3
      have pk0 : wd.cell? ⟨w.heap.size, 0, none⟩ = some (.int .i64 12) := at_cell HPd.out 0
      have pk1 : wd.cell? ⟨w.heap.size, 1, none⟩ = some (.int .i64 id) := at_cell HPd.out 1
      have pk2 : wd.cell? ⟨w.heap.size, 2, none⟩ = some (.slice A n c) := at_cell HPd.out 2
      have op3 : wd.cell? ⟨w.heap.size + 1, 3, none⟩ = some (.int .u32 mm) := at_cell HOd.out 3
      have HZDD : Hid (wd.heap[w.heap.size + 2]? = some zPk) := at_ext HZP.out
      go_wp2_with
        (first
         | (refine wpList_store_row rfl 43 (.tmp 4) (.tmp 46) rfl (w.heap.size + 2) #[.int .i64 0, .int .i64 0, .slice none 0 0] rfl rfl 43 #[.int .i64 0, .int .i64 0, .slice none 0 0] HZDD.out (by kernel_rfl) rfl (by simp [Value.oneCell']) ?_))
      refine bodyPost_ret (results_cell_row3 Try.results20 _ _ (w.heap.size + 2) 43 #[.int .i64 0, .int .i64 0, .slice none 0 0] (0, 0) _ (.bool false) (.int .i64 0) rfl rfl rfl (setRow_heap _ _ _ _ _ _ HZDD.out) Try.underlying43 rfl (by kernel_rfl)) rfl ?_
      rw [HR.out]
      exact ⟨none, 0, rfl, own_nil _ _ _ _, (Ext.setRow_ YW (by omega) _).out⟩
    · have HR : Hid (echoF 12 id xs mm = (((0, 0), []), true, 0)) := by unfold Hid; rw [HE0.out, if_neg hy, if_pos (by decide)]
      by_cases hz : mm = 0
      · subst hz
        clear hy
        have HZP : Hid ((((w.alloc (.cells #[.int .i64 12, .int .i64 id, .slice A n c] 43)).alloc (.cells #[.int .i64 mru, .int .i64 accm, .int .i64 auth, .int .u32 0, .bool b1, .bool b2] 28)).alloc zPk).heap[w.heap.size + 2]? = some zPk) := at_new1 (by simp)
        have HPK : Hid ((((w.alloc (.cells #[.int .i64 12, .int .i64 id, .slice A n c] 43)).alloc (.cells #[.int .i64 mru, .int .i64 accm, .int .i64 auth, .int .u32 0, .bool b1, .bool b2] 28)).alloc zPk).heap[w.heap.size]? = some (.cells #[.int .i64 12, .int .i64 id, .slice A n c] 43 (0, 0))) := at_ext (at_new w _)
        have HOP : Hid ((((w.alloc (.cells #[.int .i64 12, .int .i64 id, .slice A n c] 43)).alloc (.cells #[.int .i64 mru, .int .i64 accm, .int .i64 auth, .int .u32 0, .bool b1, .bool b2] 28)).alloc zPk).heap[w.heap.size + 1]? = some (.cells #[.int .i64 mru, .int .i64 accm, .int .i64 auth, .int .u32 0, .bool b1, .bool b2] 28 (0, 0))) := at_ext (w := (w.alloc (.cells #[.int .i64 12, .int .i64 id, .slice A n c] 43)).alloc (.cells #[.int .i64 mru, .int .i64 accm, .int .i64 auth, .int .u32 0, .bool b1, .bool b2] 28)) (at_new1 (by simp))
        go_enter Try.func20, Try.ntmps20
        go_wp2
        go_quiet (fail)
        obtain ⟨wd, hwd⟩ : ∃ wd, World.drewN (((w.alloc (.cells #[.int .i64 12, .int .i64 id, .slice A n c] 43)).alloc (.cells #[.int .i64 mru, .int .i64 accm, .int .i64 auth, .int .u32 0, .bool b1, .bool b2] 28)).alloc zPk) nq = wd := ⟨_, rfl⟩
        have YW : Ext w wd := by rw [← hwd]; exact inferInstance
        have Yd : Ext (((w.alloc (.cells #[.int .i64 12, .int .i64 id, .slice A n c] 43)).alloc (.cells #[.int .i64 mru, .int .i64 accm, .int .i64 auth, .int .u32 0, .bool b1, .bool b2] 28)).alloc zPk) wd := by rw [← hwd]; exact inferInstance
        have HPd := Lib.hid (at_ext (w' := wd) HPK.out)
        have HOd := Lib.hid (at_ext (w' := wd) HOP.out)
        have HZDD : Hid (wd.heap[w.heap.size + 2]? = some zPk) := at_ext HZP.out
        try rw [hwd]
        clear hwd
        have pk0 : wd.cell? ⟨w.heap.size, 0, none⟩ = some (.int .i64 12) := at_cell HPd.out 0
        have pk1 : wd.cell? ⟨w.heap.size, 1, none⟩ = some (.int .i64 id) := at_cell HPd.out 1
        have pk2 : wd.cell? ⟨w.heap.size, 2, none⟩ = some (.slice A n c) := at_cell HPd.out 2
        have op3 : wd.cell? ⟨w.heap.size + 1, 3, none⟩ = some (.int .u32 0) := at_cell HOd.out 3
        go_wp2_with
          (first
           | (refine wpList_store_row rfl 43 (.tmp 4) (.tmp 50) rfl (w.heap.size + 2) #[.int .i64 0, .int .i64 0, .slice none 0 0] rfl rfl 43 #[.int .i64 0, .int .i64 0, .slice none 0 0] HZDD.out (by kernel_rfl) rfl (by simp [Value.oneCell']) ?_))
        refine bodyPost_ret (results_cell_row3 Try.results20 _ _ (w.heap.size + 2) 43 #[.int .i64 0, .int .i64 0, .slice none 0 0] (0, 0) _ (.bool true) (.int .i64 0) rfl rfl rfl (setRow_heap _ _ _ _ _ _ HZDD.out) Try.underlying43 rfl (by kernel_rfl)) rfl ?_
        rw [HR.out]
        exact ⟨none, 0, rfl, own_nil _ _ _ _, (Ext.setRow_ YW (by omega) _).out⟩
      · have hz1 : (mm != 0) = true := by simpa using hz
        have hz2 : (N == mm) = false := by simp; exact fun h => hy ⟨hz, h⟩
        clear hz hy
        have HZP : Hid ((((w.alloc (.cells #[.int .i64 12, .int .i64 id, .slice A n c] 43)).alloc (.cells #[.int .i64 mru, .int .i64 accm, .int .i64 auth, .int .u32 mm, .bool b1, .bool b2] 28)).alloc zPk).heap[w.heap.size + 2]? = some zPk) := at_new1 (by simp)
        have HPK : Hid ((((w.alloc (.cells #[.int .i64 12, .int .i64 id, .slice A n c] 43)).alloc (.cells #[.int .i64 mru, .int .i64 accm, .int .i64 auth, .int .u32 mm, .bool b1, .bool b2] 28)).alloc zPk).heap[w.heap.size]? = some (.cells #[.int .i64 12, .int .i64 id, .slice A n c] 43 (0, 0))) := at_ext (at_new w _)
        have HOP : Hid ((((w.alloc (.cells #[.int .i64 12, .int .i64 id, .slice A n c] 43)).alloc (.cells #[.int .i64 mru, .int .i64 accm, .int .i64 auth, .int .u32 mm, .bool b1, .bool b2] 28)).alloc zPk).heap[w.heap.size + 1]? = some (.cells #[.int .i64 mru, .int .i64 accm, .int .i64 auth, .int .u32 mm, .bool b1, .bool b2] 28 (0, 0))) := at_ext (w := (w.alloc (.cells #[.int .i64 12, .int .i64 id, .slice A n c] 43)).alloc (.cells #[.int .i64 mru, .int .i64 accm, .int .i64 auth, .int .u32 mm, .bool b1, .bool b2] 28)) (at_new1 (by simp))
        go_enter Try.func20, Try.ntmps20
        go_wp2
        have HW0 : Hid (Ext w (((w.alloc (.cells #[.int .i64 12, .int .i64 id, .slice A n c] 43)).alloc (.cells #[.int .i64 mru, .int .i64 accm, .int .i64 auth, .int .u32 mm, .bool b1, .bool b2] 28)).alloc zPk)) := inferInstanceAs (Ext w _)
        obtain ⟨w0, hw0⟩ : ∃ w0, ((w.alloc (.cells #[.int .i64 12, .int .i64 id, .slice A n c] 43)).alloc (.cells #[.int .i64 mru, .int .i64 accm, .int .i64 auth, .int .u32 mm, .bool b1, .bool b2] 28)).alloc zPk = w0 := ⟨_, rfl⟩
        rw [hw0] at HPK HOP HW0 HZP
        have pk2 : w0.cell? ⟨w.heap.size, 2, none⟩ = some (.slice A n c) := at_cell HPK.out 2
        have op3 : w0.cell? ⟨w.heap.size + 1, 3, none⟩ = some (.int .u32 mm) := at_cell HOP.out 3
        have Y0 : Ext w w0 := HW0.out
        try rw [hw0]
        refine wp_region_held_drew (S := fun W => Ext w0 W) (by kernel_rfl) (by exact inferInstance) (fun hHeld => ?_)
        refine wpAnyH_take (i := 0) (v := ?_) rfl (by kernel_rfl) (by kernel_rfl) (by kernel_rfl) (fun _ _ _ h => h) (Yields.yieldsIf (Or.inl ⟨by rfl, ?_⟩)) hHeld ?_
        rotate_left
        · intro W
          go_simp
          try with_reducible rfl
        simp only [List.getElem_toArray, List.getElem_cons_succ, List.getElem_cons_zero, Act.put, List.setIfInBounds_toArray, List.set_cons_zero, List.set_cons_succ]
        refine wpAnyH_take (i := 1) (v := ?_) rfl (by kernel_rfl) (by kernel_rfl) (by kernel_rfl) (fun _ _ _ h => h) (Or.inl ⟨by rfl, ?_⟩) hHeld ?_
        rotate_left
        · intro W hW
          have hcl := (cell_ext (h := hW) op3)
          go_simp
          try with_reducible rfl
        simp only [List.getElem_toArray, List.getElem_cons_succ, List.getElem_cons_zero, Act.put, List.setIfInBounds_toArray, List.set_cons_zero, List.set_cons_succ]
        refine wpAnyH_take (i := 2) (v := ?_) rfl (by kernel_rfl) (by kernel_rfl) (by kernel_rfl) (fun _ _ _ h => h) (Yields.yieldsIf (Or.inl ⟨by rfl, ?_⟩)) hHeld ?_
        rotate_left
        · intro W
          go_simp
          try with_reducible rfl
        simp only [List.getElem_toArray, List.getElem_cons_succ, List.getElem_cons_zero, Act.put, List.setIfInBounds_toArray, List.set_cons_zero, List.set_cons_succ]
        refine wpAnyH_take (i := 3) (v := ?_) rfl (by kernel_rfl) (by kernel_rfl) (by kernel_rfl) (fun _ _ _ h => h) (Yields.yieldsIf (Or.inl ⟨by rfl, ?_⟩)) hHeld ?_
        rotate_left
        · intro W
          go_simp
          try with_reducible rfl
        simp only [List.getElem_toArray, List.getElem_cons_succ, List.getElem_cons_zero, Act.put, List.setIfInBounds_toArray, List.set_cons_zero, List.set_cons_succ]
        refine wpAnyH_take (i := 4) (v := ?_) rfl (by kernel_rfl) (by kernel_rfl) (by kernel_rfl) (fun _ _ _ h => h) (Yields.yieldsIf (Or.inl ⟨by rfl, ?_⟩)) hHeld ?_
        rotate_left
        · intro W
          go_simp
          try with_reducible rfl
        simp only [List.getElem_toArray, List.getElem_cons_succ, List.getElem_cons_zero, Act.put, List.setIfInBounds_toArray, List.set_cons_zero, List.set_cons_succ]
        refine wpAnyH_take (i := 5) (v := ?_) rfl (by kernel_rfl) (by kernel_rfl) (by kernel_rfl) (fun _ _ _ h => h) (Or.inl ⟨by rfl, ?_⟩) hHeld ?_
        rotate_left
        · intro W hW
          have hcl := (cell_ext (h := hW) pk2)
          go_simp
          try with_reducible rfl
        simp only [List.getElem_toArray, List.getElem_cons_succ, List.getElem_cons_zero, Act.put, List.setIfInBounds_toArray, List.set_cons_zero, List.set_cons_succ]
        refine wpAnyH_take (i := 6) (v := ?_) rfl (by kernel_rfl) (by kernel_rfl) (by kernel_rfl) (fun _ _ _ h => h) (Yields.yieldsIf (Or.inl ⟨by rfl, ?_⟩)) hHeld ?_
        rotate_left
        · intro W
          go_simp
          try with_reducible rfl
        simp only [List.getElem_toArray, List.getElem_cons_succ, List.getElem_cons_zero, Act.put, List.setIfInBounds_toArray, List.set_cons_zero, List.set_cons_succ]
        refine wpAnyH_take (i := 8) (v := ?_) rfl (by kernel_rfl) (by kernel_rfl) (by kernel_rfl) (fun _ _ _ h => h) (Yields.yieldsIf (Or.inl ⟨by rfl, ?_⟩)) hHeld ?_
        rotate_left
        · intro W
          go_simp
          try with_reducible rfl
        simp only [List.getElem_toArray, List.getElem_cons_succ, List.getElem_cons_zero, Act.put, List.setIfInBounds_toArray, List.set_cons_zero, List.set_cons_succ]
        refine wpAnyH_take (i := 9) (v := ?_) rfl (by kernel_rfl) (by kernel_rfl) (by kernel_rfl) (fun _ _ _ h => h) (Or.inl ⟨by rfl, ?_⟩) hHeld ?_
        rotate_left
        · intro W hW
          have hcl := (cell_ext (h := hW) op3)
          go_simp
          try with_reducible rfl
        simp only [List.getElem_toArray, List.getElem_cons_succ, List.getElem_cons_zero, Act.put, List.setIfInBounds_toArray, List.set_cons_zero, List.set_cons_succ]
        refine wpAnyH_take (i := 10) (v := ?_) rfl (by kernel_rfl) (by kernel_rfl) (by kernel_rfl) (fun _ _ _ h => h) (Yields.yieldsIf (Or.inl ⟨by rfl, ?_⟩)) hHeld ?_
        rotate_left
        · intro W
          go_simp
          try with_reducible rfl
        simp only [List.getElem_toArray, List.getElem_cons_succ, List.getElem_cons_zero, Act.put, List.setIfInBounds_toArray, List.set_cons_zero, List.set_cons_succ]
        have HQ : Calls Try.prog 90 #[.slice A 4 c] w0.drew fun e w' => e = .returned (.int .u64 N) ∧ w0.drew = w' := by
          have h1 := rnumber_any A 4 c (xs.take 4) HL4.out (by omega) HB4.out w0.drew (by rw [nums_take]; exact (HX.out.take 4).ext)
          rw [HNN.out] at h1
          exact h1
        refine wpAnyH_ready (rs := [7]) (by kernel_rfl) (by simp) ?_
        refine AllReadyH.cons rfl (fun K hK => ?_) AllReadyH.nil
        refine step_call_w (by rfl) Try.func90 (by kernel_rfl) (by kernel_rfl) #[.tmp 39] #[41] rfl #[.slice A 4 c] ?hv HQ ?_
        case hv => go_simp
        rintro e wq ⟨rfl, rfl⟩
        refine ⟨_, rfl, ?_⟩
        clear hHeld HQ
        refine hK.out _ _ (by exact inferInstance) (fun hHeld => ?_)
        clear hK K
        simp only [List.getElem_toArray, List.getElem_cons_succ, List.getElem_cons_zero, Act.put, List.setIfInBounds_toArray, List.set_cons_zero, List.set_cons_succ]
        refine wpAnyH_take (i := 11) (v := ?_) rfl (by kernel_rfl) (by kernel_rfl) (by kernel_rfl) (fun _ _ _ h => h) (Yields.yieldsIf (Or.inl ⟨by rfl, ?_⟩)) hHeld ?_
        rotate_left
        · intro W
          go_simp
          try with_reducible rfl
        simp only [List.getElem_toArray, List.getElem_cons_succ, List.getElem_cons_zero, Act.put, List.setIfInBounds_toArray, List.set_cons_zero, List.set_cons_succ]
        refine wpAnyH_take (i := 12) (v := ?_) rfl (by kernel_rfl) (by kernel_rfl) (by kernel_rfl) (fun _ _ _ h => h) (Yields.yieldsIf (Or.inl ⟨by rfl, ?_⟩)) hHeld ?_
        rotate_left
        · intro W
          go_simp
          try with_reducible rfl
        simp only [List.getElem_toArray, List.getElem_cons_succ, List.getElem_cons_zero, Act.put, List.setIfInBounds_toArray, List.set_cons_zero, List.set_cons_succ]
        refine wpAnyH_done (by kernel_rfl) ?_ _
        clear hHeld
        obtain ⟨wd, hwd⟩ : ∃ wd, w0.drew = wd := ⟨_, rfl⟩
        have Yd : Ext w0 wd := by rw [← hwd]; exact inferInstance
        have YW : Ext w wd := Ext.trans_ Y0 Yd
        have HPd := Lib.hid (at_ext (w' := wd) HPK.out)
        have HOd := Lib.hid (at_ext (w' := wd) HOP.out)
        rw [hwd]
        clear hwd pk2 op3
        have pk0 : wd.cell? ⟨w.heap.size, 0, none⟩ = some (.int .i64 12) := at_cell HPd.out 0
        have pk1 : wd.cell? ⟨w.heap.size, 1, none⟩ = some (.int .i64 id) := at_cell HPd.out 1
        have pk2 : wd.cell? ⟨w.heap.size, 2, none⟩ = some (.slice A n c) := at_cell HPd.out 2
        have op3 : wd.cell? ⟨w.heap.size + 1, 3, none⟩ = some (.int .u32 mm) := at_cell HOd.out 3
        have HZDD : Hid (wd.heap[w.heap.size + 2]? = some zPk) := at_ext HZP.out
        go_wp2_with
          (first
           | (refine wpList_store_row rfl 43 (.tmp 4) (.tmp 50) rfl (w.heap.size + 2) #[.int .i64 0, .int .i64 0, .slice none 0 0] rfl rfl 43 #[.int .i64 0, .int .i64 0, .slice none 0 0] HZDD.out (by kernel_rfl) rfl (by simp [Value.oneCell']) ?_))
        refine bodyPost_ret (results_cell_row3 Try.results20 _ _ (w.heap.size + 2) 43 #[.int .i64 0, .int .i64 0, .slice none 0 0] (0, 0) _ (.bool true) (.int .i64 0) rfl rfl rfl (setRow_heap _ _ _ _ _ _ HZDD.out) Try.underlying43 rfl (by kernel_rfl)) rfl ?_
        rw [HR.out]
        exact ⟨none, 0, rfl, own_nil _ _ _ _, (Ext.setRow_ YW (by omega) _).out⟩
end Go.Proofs.Ytodibldfolognaa
