/-
  The reference's Block (md5). No condition.
-/
import Derived.Test.YtobddmpiljknpaaMdH
namespace Go.Proofs.Ytobddmpiljknpaa
open Go.RowKit
set_option linter.unusedVariables false
set_option linter.unusedSimpArgs false

abbrev cV (s : Int × Int × Int × Int) : Obj := .cells #[.int .u32 s.1, .int .u32 s.2.1, .int .u32 s.2.2.1, .int .u32 s.2.2.2] 161
theorem u32_max : IntKind.u32.max = 4294967295 := by decide
theorem mdG_lt (k : Nat) : mdG k < 16 := by
  unfold mdG
  split <;> omega
theorem rb_cell {w w' : World} [h : Ext w w'] {xd : Addr} {bs : List Int} {n j : Nat} (hc : ∀ i u, (nums .u8 bs)[i]? = some u → w.cell? (xd.add i) = some u) (hn : bs.length = n) (hj : j < n) : w'.cell? (xd.add j) = some (.int .u8 (bs.getD j 0)) :=
  cell_ext (hc j _ (nums_get _ _ _ (by omega)))
theorem rb_cell1 {w w' : World} [h : Ext w w'] {xd : Addr} {bs : List Int} {n j i : Nat} (hc : ∀ i u, (nums .u8 bs)[i]? = some u → w.cell? (xd.add i) = some u) (hn : bs.length = n) (hj : j + i < n ∧ 0 < i) : w'.cell? ⟨(xd.add j).block, (xd.add j).off + i, none⟩ = some (.int .u8 (bs.getD (j + i) 0)) := by
  have h1 := rb_cell (w' := w') hc hn hj.1
  rw [← add_of_add] at h1
  have : (xd.add j).add i = ⟨(xd.add j).block, (xd.add j).off + i, none⟩ := by unfold Addr.add; rw [if_neg (by omega)]
  rw [this] at h1
  exact h1
set_option maxRecDepth 100000 in
set_option maxHeartbeats 4000000 in
theorem rblock4_any (a b c d : Int) (A : Option Addr) (n cc : Nat) (bs : List Int) (hn : bs.length = n) (h64 : 64 ≤ n) (hnc : n ≤ cc) (hb : Byt bs) (w : World) (hx : Cells w A (nums .u8 bs)) :
    Calls Try.prog 104 #[.agg #[.int .u32 a, .int .u32 b, .int .u32 c, .int .u32 d], .slice A n cc] w (WTells (mdBlock (a, b, c, d) bs) w) := by
  have Hn := Lib.hid hn
  have HB := Lib.hid hb
  have HX := Lib.hid hx
  have h64I : (64 : Int) ≤ (cc : Int) := by omega
  have HX2 : Hid (((w.alloc (cV (a, b, c, d))).alloc (cV (0, 0, 0, 0))).heap[w.heap.size]? = some (cV (a, b, c, d))) := at_ext (at_new w _)
  have HX3 : Hid (((w.alloc (cV (a, b, c, d))).alloc (cV (0, 0, 0, 0))).heap[w.heap.size + 1]? = some (cV (0, 0, 0, 0))) := at_new1 (by simp)
  clear hn hb hx
  go_enter Try.func104, Try.ntmps104
  go_wp2_with fail
  refine (rks4_any _).mono ?_
  rintro e w1 ⟨KA, rfl, hk1, hb1⟩
  have S1 : Step w1 _ := ⟨hb1⟩
  obtain ⟨kd, rfl, _⟩ := hk1 (by decide)
  have HK1 := Lib.hid hk1
  have HV1 : Hid (w1.heap[w.heap.size]? = some (cV (a, b, c, d))) := at_ext (w := (w.alloc (cV (a, b, c, d))).alloc (cV (0, 0, 0, 0))) HX2.out
  have HZ1 : Hid (w1.heap[w.heap.size + 1]? = some (cV (0, 0, 0, 0))) := at_ext (w := (w.alloc (cV (a, b, c, d))).alloc (cV (0, 0, 0, 0))) HX3.out
  have Y1 : Ext w w1 := inferInstance
  have p0 : w1.cell? ⟨w.heap.size, 0, none⟩ = some (.int .u32 a) := at_cell HV1.out 0
  have p1 : w1.cell? ⟨w.heap.size, 1, none⟩ = some (.int .u32 b) := at_cell HV1.out 1
  have p2 : w1.cell? ⟨w.heap.size, 2, none⟩ = some (.int .u32 c) := at_cell HV1.out 2
  have p3 : w1.cell? ⟨w.heap.size, 3, none⟩ = some (.int .u32 d) := at_cell HV1.out 3
  clear hk1 hb1
  go_wp2
  clear p0 p1 p2 p3
  go_loopw [7] (fun i wr => ∃ (k : Nat), i = .int .i64 k ∧ k ≤ 64 ∧ Hid (wr.heap[w1.heap.size]? = some (cV (mdRun (ldF bs 64) (a, b, c, d) k))) ∧ Hid (Ext w1 wr)) (fun i _ => 64 - (intOf i).toNat)
  case atStart => exact ⟨0, rfl, by omega, at_new w1 _, (inferInstance : Ext w1 (World.alloc _ _))⟩
  case round =>
    obtain ⟨k, rfl, hk, HM, HE⟩ := hrel
    have XE : Ext w1 wr := HE.out
    have YE : Ext w wr := Ext.trans_ Y1 XE
    by_cases hlt : k < 64
    · have hk0 : (0 : Int) ≤ (k : Int) := by omega
      have hkI : (k : Int) < 64 := by omega
      obtain ⟨⟨A1, B1, C1, D1⟩, hq⟩ : ∃ q, mdRun (ldF bs 64) (a, b, c, d) k = q := ⟨_, rfl⟩
      have HQ := Lib.hid hq
      rw [hq] at HM
      clear hq
      have v0 : wr.cell? ⟨w1.heap.size, 0, none⟩ = some (.int .u32 A1) := at_cell HM.out 0
      have v1 : wr.cell? ⟨w1.heap.size, 1, none⟩ = some (.int .u32 B1) := at_cell HM.out 1
      have v2 : wr.cell? ⟨w1.heap.size, 2, none⟩ = some (.int .u32 C1) := at_cell HM.out 2
      have v3 : wr.cell? ⟨w1.heap.size, 3, none⟩ = some (.int .u32 D1) := at_cell HM.out 3
      have cK : wr.cell? (kd.add k) = some (.int .u32 (ksL.getD k 0)) := by
        obtain ⟨kd', he, hc⟩ := (HK1.out.ext (w' := wr)).num (i := k) (by show k < 64; omega)
        injection he with he
        subst he
        exact hc
      obtain ⟨kk, hkk⟩ : ∃ x, ksL.getD k 0 = x := ⟨_, rfl⟩
      have HKK := Lib.hid hkk
      rw [hkk] at cK
      clear hkk
      by_cases hq : k < 16
      · have hqN : k / 16 = 0 := by omega
        have hqI : (k : Int) / 16 = 0 := by omega
        have HQN := Lib.hid hqN
        have HGK : Hid (mdG k = k) := by unfold Hid; simp only [mdG, hqN]; omega
        clear hqN
        obtain ⟨xd, rfl, hxc⟩ := HX.out (by rw [nums_length, Hn.out]; omega)
        have HXC := Lib.hid hxc
        clear hxc
        have hg16 : k < 16 := by omega
        have w1' : IntKind.i64.wrap (4 * (k : Int)) = 4 * (k : Int) := by rw [IntKind.wrap_i64]; omega
        have w2' : IntKind.i64.wrap (4 * (k : Int) + 4) = 4 * (k : Int) + 4 := by rw [IntKind.wrap_i64]; omega
        have g0 : (0 : Int) ≤ 4 * (k : Int) := by omega
        have g1 : 4 * (k : Int) ≤ 4 * (k : Int) + 4 := by omega
        have g2 : 4 * (k : Int) + 4 ≤ (cc : Int) := by omega
        have g3 : (4 * (k : Int)).toNat = 4 * k := by omega
        have g4 : (4 * (k : Int) + 4).toNat = 4 * k + 4 := by omega
        have g5 : ¬ cc = 4 * k := by omega
        have g6 : 4 * k + 4 - 4 * k = 4 := by omega
        go_wp2
        refine wp_region_held_drew (S := fun W => Ext wr W) (by kernel_rfl) (by exact inferInstance) (fun hHeld => ?_)
        refine wpAnyH_take (i := 0) (v := ?_) rfl (by kernel_rfl) (by kernel_rfl) (by kernel_rfl) (fun _ _ _ h => h) (Yields.yieldsIf (Or.inl ⟨by rfl, ?_⟩)) hHeld ?_
        rotate_left
        · intro W
          go_simp
          try with_reducible rfl
        simp only [List.getElem_toArray, List.getElem_cons_succ, List.getElem_cons_zero, Act.put, List.setIfInBounds_toArray, List.set_cons_zero, List.set_cons_succ]
        refine wpAnyH_take (i := 1) (v := ?_) rfl (by kernel_rfl) (by kernel_rfl) (by kernel_rfl) (fun _ _ _ h => h) (Or.inl ⟨by rfl, ?_⟩) hHeld ?_
        rotate_left
        · intro W hW
          have hcl := (cell_ext (h := hW) v0)
          go_simp
          try with_reducible rfl
        simp only [List.getElem_toArray, List.getElem_cons_succ, List.getElem_cons_zero, Act.put, List.setIfInBounds_toArray, List.set_cons_zero, List.set_cons_succ]
        refine wpAnyH_take (i := 2) (v := ?_) rfl (by kernel_rfl) (by kernel_rfl) (by kernel_rfl) (fun _ _ _ h => h) (Yields.yieldsIf (Or.inl ⟨by rfl, ?_⟩)) hHeld ?_
        rotate_left
        · intro W
          go_simp
          try with_reducible rfl
        simp only [List.getElem_toArray, List.getElem_cons_succ, List.getElem_cons_zero, Act.put, List.setIfInBounds_toArray, List.set_cons_zero, List.set_cons_succ]
        refine wpAnyH_take (i := 3) (v := ?_) rfl (by kernel_rfl) (by kernel_rfl) (by kernel_rfl) (fun _ _ _ h => h) (Yields.yieldsIf (Or.inl ⟨by rfl, ?_⟩)) hHeld ?_
        rotate_left
        · intro W
          go_simp
          try with_reducible rfl
        simp only [List.getElem_toArray, List.getElem_cons_succ, List.getElem_cons_zero, Act.put, List.setIfInBounds_toArray, List.set_cons_zero, List.set_cons_succ]
        refine wpAnyH_take (i := 4) (v := ?_) rfl (by kernel_rfl) (by kernel_rfl) (by kernel_rfl) (fun _ _ _ h => h) (Yields.yieldsIf (Or.inl ⟨by rfl, ?_⟩)) hHeld ?_
        rotate_left
        · intro W
          go_simp
          try with_reducible rfl
        simp only [List.getElem_toArray, List.getElem_cons_succ, List.getElem_cons_zero, Act.put, List.setIfInBounds_toArray, List.set_cons_zero, List.set_cons_succ]
        refine wpAnyH_take (i := 5) (v := ?_) rfl (by kernel_rfl) (by kernel_rfl) (by kernel_rfl) (fun _ _ _ h => h) (Yields.yieldsIf (Or.inl ⟨by rfl, ?_⟩)) hHeld ?_
        rotate_left
        · intro W
          go_simp
          try with_reducible rfl
        simp only [List.getElem_toArray, List.getElem_cons_succ, List.getElem_cons_zero, Act.put, List.setIfInBounds_toArray, List.set_cons_zero, List.set_cons_succ]
        refine wpAnyH_take (i := 6) (v := ?_) rfl (by kernel_rfl) (by kernel_rfl) (by kernel_rfl) (fun _ _ _ h => h) (Yields.yieldsIf (Or.inl ⟨by rfl, ?_⟩)) hHeld ?_
        rotate_left
        · intro W
          go_simp
          try with_reducible rfl
        simp only [List.getElem_toArray, List.getElem_cons_succ, List.getElem_cons_zero, Act.put, List.setIfInBounds_toArray, List.set_cons_zero, List.set_cons_succ]
        refine wpAnyH_take (i := 7) (v := ?_) rfl (by kernel_rfl) (by kernel_rfl) (by kernel_rfl) (fun _ _ _ h => h) (Or.inl ⟨by rfl, ?_⟩) hHeld ?_
        rotate_left
        · intro W hW
          have hcl := (cell_ext (h := hW) cK)
          go_simp
          try with_reducible rfl
        simp only [List.getElem_toArray, List.getElem_cons_succ, List.getElem_cons_zero, Act.put, List.setIfInBounds_toArray, List.set_cons_zero, List.set_cons_succ]
        refine wpAnyH_take (i := 8) (v := ?_) rfl (by kernel_rfl) (by kernel_rfl) (by kernel_rfl) (fun _ _ _ h => h) (Yields.yieldsIf (Or.inl ⟨by rfl, ?_⟩)) hHeld ?_
        rotate_left
        · intro W
          go_simp
          try with_reducible rfl
        simp only [List.getElem_toArray, List.getElem_cons_succ, List.getElem_cons_zero, Act.put, List.setIfInBounds_toArray, List.set_cons_zero, List.set_cons_succ]
        refine wpAnyH_take (i := 9) (v := ?_) rfl (by kernel_rfl) (by kernel_rfl) (by kernel_rfl) (fun _ _ _ h => h) (Yields.yieldsIf (Or.inl ⟨by rfl, ?_⟩)) hHeld ?_
        rotate_left
        · intro W
          go_simp
          try with_reducible rfl
        simp only [List.getElem_toArray, List.getElem_cons_succ, List.getElem_cons_zero, Act.put, List.setIfInBounds_toArray, List.set_cons_zero, List.set_cons_succ]
        refine wpAnyH_take (i := 10) (v := ?_) rfl (by kernel_rfl) (by kernel_rfl) (by kernel_rfl) (fun _ _ _ h => h) (Yields.yieldsIf (Or.inl ⟨by rfl, ?_⟩)) hHeld ?_
        rotate_left
        · intro W
          go_simp
          try with_reducible rfl
        simp only [List.getElem_toArray, List.getElem_cons_succ, List.getElem_cons_zero, Act.put, List.setIfInBounds_toArray, List.set_cons_zero, List.set_cons_succ]
        refine wpAnyH_take (i := 11) (v := ?_) rfl (by kernel_rfl) (by kernel_rfl) (by kernel_rfl) (fun _ _ _ h => h) (Yields.yieldsIf (Or.inl ⟨by rfl, ?_⟩)) hHeld ?_
        rotate_left
        · intro W
          go_simp
          try with_reducible rfl
        simp only [List.getElem_toArray, List.getElem_cons_succ, List.getElem_cons_zero, Act.put, List.setIfInBounds_toArray, List.set_cons_zero, List.set_cons_succ]
        refine wpAnyH_take (i := 12) (v := ?_) rfl (by kernel_rfl) (by kernel_rfl) (by kernel_rfl) (fun _ _ _ h => h) (Yields.yieldsIf (Or.inl ⟨by rfl, ?_⟩)) hHeld ?_
        rotate_left
        · intro W
          go_simp
          try with_reducible rfl
        simp only [List.getElem_toArray, List.getElem_cons_succ, List.getElem_cons_zero, Act.put, List.setIfInBounds_toArray, List.set_cons_zero, List.set_cons_succ]
        refine wpAnyH_take (i := 13) (v := ?_) rfl (by kernel_rfl) (by kernel_rfl) (by kernel_rfl) (fun _ _ _ h => h) (Yields.yieldsIf (Or.inl ⟨by rfl, ?_⟩)) hHeld ?_
        rotate_left
        · intro W
          go_simp
          try with_reducible rfl
        simp only [List.getElem_toArray, List.getElem_cons_succ, List.getElem_cons_zero, Act.put, List.setIfInBounds_toArray, List.set_cons_zero, List.set_cons_succ]
        refine wpAnyH_take (i := 14) (v := ?_) rfl (by kernel_rfl) (by kernel_rfl) (by kernel_rfl) (fun _ _ _ h => h) (Yields.yieldsIf (Or.inl ⟨by rfl, ?_⟩)) hHeld ?_
        rotate_left
        · intro W
          go_simp
          try with_reducible rfl
        simp only [List.getElem_toArray, List.getElem_cons_succ, List.getElem_cons_zero, Act.put, List.setIfInBounds_toArray, List.set_cons_zero, List.set_cons_succ]
        refine wpAnyH_take (i := 15) (v := ?_) rfl (by kernel_rfl) (by kernel_rfl) (by kernel_rfl) (fun _ _ _ h => h) (Yields.yieldsIf (Or.inl ⟨by rfl, ?_⟩)) hHeld ?_
        rotate_left
        · intro W
          go_simp
          try with_reducible rfl
        simp only [List.getElem_toArray, List.getElem_cons_succ, List.getElem_cons_zero, Act.put, List.setIfInBounds_toArray, List.set_cons_zero, List.set_cons_succ]
        refine wpAnyH_ready (rs := [16]) (by kernel_rfl) (by simp) ?_
        refine AllReadyH.cons rfl (fun K hK => ?_) AllReadyH.nil
        refine step_call_w (by rfl) Try.func123 (by kernel_rfl) (by kernel_rfl) #[.tmp 94] #[22] rfl #[.slice (some (xd.add (4 * k))) 4 (cc - 4 * k)] ?hv (rword4_any (xd.add (4 * k)) 4 (cc - 4 * k) (bs.getD (4 * k) 0) (bs.getD (4 * k + 1) 0) (bs.getD (4 * k + 2) 0) (bs.getD (4 * k + 3) 0) (by omega) _ (rb_cell HXC.out Hn.out (by omega)) (rb_cell1 HXC.out Hn.out (by omega)) (rb_cell1 HXC.out Hn.out (by omega)) (rb_cell1 HXC.out Hn.out (by omega)) (HB.out.getD _) (HB.out.getD _) (HB.out.getD _) (HB.out.getD _)) ?_
        case hv => go_simp
        rintro e w2 ⟨rfl, hb2⟩
        refine ⟨_, rfl, ?_⟩
        rw [← ldF_word HB.out hg16]
        obtain ⟨xx, hxx⟩ : ∃ x, (ldF bs 64).getD k 0 = x := ⟨_, rfl⟩
        have HXX := Lib.hid hxx
        rw [hxx]
        clear hxx
        have S2 : Step w2 _ := ⟨hb2⟩
        have HM2 := Lib.hid (at_ext (w' := w2) HM.out)
        clear hb2 v0 v1 v2 v3 hHeld
        refine hK.out _ _ (by exact inferInstance) (fun hHeld => ?_)
        clear hK K
        simp only [List.getElem_toArray, List.getElem_cons_succ, List.getElem_cons_zero, Act.put, List.setIfInBounds_toArray, List.set_cons_zero, List.set_cons_succ]
        refine wpAnyH_take (i := 17) (v := ?_) rfl (by kernel_rfl) (by kernel_rfl) (by kernel_rfl) (fun _ _ _ h => h) (Yields.yieldsIf (Or.inl ⟨by rfl, ?_⟩)) hHeld ?_
        rotate_left
        · intro W
          go_simp
          try with_reducible rfl
        simp only [List.getElem_toArray, List.getElem_cons_succ, List.getElem_cons_zero, Act.put, List.setIfInBounds_toArray, List.set_cons_zero, List.set_cons_succ]
        refine wpAnyH_take (i := 18) (v := ?_) rfl (by kernel_rfl) (by kernel_rfl) (by kernel_rfl) (fun _ _ _ h => h) (Yields.yieldsIf (Or.inl ⟨by rfl, ?_⟩)) hHeld ?_
        rotate_left
        · intro W
          go_simp
          try with_reducible rfl
        simp only [List.getElem_toArray, List.getElem_cons_succ, List.getElem_cons_zero, Act.put, List.setIfInBounds_toArray, List.set_cons_zero, List.set_cons_succ]
        refine wpAnyH_done (by kernel_rfl) ?_ _
        clear hHeld
        go_wp2_with fail
        refine (rturns4_any k hlt _).mono ?_
        rintro e w3 ⟨rfl, hb3⟩
        have S3 : Step w3 _ := ⟨hb3⟩
        have HM3 := Lib.hid (at_ext (w' := w3) HM2.out)
        have t0 := (turns_bd (k / 16 * 4 + k % 4)).1
        have t1 := (turns_bd (k / 16 * 4 + k % 4)).2
        obtain ⟨nn, hnn⟩ : ∃ x, turnsL.getD (k / 16 * 4 + k % 4) 0 = x := ⟨_, rfl⟩
        have HNN := Lib.hid hnn
        rw [hnn] at t0 t1 ⊢
        clear hnn hb3
        have v0 : w3.cell? ⟨w1.heap.size, 0, none⟩ = some (.int .u32 A1) := at_cell HM3.out 0
        have v1 : w3.cell? ⟨w1.heap.size, 1, none⟩ = some (.int .u32 B1) := at_cell HM3.out 1
        have v2 : w3.cell? ⟨w1.heap.size, 2, none⟩ = some (.int .u32 C1) := at_cell HM3.out 2
        have v3 : w3.cell? ⟨w1.heap.size, 3, none⟩ = some (.int .u32 D1) := at_cell HM3.out 3
        have f0 := at_frozen HM3.out 0
        have f1 := at_frozen HM3.out 1
        have f2 := at_frozen HM3.out 2
        have f3 := at_frozen HM3.out 3
        go_wp2
        refine ⟨⟨k + 1, by go_num, by omega, ?_, Ext.setg (Ext.setg (Ext.setg (Ext.setg (inferInstance : Ext w1 w3) _ _ _ (Nat.le_refl _)) _ _ _ (Nat.le_refl _)) _ _ _ (Nat.le_refl _)) _ _ _ (Nat.le_refl _)⟩, by simp [intOf]; omega⟩
        show _ = _
        rw [mdRun, HQ.out]
        unfold mdStep
        rw [HGK.out, HNN.out, HQN.out, HKK.out, HXX.out]
        simp only [mdF, mdU, u32_max]
        exact at_set (at_set (at_set (at_set HM3.out 0 _) 1 _) 2 _) 3 _
      by_cases hq1 : k < 32
      · skip
        have hqI : (k : Int) / 16 = 1 := by omega
        have HQN : Hid (k / 16 = 1) := by unfold Hid; omega
        obtain ⟨gg, hgg⟩ : ∃ gg, (5 * k + 1) % 16 = gg := ⟨_, rfl⟩
        have hgl : gg < 16 := by omega
        have hgI : (5 * (k : Int) + 1) % 16 = (gg : Int) := by omega
        have HGK : Hid (mdG k = gg) := by unfold Hid; have := HQN.out; simp only [mdG, this]; exact hgg
        clear hgg
        obtain ⟨xd, rfl, hxc⟩ := HX.out (by rw [nums_length, Hn.out]; omega)
        have HXC := Lib.hid hxc
        clear hxc
        have hg16 : gg < 16 := by omega
        have w1' : IntKind.i64.wrap (4 * (gg : Int)) = 4 * (gg : Int) := by rw [IntKind.wrap_i64]; omega
        have w2' : IntKind.i64.wrap (4 * (gg : Int) + 4) = 4 * (gg : Int) + 4 := by rw [IntKind.wrap_i64]; omega
        have g0 : (0 : Int) ≤ 4 * (gg : Int) := by omega
        have g1 : 4 * (gg : Int) ≤ 4 * (gg : Int) + 4 := by omega
        have g2 : 4 * (gg : Int) + 4 ≤ (cc : Int) := by omega
        have g3 : (4 * (gg : Int)).toNat = 4 * gg := by omega
        have g4 : (4 * (gg : Int) + 4).toNat = 4 * gg + 4 := by omega
        have g5 : ¬ cc = 4 * gg := by omega
        have g6 : 4 * gg + 4 - 4 * gg = 4 := by omega
        go_wp2
        refine wp_region_held_drew (S := fun W => Ext wr W) (by kernel_rfl) (by exact inferInstance) (fun hHeld => ?_)
        refine wpAnyH_take (i := 0) (v := ?_) rfl (by kernel_rfl) (by kernel_rfl) (by kernel_rfl) (fun _ _ _ h => h) (Yields.yieldsIf (Or.inl ⟨by rfl, ?_⟩)) hHeld ?_
        rotate_left
        · intro W
          go_simp
          try with_reducible rfl
        simp only [List.getElem_toArray, List.getElem_cons_succ, List.getElem_cons_zero, Act.put, List.setIfInBounds_toArray, List.set_cons_zero, List.set_cons_succ]
        refine wpAnyH_take (i := 1) (v := ?_) rfl (by kernel_rfl) (by kernel_rfl) (by kernel_rfl) (fun _ _ _ h => h) (Or.inl ⟨by rfl, ?_⟩) hHeld ?_
        rotate_left
        · intro W hW
          have hcl := (cell_ext (h := hW) v0)
          go_simp
          try with_reducible rfl
        simp only [List.getElem_toArray, List.getElem_cons_succ, List.getElem_cons_zero, Act.put, List.setIfInBounds_toArray, List.set_cons_zero, List.set_cons_succ]
        refine wpAnyH_take (i := 2) (v := ?_) rfl (by kernel_rfl) (by kernel_rfl) (by kernel_rfl) (fun _ _ _ h => h) (Yields.yieldsIf (Or.inl ⟨by rfl, ?_⟩)) hHeld ?_
        rotate_left
        · intro W
          go_simp
          try with_reducible rfl
        simp only [List.getElem_toArray, List.getElem_cons_succ, List.getElem_cons_zero, Act.put, List.setIfInBounds_toArray, List.set_cons_zero, List.set_cons_succ]
        refine wpAnyH_take (i := 3) (v := ?_) rfl (by kernel_rfl) (by kernel_rfl) (by kernel_rfl) (fun _ _ _ h => h) (Yields.yieldsIf (Or.inl ⟨by rfl, ?_⟩)) hHeld ?_
        rotate_left
        · intro W
          go_simp
          try with_reducible rfl
        simp only [List.getElem_toArray, List.getElem_cons_succ, List.getElem_cons_zero, Act.put, List.setIfInBounds_toArray, List.set_cons_zero, List.set_cons_succ]
        refine wpAnyH_take (i := 4) (v := ?_) rfl (by kernel_rfl) (by kernel_rfl) (by kernel_rfl) (fun _ _ _ h => h) (Yields.yieldsIf (Or.inl ⟨by rfl, ?_⟩)) hHeld ?_
        rotate_left
        · intro W
          go_simp
          try with_reducible rfl
        simp only [List.getElem_toArray, List.getElem_cons_succ, List.getElem_cons_zero, Act.put, List.setIfInBounds_toArray, List.set_cons_zero, List.set_cons_succ]
        refine wpAnyH_take (i := 5) (v := ?_) rfl (by kernel_rfl) (by kernel_rfl) (by kernel_rfl) (fun _ _ _ h => h) (Yields.yieldsIf (Or.inl ⟨by rfl, ?_⟩)) hHeld ?_
        rotate_left
        · intro W
          go_simp
          try with_reducible rfl
        simp only [List.getElem_toArray, List.getElem_cons_succ, List.getElem_cons_zero, Act.put, List.setIfInBounds_toArray, List.set_cons_zero, List.set_cons_succ]
        refine wpAnyH_take (i := 6) (v := ?_) rfl (by kernel_rfl) (by kernel_rfl) (by kernel_rfl) (fun _ _ _ h => h) (Yields.yieldsIf (Or.inl ⟨by rfl, ?_⟩)) hHeld ?_
        rotate_left
        · intro W
          go_simp
          try with_reducible rfl
        simp only [List.getElem_toArray, List.getElem_cons_succ, List.getElem_cons_zero, Act.put, List.setIfInBounds_toArray, List.set_cons_zero, List.set_cons_succ]
        refine wpAnyH_take (i := 7) (v := ?_) rfl (by kernel_rfl) (by kernel_rfl) (by kernel_rfl) (fun _ _ _ h => h) (Or.inl ⟨by rfl, ?_⟩) hHeld ?_
        rotate_left
        · intro W hW
          have hcl := (cell_ext (h := hW) cK)
          go_simp
          try with_reducible rfl
        simp only [List.getElem_toArray, List.getElem_cons_succ, List.getElem_cons_zero, Act.put, List.setIfInBounds_toArray, List.set_cons_zero, List.set_cons_succ]
        refine wpAnyH_take (i := 8) (v := ?_) rfl (by kernel_rfl) (by kernel_rfl) (by kernel_rfl) (fun _ _ _ h => h) (Yields.yieldsIf (Or.inl ⟨by rfl, ?_⟩)) hHeld ?_
        rotate_left
        · intro W
          go_simp
          try with_reducible rfl
        simp only [List.getElem_toArray, List.getElem_cons_succ, List.getElem_cons_zero, Act.put, List.setIfInBounds_toArray, List.set_cons_zero, List.set_cons_succ]
        refine wpAnyH_take (i := 9) (v := ?_) rfl (by kernel_rfl) (by kernel_rfl) (by kernel_rfl) (fun _ _ _ h => h) (Yields.yieldsIf (Or.inl ⟨by rfl, ?_⟩)) hHeld ?_
        rotate_left
        · intro W
          go_simp
          try with_reducible rfl
        simp only [List.getElem_toArray, List.getElem_cons_succ, List.getElem_cons_zero, Act.put, List.setIfInBounds_toArray, List.set_cons_zero, List.set_cons_succ]
        refine wpAnyH_take (i := 10) (v := ?_) rfl (by kernel_rfl) (by kernel_rfl) (by kernel_rfl) (fun _ _ _ h => h) (Yields.yieldsIf (Or.inl ⟨by rfl, ?_⟩)) hHeld ?_
        rotate_left
        · intro W
          go_simp
          try with_reducible rfl
        simp only [List.getElem_toArray, List.getElem_cons_succ, List.getElem_cons_zero, Act.put, List.setIfInBounds_toArray, List.set_cons_zero, List.set_cons_succ]
        refine wpAnyH_take (i := 11) (v := ?_) rfl (by kernel_rfl) (by kernel_rfl) (by kernel_rfl) (fun _ _ _ h => h) (Yields.yieldsIf (Or.inl ⟨by rfl, ?_⟩)) hHeld ?_
        rotate_left
        · intro W
          go_simp
          try with_reducible rfl
        simp only [List.getElem_toArray, List.getElem_cons_succ, List.getElem_cons_zero, Act.put, List.setIfInBounds_toArray, List.set_cons_zero, List.set_cons_succ]
        refine wpAnyH_take (i := 12) (v := ?_) rfl (by kernel_rfl) (by kernel_rfl) (by kernel_rfl) (fun _ _ _ h => h) (Yields.yieldsIf (Or.inl ⟨by rfl, ?_⟩)) hHeld ?_
        rotate_left
        · intro W
          go_simp
          try with_reducible rfl
        simp only [List.getElem_toArray, List.getElem_cons_succ, List.getElem_cons_zero, Act.put, List.setIfInBounds_toArray, List.set_cons_zero, List.set_cons_succ]
        refine wpAnyH_take (i := 13) (v := ?_) rfl (by kernel_rfl) (by kernel_rfl) (by kernel_rfl) (fun _ _ _ h => h) (Yields.yieldsIf (Or.inl ⟨by rfl, ?_⟩)) hHeld ?_
        rotate_left
        · intro W
          go_simp
          try with_reducible rfl
        simp only [List.getElem_toArray, List.getElem_cons_succ, List.getElem_cons_zero, Act.put, List.setIfInBounds_toArray, List.set_cons_zero, List.set_cons_succ]
        refine wpAnyH_take (i := 14) (v := ?_) rfl (by kernel_rfl) (by kernel_rfl) (by kernel_rfl) (fun _ _ _ h => h) (Yields.yieldsIf (Or.inl ⟨by rfl, ?_⟩)) hHeld ?_
        rotate_left
        · intro W
          go_simp
          try with_reducible rfl
        simp only [List.getElem_toArray, List.getElem_cons_succ, List.getElem_cons_zero, Act.put, List.setIfInBounds_toArray, List.set_cons_zero, List.set_cons_succ]
        refine wpAnyH_take (i := 15) (v := ?_) rfl (by kernel_rfl) (by kernel_rfl) (by kernel_rfl) (fun _ _ _ h => h) (Yields.yieldsIf (Or.inl ⟨by rfl, ?_⟩)) hHeld ?_
        rotate_left
        · intro W
          go_simp
          try with_reducible rfl
        simp only [List.getElem_toArray, List.getElem_cons_succ, List.getElem_cons_zero, Act.put, List.setIfInBounds_toArray, List.set_cons_zero, List.set_cons_succ]
        refine wpAnyH_ready (rs := [16]) (by kernel_rfl) (by simp) ?_
        refine AllReadyH.cons rfl (fun K hK => ?_) AllReadyH.nil
        refine step_call_w (by rfl) Try.func123 (by kernel_rfl) (by kernel_rfl) #[.tmp 94] #[22] rfl #[.slice (some (xd.add (4 * gg))) 4 (cc - 4 * gg)] ?hv (rword4_any (xd.add (4 * gg)) 4 (cc - 4 * gg) (bs.getD (4 * gg) 0) (bs.getD (4 * gg + 1) 0) (bs.getD (4 * gg + 2) 0) (bs.getD (4 * gg + 3) 0) (by omega) _ (rb_cell HXC.out Hn.out (by omega)) (rb_cell1 HXC.out Hn.out (by omega)) (rb_cell1 HXC.out Hn.out (by omega)) (rb_cell1 HXC.out Hn.out (by omega)) (HB.out.getD _) (HB.out.getD _) (HB.out.getD _) (HB.out.getD _)) ?_
        case hv => go_simp
        rintro e w2 ⟨rfl, hb2⟩
        refine ⟨_, rfl, ?_⟩
        rw [← ldF_word HB.out hg16]
        obtain ⟨xx, hxx⟩ : ∃ x, (ldF bs 64).getD gg 0 = x := ⟨_, rfl⟩
        have HXX := Lib.hid hxx
        rw [hxx]
        clear hxx
        have S2 : Step w2 _ := ⟨hb2⟩
        have HM2 := Lib.hid (at_ext (w' := w2) HM.out)
        clear hb2 v0 v1 v2 v3 hHeld
        refine hK.out _ _ (by exact inferInstance) (fun hHeld => ?_)
        clear hK K
        simp only [List.getElem_toArray, List.getElem_cons_succ, List.getElem_cons_zero, Act.put, List.setIfInBounds_toArray, List.set_cons_zero, List.set_cons_succ]
        refine wpAnyH_take (i := 17) (v := ?_) rfl (by kernel_rfl) (by kernel_rfl) (by kernel_rfl) (fun _ _ _ h => h) (Yields.yieldsIf (Or.inl ⟨by rfl, ?_⟩)) hHeld ?_
        rotate_left
        · intro W
          go_simp
          try with_reducible rfl
        simp only [List.getElem_toArray, List.getElem_cons_succ, List.getElem_cons_zero, Act.put, List.setIfInBounds_toArray, List.set_cons_zero, List.set_cons_succ]
        refine wpAnyH_take (i := 18) (v := ?_) rfl (by kernel_rfl) (by kernel_rfl) (by kernel_rfl) (fun _ _ _ h => h) (Yields.yieldsIf (Or.inl ⟨by rfl, ?_⟩)) hHeld ?_
        rotate_left
        · intro W
          go_simp
          try with_reducible rfl
        simp only [List.getElem_toArray, List.getElem_cons_succ, List.getElem_cons_zero, Act.put, List.setIfInBounds_toArray, List.set_cons_zero, List.set_cons_succ]
        refine wpAnyH_done (by kernel_rfl) ?_ _
        clear hHeld
        go_wp2_with fail
        refine (rturns4_any k hlt _).mono ?_
        rintro e w3 ⟨rfl, hb3⟩
        have S3 : Step w3 _ := ⟨hb3⟩
        have HM3 := Lib.hid (at_ext (w' := w3) HM2.out)
        have t0 := (turns_bd (k / 16 * 4 + k % 4)).1
        have t1 := (turns_bd (k / 16 * 4 + k % 4)).2
        obtain ⟨nn, hnn⟩ : ∃ x, turnsL.getD (k / 16 * 4 + k % 4) 0 = x := ⟨_, rfl⟩
        have HNN := Lib.hid hnn
        rw [hnn] at t0 t1 ⊢
        clear hnn hb3
        have v0 : w3.cell? ⟨w1.heap.size, 0, none⟩ = some (.int .u32 A1) := at_cell HM3.out 0
        have v1 : w3.cell? ⟨w1.heap.size, 1, none⟩ = some (.int .u32 B1) := at_cell HM3.out 1
        have v2 : w3.cell? ⟨w1.heap.size, 2, none⟩ = some (.int .u32 C1) := at_cell HM3.out 2
        have v3 : w3.cell? ⟨w1.heap.size, 3, none⟩ = some (.int .u32 D1) := at_cell HM3.out 3
        have f0 := at_frozen HM3.out 0
        have f1 := at_frozen HM3.out 1
        have f2 := at_frozen HM3.out 2
        have f3 := at_frozen HM3.out 3
        go_wp2
        refine ⟨⟨k + 1, by go_num, by omega, ?_, Ext.setg (Ext.setg (Ext.setg (Ext.setg (inferInstance : Ext w1 w3) _ _ _ (Nat.le_refl _)) _ _ _ (Nat.le_refl _)) _ _ _ (Nat.le_refl _)) _ _ _ (Nat.le_refl _)⟩, by simp [intOf]; omega⟩
        show _ = _
        rw [mdRun, HQ.out]
        unfold mdStep
        rw [HGK.out, HNN.out, HQN.out, HKK.out, HXX.out]
        simp only [mdF, mdU, u32_max]
        exact at_set (at_set (at_set (at_set HM3.out 0 _) 1 _) 2 _) 3 _
      by_cases hq2 : k < 48
      · skip
        have hqI : (k : Int) / 16 = 2 := by omega
        have HQN : Hid (k / 16 = 2) := by unfold Hid; omega
        obtain ⟨gg, hgg⟩ : ∃ gg, (3 * k + 5) % 16 = gg := ⟨_, rfl⟩
        have hgl : gg < 16 := by omega
        have hgI : (3 * (k : Int) + 5) % 16 = (gg : Int) := by omega
        have HGK : Hid (mdG k = gg) := by unfold Hid; have := HQN.out; simp only [mdG, this]; exact hgg
        clear hgg
        obtain ⟨xd, rfl, hxc⟩ := HX.out (by rw [nums_length, Hn.out]; omega)
        have HXC := Lib.hid hxc
        clear hxc
        have hg16 : gg < 16 := by omega
        have w1' : IntKind.i64.wrap (4 * (gg : Int)) = 4 * (gg : Int) := by rw [IntKind.wrap_i64]; omega
        have w2' : IntKind.i64.wrap (4 * (gg : Int) + 4) = 4 * (gg : Int) + 4 := by rw [IntKind.wrap_i64]; omega
        have g0 : (0 : Int) ≤ 4 * (gg : Int) := by omega
        have g1 : 4 * (gg : Int) ≤ 4 * (gg : Int) + 4 := by omega
        have g2 : 4 * (gg : Int) + 4 ≤ (cc : Int) := by omega
        have g3 : (4 * (gg : Int)).toNat = 4 * gg := by omega
        have g4 : (4 * (gg : Int) + 4).toNat = 4 * gg + 4 := by omega
        have g5 : ¬ cc = 4 * gg := by omega
        have g6 : 4 * gg + 4 - 4 * gg = 4 := by omega
        go_wp2
        refine wp_region_held_drew (S := fun W => Ext wr W) (by kernel_rfl) (by exact inferInstance) (fun hHeld => ?_)
        refine wpAnyH_take (i := 0) (v := ?_) rfl (by kernel_rfl) (by kernel_rfl) (by kernel_rfl) (fun _ _ _ h => h) (Yields.yieldsIf (Or.inl ⟨by rfl, ?_⟩)) hHeld ?_
        rotate_left
        · intro W
          go_simp
          try with_reducible rfl
        simp only [List.getElem_toArray, List.getElem_cons_succ, List.getElem_cons_zero, Act.put, List.setIfInBounds_toArray, List.set_cons_zero, List.set_cons_succ]
        refine wpAnyH_take (i := 1) (v := ?_) rfl (by kernel_rfl) (by kernel_rfl) (by kernel_rfl) (fun _ _ _ h => h) (Or.inl ⟨by rfl, ?_⟩) hHeld ?_
        rotate_left
        · intro W hW
          have hcl := (cell_ext (h := hW) v0)
          go_simp
          try with_reducible rfl
        simp only [List.getElem_toArray, List.getElem_cons_succ, List.getElem_cons_zero, Act.put, List.setIfInBounds_toArray, List.set_cons_zero, List.set_cons_succ]
        refine wpAnyH_take (i := 2) (v := ?_) rfl (by kernel_rfl) (by kernel_rfl) (by kernel_rfl) (fun _ _ _ h => h) (Yields.yieldsIf (Or.inl ⟨by rfl, ?_⟩)) hHeld ?_
        rotate_left
        · intro W
          go_simp
          try with_reducible rfl
        simp only [List.getElem_toArray, List.getElem_cons_succ, List.getElem_cons_zero, Act.put, List.setIfInBounds_toArray, List.set_cons_zero, List.set_cons_succ]
        refine wpAnyH_take (i := 3) (v := ?_) rfl (by kernel_rfl) (by kernel_rfl) (by kernel_rfl) (fun _ _ _ h => h) (Yields.yieldsIf (Or.inl ⟨by rfl, ?_⟩)) hHeld ?_
        rotate_left
        · intro W
          go_simp
          try with_reducible rfl
        simp only [List.getElem_toArray, List.getElem_cons_succ, List.getElem_cons_zero, Act.put, List.setIfInBounds_toArray, List.set_cons_zero, List.set_cons_succ]
        refine wpAnyH_take (i := 4) (v := ?_) rfl (by kernel_rfl) (by kernel_rfl) (by kernel_rfl) (fun _ _ _ h => h) (Yields.yieldsIf (Or.inl ⟨by rfl, ?_⟩)) hHeld ?_
        rotate_left
        · intro W
          go_simp
          try with_reducible rfl
        simp only [List.getElem_toArray, List.getElem_cons_succ, List.getElem_cons_zero, Act.put, List.setIfInBounds_toArray, List.set_cons_zero, List.set_cons_succ]
        refine wpAnyH_take (i := 5) (v := ?_) rfl (by kernel_rfl) (by kernel_rfl) (by kernel_rfl) (fun _ _ _ h => h) (Yields.yieldsIf (Or.inl ⟨by rfl, ?_⟩)) hHeld ?_
        rotate_left
        · intro W
          go_simp
          try with_reducible rfl
        simp only [List.getElem_toArray, List.getElem_cons_succ, List.getElem_cons_zero, Act.put, List.setIfInBounds_toArray, List.set_cons_zero, List.set_cons_succ]
        refine wpAnyH_take (i := 6) (v := ?_) rfl (by kernel_rfl) (by kernel_rfl) (by kernel_rfl) (fun _ _ _ h => h) (Yields.yieldsIf (Or.inl ⟨by rfl, ?_⟩)) hHeld ?_
        rotate_left
        · intro W
          go_simp
          try with_reducible rfl
        simp only [List.getElem_toArray, List.getElem_cons_succ, List.getElem_cons_zero, Act.put, List.setIfInBounds_toArray, List.set_cons_zero, List.set_cons_succ]
        refine wpAnyH_take (i := 7) (v := ?_) rfl (by kernel_rfl) (by kernel_rfl) (by kernel_rfl) (fun _ _ _ h => h) (Or.inl ⟨by rfl, ?_⟩) hHeld ?_
        rotate_left
        · intro W hW
          have hcl := (cell_ext (h := hW) cK)
          go_simp
          try with_reducible rfl
        simp only [List.getElem_toArray, List.getElem_cons_succ, List.getElem_cons_zero, Act.put, List.setIfInBounds_toArray, List.set_cons_zero, List.set_cons_succ]
        refine wpAnyH_take (i := 8) (v := ?_) rfl (by kernel_rfl) (by kernel_rfl) (by kernel_rfl) (fun _ _ _ h => h) (Yields.yieldsIf (Or.inl ⟨by rfl, ?_⟩)) hHeld ?_
        rotate_left
        · intro W
          go_simp
          try with_reducible rfl
        simp only [List.getElem_toArray, List.getElem_cons_succ, List.getElem_cons_zero, Act.put, List.setIfInBounds_toArray, List.set_cons_zero, List.set_cons_succ]
        refine wpAnyH_take (i := 9) (v := ?_) rfl (by kernel_rfl) (by kernel_rfl) (by kernel_rfl) (fun _ _ _ h => h) (Yields.yieldsIf (Or.inl ⟨by rfl, ?_⟩)) hHeld ?_
        rotate_left
        · intro W
          go_simp
          try with_reducible rfl
        simp only [List.getElem_toArray, List.getElem_cons_succ, List.getElem_cons_zero, Act.put, List.setIfInBounds_toArray, List.set_cons_zero, List.set_cons_succ]
        refine wpAnyH_take (i := 10) (v := ?_) rfl (by kernel_rfl) (by kernel_rfl) (by kernel_rfl) (fun _ _ _ h => h) (Yields.yieldsIf (Or.inl ⟨by rfl, ?_⟩)) hHeld ?_
        rotate_left
        · intro W
          go_simp
          try with_reducible rfl
        simp only [List.getElem_toArray, List.getElem_cons_succ, List.getElem_cons_zero, Act.put, List.setIfInBounds_toArray, List.set_cons_zero, List.set_cons_succ]
        refine wpAnyH_take (i := 11) (v := ?_) rfl (by kernel_rfl) (by kernel_rfl) (by kernel_rfl) (fun _ _ _ h => h) (Yields.yieldsIf (Or.inl ⟨by rfl, ?_⟩)) hHeld ?_
        rotate_left
        · intro W
          go_simp
          try with_reducible rfl
        simp only [List.getElem_toArray, List.getElem_cons_succ, List.getElem_cons_zero, Act.put, List.setIfInBounds_toArray, List.set_cons_zero, List.set_cons_succ]
        refine wpAnyH_take (i := 12) (v := ?_) rfl (by kernel_rfl) (by kernel_rfl) (by kernel_rfl) (fun _ _ _ h => h) (Yields.yieldsIf (Or.inl ⟨by rfl, ?_⟩)) hHeld ?_
        rotate_left
        · intro W
          go_simp
          try with_reducible rfl
        simp only [List.getElem_toArray, List.getElem_cons_succ, List.getElem_cons_zero, Act.put, List.setIfInBounds_toArray, List.set_cons_zero, List.set_cons_succ]
        refine wpAnyH_take (i := 13) (v := ?_) rfl (by kernel_rfl) (by kernel_rfl) (by kernel_rfl) (fun _ _ _ h => h) (Yields.yieldsIf (Or.inl ⟨by rfl, ?_⟩)) hHeld ?_
        rotate_left
        · intro W
          go_simp
          try with_reducible rfl
        simp only [List.getElem_toArray, List.getElem_cons_succ, List.getElem_cons_zero, Act.put, List.setIfInBounds_toArray, List.set_cons_zero, List.set_cons_succ]
        refine wpAnyH_take (i := 14) (v := ?_) rfl (by kernel_rfl) (by kernel_rfl) (by kernel_rfl) (fun _ _ _ h => h) (Yields.yieldsIf (Or.inl ⟨by rfl, ?_⟩)) hHeld ?_
        rotate_left
        · intro W
          go_simp
          try with_reducible rfl
        simp only [List.getElem_toArray, List.getElem_cons_succ, List.getElem_cons_zero, Act.put, List.setIfInBounds_toArray, List.set_cons_zero, List.set_cons_succ]
        refine wpAnyH_take (i := 15) (v := ?_) rfl (by kernel_rfl) (by kernel_rfl) (by kernel_rfl) (fun _ _ _ h => h) (Yields.yieldsIf (Or.inl ⟨by rfl, ?_⟩)) hHeld ?_
        rotate_left
        · intro W
          go_simp
          try with_reducible rfl
        simp only [List.getElem_toArray, List.getElem_cons_succ, List.getElem_cons_zero, Act.put, List.setIfInBounds_toArray, List.set_cons_zero, List.set_cons_succ]
        refine wpAnyH_ready (rs := [16]) (by kernel_rfl) (by simp) ?_
        refine AllReadyH.cons rfl (fun K hK => ?_) AllReadyH.nil
        refine step_call_w (by rfl) Try.func123 (by kernel_rfl) (by kernel_rfl) #[.tmp 94] #[22] rfl #[.slice (some (xd.add (4 * gg))) 4 (cc - 4 * gg)] ?hv (rword4_any (xd.add (4 * gg)) 4 (cc - 4 * gg) (bs.getD (4 * gg) 0) (bs.getD (4 * gg + 1) 0) (bs.getD (4 * gg + 2) 0) (bs.getD (4 * gg + 3) 0) (by omega) _ (rb_cell HXC.out Hn.out (by omega)) (rb_cell1 HXC.out Hn.out (by omega)) (rb_cell1 HXC.out Hn.out (by omega)) (rb_cell1 HXC.out Hn.out (by omega)) (HB.out.getD _) (HB.out.getD _) (HB.out.getD _) (HB.out.getD _)) ?_
        case hv => go_simp
        rintro e w2 ⟨rfl, hb2⟩
        refine ⟨_, rfl, ?_⟩
        rw [← ldF_word HB.out hg16]
        obtain ⟨xx, hxx⟩ : ∃ x, (ldF bs 64).getD gg 0 = x := ⟨_, rfl⟩
        have HXX := Lib.hid hxx
        rw [hxx]
        clear hxx
        have S2 : Step w2 _ := ⟨hb2⟩
        have HM2 := Lib.hid (at_ext (w' := w2) HM.out)
        clear hb2 v0 v1 v2 v3 hHeld
        refine hK.out _ _ (by exact inferInstance) (fun hHeld => ?_)
        clear hK K
        simp only [List.getElem_toArray, List.getElem_cons_succ, List.getElem_cons_zero, Act.put, List.setIfInBounds_toArray, List.set_cons_zero, List.set_cons_succ]
        refine wpAnyH_take (i := 17) (v := ?_) rfl (by kernel_rfl) (by kernel_rfl) (by kernel_rfl) (fun _ _ _ h => h) (Yields.yieldsIf (Or.inl ⟨by rfl, ?_⟩)) hHeld ?_
        rotate_left
        · intro W
          go_simp
          try with_reducible rfl
        simp only [List.getElem_toArray, List.getElem_cons_succ, List.getElem_cons_zero, Act.put, List.setIfInBounds_toArray, List.set_cons_zero, List.set_cons_succ]
        refine wpAnyH_take (i := 18) (v := ?_) rfl (by kernel_rfl) (by kernel_rfl) (by kernel_rfl) (fun _ _ _ h => h) (Yields.yieldsIf (Or.inl ⟨by rfl, ?_⟩)) hHeld ?_
        rotate_left
        · intro W
          go_simp
          try with_reducible rfl
        simp only [List.getElem_toArray, List.getElem_cons_succ, List.getElem_cons_zero, Act.put, List.setIfInBounds_toArray, List.set_cons_zero, List.set_cons_succ]
        refine wpAnyH_done (by kernel_rfl) ?_ _
        clear hHeld
        go_wp2_with fail
        refine (rturns4_any k hlt _).mono ?_
        rintro e w3 ⟨rfl, hb3⟩
        have S3 : Step w3 _ := ⟨hb3⟩
        have HM3 := Lib.hid (at_ext (w' := w3) HM2.out)
        have t0 := (turns_bd (k / 16 * 4 + k % 4)).1
        have t1 := (turns_bd (k / 16 * 4 + k % 4)).2
        obtain ⟨nn, hnn⟩ : ∃ x, turnsL.getD (k / 16 * 4 + k % 4) 0 = x := ⟨_, rfl⟩
        have HNN := Lib.hid hnn
        rw [hnn] at t0 t1 ⊢
        clear hnn hb3
        have v0 : w3.cell? ⟨w1.heap.size, 0, none⟩ = some (.int .u32 A1) := at_cell HM3.out 0
        have v1 : w3.cell? ⟨w1.heap.size, 1, none⟩ = some (.int .u32 B1) := at_cell HM3.out 1
        have v2 : w3.cell? ⟨w1.heap.size, 2, none⟩ = some (.int .u32 C1) := at_cell HM3.out 2
        have v3 : w3.cell? ⟨w1.heap.size, 3, none⟩ = some (.int .u32 D1) := at_cell HM3.out 3
        have f0 := at_frozen HM3.out 0
        have f1 := at_frozen HM3.out 1
        have f2 := at_frozen HM3.out 2
        have f3 := at_frozen HM3.out 3
        go_wp2
        refine ⟨⟨k + 1, by go_num, by omega, ?_, Ext.setg (Ext.setg (Ext.setg (Ext.setg (inferInstance : Ext w1 w3) _ _ _ (Nat.le_refl _)) _ _ _ (Nat.le_refl _)) _ _ _ (Nat.le_refl _)) _ _ _ (Nat.le_refl _)⟩, by simp [intOf]; omega⟩
        show _ = _
        rw [mdRun, HQ.out]
        unfold mdStep
        rw [HGK.out, HNN.out, HQN.out, HKK.out, HXX.out]
        simp only [mdF, mdU, u32_max]
        exact at_set (at_set (at_set (at_set HM3.out 0 _) 1 _) 2 _) 3 _
      · skip
        have hqI : (k : Int) / 16 = 3 := by omega
        have HQN : Hid (k / 16 = 3) := by unfold Hid; omega
        obtain ⟨gg, hgg⟩ : ∃ gg, 7 * k % 16 = gg := ⟨_, rfl⟩
        have hgl : gg < 16 := by omega
        have hgI : 7 * (k : Int) % 16 = (gg : Int) := by omega
        have HGK : Hid (mdG k = gg) := by unfold Hid; have := HQN.out; simp only [mdG, this]; exact hgg
        clear hgg
        obtain ⟨xd, rfl, hxc⟩ := HX.out (by rw [nums_length, Hn.out]; omega)
        have HXC := Lib.hid hxc
        clear hxc
        have hg16 : gg < 16 := by omega
        have w1' : IntKind.i64.wrap (4 * (gg : Int)) = 4 * (gg : Int) := by rw [IntKind.wrap_i64]; omega
        have w2' : IntKind.i64.wrap (4 * (gg : Int) + 4) = 4 * (gg : Int) + 4 := by rw [IntKind.wrap_i64]; omega
        have g0 : (0 : Int) ≤ 4 * (gg : Int) := by omega
        have g1 : 4 * (gg : Int) ≤ 4 * (gg : Int) + 4 := by omega
        have g2 : 4 * (gg : Int) + 4 ≤ (cc : Int) := by omega
        have g3 : (4 * (gg : Int)).toNat = 4 * gg := by omega
        have g4 : (4 * (gg : Int) + 4).toNat = 4 * gg + 4 := by omega
        have g5 : ¬ cc = 4 * gg := by omega
        have g6 : 4 * gg + 4 - 4 * gg = 4 := by omega
        go_wp2
        refine wp_region_held_drew (S := fun W => Ext wr W) (by kernel_rfl) (by exact inferInstance) (fun hHeld => ?_)
        refine wpAnyH_take (i := 0) (v := ?_) rfl (by kernel_rfl) (by kernel_rfl) (by kernel_rfl) (fun _ _ _ h => h) (Yields.yieldsIf (Or.inl ⟨by rfl, ?_⟩)) hHeld ?_
        rotate_left
        · intro W
          go_simp
          try with_reducible rfl
        simp only [List.getElem_toArray, List.getElem_cons_succ, List.getElem_cons_zero, Act.put, List.setIfInBounds_toArray, List.set_cons_zero, List.set_cons_succ]
        refine wpAnyH_take (i := 1) (v := ?_) rfl (by kernel_rfl) (by kernel_rfl) (by kernel_rfl) (fun _ _ _ h => h) (Or.inl ⟨by rfl, ?_⟩) hHeld ?_
        rotate_left
        · intro W hW
          have hcl := (cell_ext (h := hW) v0)
          go_simp
          try with_reducible rfl
        simp only [List.getElem_toArray, List.getElem_cons_succ, List.getElem_cons_zero, Act.put, List.setIfInBounds_toArray, List.set_cons_zero, List.set_cons_succ]
        refine wpAnyH_take (i := 2) (v := ?_) rfl (by kernel_rfl) (by kernel_rfl) (by kernel_rfl) (fun _ _ _ h => h) (Yields.yieldsIf (Or.inl ⟨by rfl, ?_⟩)) hHeld ?_
        rotate_left
        · intro W
          go_simp
          try with_reducible rfl
        simp only [List.getElem_toArray, List.getElem_cons_succ, List.getElem_cons_zero, Act.put, List.setIfInBounds_toArray, List.set_cons_zero, List.set_cons_succ]
        refine wpAnyH_take (i := 3) (v := ?_) rfl (by kernel_rfl) (by kernel_rfl) (by kernel_rfl) (fun _ _ _ h => h) (Yields.yieldsIf (Or.inl ⟨by rfl, ?_⟩)) hHeld ?_
        rotate_left
        · intro W
          go_simp
          try with_reducible rfl
        simp only [List.getElem_toArray, List.getElem_cons_succ, List.getElem_cons_zero, Act.put, List.setIfInBounds_toArray, List.set_cons_zero, List.set_cons_succ]
        refine wpAnyH_take (i := 4) (v := ?_) rfl (by kernel_rfl) (by kernel_rfl) (by kernel_rfl) (fun _ _ _ h => h) (Yields.yieldsIf (Or.inl ⟨by rfl, ?_⟩)) hHeld ?_
        rotate_left
        · intro W
          go_simp
          try with_reducible rfl
        simp only [List.getElem_toArray, List.getElem_cons_succ, List.getElem_cons_zero, Act.put, List.setIfInBounds_toArray, List.set_cons_zero, List.set_cons_succ]
        refine wpAnyH_take (i := 5) (v := ?_) rfl (by kernel_rfl) (by kernel_rfl) (by kernel_rfl) (fun _ _ _ h => h) (Yields.yieldsIf (Or.inl ⟨by rfl, ?_⟩)) hHeld ?_
        rotate_left
        · intro W
          go_simp
          try with_reducible rfl
        simp only [List.getElem_toArray, List.getElem_cons_succ, List.getElem_cons_zero, Act.put, List.setIfInBounds_toArray, List.set_cons_zero, List.set_cons_succ]
        refine wpAnyH_take (i := 6) (v := ?_) rfl (by kernel_rfl) (by kernel_rfl) (by kernel_rfl) (fun _ _ _ h => h) (Yields.yieldsIf (Or.inl ⟨by rfl, ?_⟩)) hHeld ?_
        rotate_left
        · intro W
          go_simp
          try with_reducible rfl
        simp only [List.getElem_toArray, List.getElem_cons_succ, List.getElem_cons_zero, Act.put, List.setIfInBounds_toArray, List.set_cons_zero, List.set_cons_succ]
        refine wpAnyH_take (i := 7) (v := ?_) rfl (by kernel_rfl) (by kernel_rfl) (by kernel_rfl) (fun _ _ _ h => h) (Or.inl ⟨by rfl, ?_⟩) hHeld ?_
        rotate_left
        · intro W hW
          have hcl := (cell_ext (h := hW) cK)
          go_simp
          try with_reducible rfl
        simp only [List.getElem_toArray, List.getElem_cons_succ, List.getElem_cons_zero, Act.put, List.setIfInBounds_toArray, List.set_cons_zero, List.set_cons_succ]
        refine wpAnyH_take (i := 8) (v := ?_) rfl (by kernel_rfl) (by kernel_rfl) (by kernel_rfl) (fun _ _ _ h => h) (Yields.yieldsIf (Or.inl ⟨by rfl, ?_⟩)) hHeld ?_
        rotate_left
        · intro W
          go_simp
          try with_reducible rfl
        simp only [List.getElem_toArray, List.getElem_cons_succ, List.getElem_cons_zero, Act.put, List.setIfInBounds_toArray, List.set_cons_zero, List.set_cons_succ]
        refine wpAnyH_take (i := 9) (v := ?_) rfl (by kernel_rfl) (by kernel_rfl) (by kernel_rfl) (fun _ _ _ h => h) (Yields.yieldsIf (Or.inl ⟨by rfl, ?_⟩)) hHeld ?_
        rotate_left
        · intro W
          go_simp
          try with_reducible rfl
        simp only [List.getElem_toArray, List.getElem_cons_succ, List.getElem_cons_zero, Act.put, List.setIfInBounds_toArray, List.set_cons_zero, List.set_cons_succ]
        refine wpAnyH_take (i := 10) (v := ?_) rfl (by kernel_rfl) (by kernel_rfl) (by kernel_rfl) (fun _ _ _ h => h) (Yields.yieldsIf (Or.inl ⟨by rfl, ?_⟩)) hHeld ?_
        rotate_left
        · intro W
          go_simp
          try with_reducible rfl
        simp only [List.getElem_toArray, List.getElem_cons_succ, List.getElem_cons_zero, Act.put, List.setIfInBounds_toArray, List.set_cons_zero, List.set_cons_succ]
        refine wpAnyH_take (i := 11) (v := ?_) rfl (by kernel_rfl) (by kernel_rfl) (by kernel_rfl) (fun _ _ _ h => h) (Yields.yieldsIf (Or.inl ⟨by rfl, ?_⟩)) hHeld ?_
        rotate_left
        · intro W
          go_simp
          try with_reducible rfl
        simp only [List.getElem_toArray, List.getElem_cons_succ, List.getElem_cons_zero, Act.put, List.setIfInBounds_toArray, List.set_cons_zero, List.set_cons_succ]
        refine wpAnyH_take (i := 12) (v := ?_) rfl (by kernel_rfl) (by kernel_rfl) (by kernel_rfl) (fun _ _ _ h => h) (Yields.yieldsIf (Or.inl ⟨by rfl, ?_⟩)) hHeld ?_
        rotate_left
        · intro W
          go_simp
          try with_reducible rfl
        simp only [List.getElem_toArray, List.getElem_cons_succ, List.getElem_cons_zero, Act.put, List.setIfInBounds_toArray, List.set_cons_zero, List.set_cons_succ]
        refine wpAnyH_take (i := 13) (v := ?_) rfl (by kernel_rfl) (by kernel_rfl) (by kernel_rfl) (fun _ _ _ h => h) (Yields.yieldsIf (Or.inl ⟨by rfl, ?_⟩)) hHeld ?_
        rotate_left
        · intro W
          go_simp
          try with_reducible rfl
        simp only [List.getElem_toArray, List.getElem_cons_succ, List.getElem_cons_zero, Act.put, List.setIfInBounds_toArray, List.set_cons_zero, List.set_cons_succ]
        refine wpAnyH_take (i := 14) (v := ?_) rfl (by kernel_rfl) (by kernel_rfl) (by kernel_rfl) (fun _ _ _ h => h) (Yields.yieldsIf (Or.inl ⟨by rfl, ?_⟩)) hHeld ?_
        rotate_left
        · intro W
          go_simp
          try with_reducible rfl
        simp only [List.getElem_toArray, List.getElem_cons_succ, List.getElem_cons_zero, Act.put, List.setIfInBounds_toArray, List.set_cons_zero, List.set_cons_succ]
        refine wpAnyH_take (i := 15) (v := ?_) rfl (by kernel_rfl) (by kernel_rfl) (by kernel_rfl) (fun _ _ _ h => h) (Yields.yieldsIf (Or.inl ⟨by rfl, ?_⟩)) hHeld ?_
        rotate_left
        · intro W
          go_simp
          try with_reducible rfl
        simp only [List.getElem_toArray, List.getElem_cons_succ, List.getElem_cons_zero, Act.put, List.setIfInBounds_toArray, List.set_cons_zero, List.set_cons_succ]
        refine wpAnyH_ready (rs := [16]) (by kernel_rfl) (by simp) ?_
        refine AllReadyH.cons rfl (fun K hK => ?_) AllReadyH.nil
        refine step_call_w (by rfl) Try.func123 (by kernel_rfl) (by kernel_rfl) #[.tmp 94] #[22] rfl #[.slice (some (xd.add (4 * gg))) 4 (cc - 4 * gg)] ?hv (rword4_any (xd.add (4 * gg)) 4 (cc - 4 * gg) (bs.getD (4 * gg) 0) (bs.getD (4 * gg + 1) 0) (bs.getD (4 * gg + 2) 0) (bs.getD (4 * gg + 3) 0) (by omega) _ (rb_cell HXC.out Hn.out (by omega)) (rb_cell1 HXC.out Hn.out (by omega)) (rb_cell1 HXC.out Hn.out (by omega)) (rb_cell1 HXC.out Hn.out (by omega)) (HB.out.getD _) (HB.out.getD _) (HB.out.getD _) (HB.out.getD _)) ?_
        case hv => go_simp
        rintro e w2 ⟨rfl, hb2⟩
        refine ⟨_, rfl, ?_⟩
        rw [← ldF_word HB.out hg16]
        obtain ⟨xx, hxx⟩ : ∃ x, (ldF bs 64).getD gg 0 = x := ⟨_, rfl⟩
        have HXX := Lib.hid hxx
        rw [hxx]
        clear hxx
        have S2 : Step w2 _ := ⟨hb2⟩
        have HM2 := Lib.hid (at_ext (w' := w2) HM.out)
        clear hb2 v0 v1 v2 v3 hHeld
        refine hK.out _ _ (by exact inferInstance) (fun hHeld => ?_)
        clear hK K
        simp only [List.getElem_toArray, List.getElem_cons_succ, List.getElem_cons_zero, Act.put, List.setIfInBounds_toArray, List.set_cons_zero, List.set_cons_succ]
        refine wpAnyH_take (i := 17) (v := ?_) rfl (by kernel_rfl) (by kernel_rfl) (by kernel_rfl) (fun _ _ _ h => h) (Yields.yieldsIf (Or.inl ⟨by rfl, ?_⟩)) hHeld ?_
        rotate_left
        · intro W
          go_simp
          try with_reducible rfl
        simp only [List.getElem_toArray, List.getElem_cons_succ, List.getElem_cons_zero, Act.put, List.setIfInBounds_toArray, List.set_cons_zero, List.set_cons_succ]
        refine wpAnyH_take (i := 18) (v := ?_) rfl (by kernel_rfl) (by kernel_rfl) (by kernel_rfl) (fun _ _ _ h => h) (Yields.yieldsIf (Or.inl ⟨by rfl, ?_⟩)) hHeld ?_
        rotate_left
        · intro W
          go_simp
          try with_reducible rfl
        simp only [List.getElem_toArray, List.getElem_cons_succ, List.getElem_cons_zero, Act.put, List.setIfInBounds_toArray, List.set_cons_zero, List.set_cons_succ]
        refine wpAnyH_done (by kernel_rfl) ?_ _
        clear hHeld
        go_wp2_with fail
        refine (rturns4_any k hlt _).mono ?_
        rintro e w3 ⟨rfl, hb3⟩
        have S3 : Step w3 _ := ⟨hb3⟩
        have HM3 := Lib.hid (at_ext (w' := w3) HM2.out)
        have t0 := (turns_bd (k / 16 * 4 + k % 4)).1
        have t1 := (turns_bd (k / 16 * 4 + k % 4)).2
        obtain ⟨nn, hnn⟩ : ∃ x, turnsL.getD (k / 16 * 4 + k % 4) 0 = x := ⟨_, rfl⟩
        have HNN := Lib.hid hnn
        rw [hnn] at t0 t1 ⊢
        clear hnn hb3
        have v0 : w3.cell? ⟨w1.heap.size, 0, none⟩ = some (.int .u32 A1) := at_cell HM3.out 0
        have v1 : w3.cell? ⟨w1.heap.size, 1, none⟩ = some (.int .u32 B1) := at_cell HM3.out 1
        have v2 : w3.cell? ⟨w1.heap.size, 2, none⟩ = some (.int .u32 C1) := at_cell HM3.out 2
        have v3 : w3.cell? ⟨w1.heap.size, 3, none⟩ = some (.int .u32 D1) := at_cell HM3.out 3
        have f0 := at_frozen HM3.out 0
        have f1 := at_frozen HM3.out 1
        have f2 := at_frozen HM3.out 2
        have f3 := at_frozen HM3.out 3
        go_wp2
        refine ⟨⟨k + 1, by go_num, by omega, ?_, Ext.setg (Ext.setg (Ext.setg (Ext.setg (inferInstance : Ext w1 w3) _ _ _ (Nat.le_refl _)) _ _ _ (Nat.le_refl _)) _ _ _ (Nat.le_refl _)) _ _ _ (Nat.le_refl _)⟩, by simp [intOf]; omega⟩
        show _ = _
        rw [mdRun, HQ.out]
        unfold mdStep
        rw [HGK.out, HNN.out, HQN.out, HKK.out, HXX.out]
        simp only [mdF, mdU, u32_max]
        exact at_set (at_set (at_set (at_set HM3.out 0 _) 1 _) 2 _) 3 _
    · obtain rfl : k = 64 := by omega
      obtain ⟨⟨A1, B1, C1, D1⟩, hq⟩ : ∃ q, mdRun (ldF bs 64) (a, b, c, d) 64 = q := ⟨_, rfl⟩
      rw [hq] at HM
      have HMB : Hid (mdBlock (a, b, c, d) bs = ((a + A1) % 4294967296, (b + B1) % 4294967296, (c + C1) % 4294967296, (d + D1) % 4294967296)) := by
        unfold Hid mdBlock
        rw [hq]
        rfl
      have HWr := Lib.hid (at_ext (w' := wr) (w := w1) HV1.out)
      have HZr := Lib.hid (at_ext (w' := wr) (w := w1) HZ1.out)
      have v0 : wr.cell? ⟨w1.heap.size, 0, none⟩ = some (.int .u32 A1) := at_cell HM.out 0
      have v1 : wr.cell? ⟨w1.heap.size, 1, none⟩ = some (.int .u32 B1) := at_cell HM.out 1
      have v2 : wr.cell? ⟨w1.heap.size, 2, none⟩ = some (.int .u32 C1) := at_cell HM.out 2
      have v3 : wr.cell? ⟨w1.heap.size, 3, none⟩ = some (.int .u32 D1) := at_cell HM.out 3
      have p0 : wr.cell? ⟨w.heap.size, 0, none⟩ = some (.int .u32 a) := at_cell HWr.out 0
      have p1 : wr.cell? ⟨w.heap.size, 1, none⟩ = some (.int .u32 b) := at_cell HWr.out 1
      have p2 : wr.cell? ⟨w.heap.size, 2, none⟩ = some (.int .u32 c) := at_cell HWr.out 2
      have p3 : wr.cell? ⟨w.heap.size, 3, none⟩ = some (.int .u32 d) := at_cell HWr.out 3
      have q0 : wr.cell? ⟨w.heap.size + 1, 0, none⟩ = some (.int .u32 0) := at_cell HZr.out 0
      have q1 : wr.cell? ⟨w.heap.size + 1, 1, none⟩ = some (.int .u32 0) := at_cell HZr.out 1
      have q2 : wr.cell? ⟨w.heap.size + 1, 2, none⟩ = some (.int .u32 0) := at_cell HZr.out 2
      have q3 : wr.cell? ⟨w.heap.size + 1, 3, none⟩ = some (.int .u32 0) := at_cell HZr.out 3
      have f0 := at_frozen HZr.out 0
      have f1 := at_frozen HZr.out 1
      have f2 := at_frozen HZr.out 2
      have f3 := at_frozen HZr.out 3
      clear hq
      go_wp2
      have HR := at_set (at_set (at_set (at_set HZr.out 0 (.int .u32 ((a + A1) % 4294967296))) 1 (.int .u32 ((b + B1) % 4294967296))) 2 (.int .u32 ((c + C1) % 4294967296))) 3 (.int .u32 ((d + D1) % 4294967296))
      have hd0 := at_cell HR 0
      have hd1 := at_cell HR 1
      have hd2 := at_cell HR 2
      have hd3 := at_cell HR 3
      simp only [List.setIfInBounds_toArray, List.set_cons_zero, List.set_cons_succ, List.getElem?_toArray, List.getElem?_cons_zero, List.getElem?_cons_succ] at hd0 hd1 hd2 hd3
      exact bodyPost_ret (v := .agg #[.int .u32 ((a + A1) % 4294967296), .int .u32 ((b + B1) % 4294967296), .int .u32 ((c + C1) % 4294967296), .int .u32 ((d + D1) % 4294967296)]) (by simp [results, Try.results104, go_sem, hd0, hd1, hd2, hd3]) rfl (by rw [show WTells (mdBlock (a, b, c, d) bs) w = WTells ((a + A1) % 4294967296, (b + B1) % 4294967296, (c + C1) % 4294967296, (d + D1) % 4294967296) w from by rw [HMB.out]]; exact ⟨rfl, Ext.out⟩)
end Go.Proofs.Ytobddmpiljknpaa
