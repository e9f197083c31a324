/-
  tetherlaw04.Md5Streams: bytes in pieces have the digest, the length and the blocks of all: for every input of bulk at most 1048576 the call answers true. No condition.
-/
import Derived.Test.YtmopdimokoogmaaMeA
namespace Go.Proofs.Ytmopdimokoogmaa
open Go.RowKit
set_option linter.unusedVariables false
set_option linter.unusedSimpArgs false

/-- A slice of bytes in a list. -/
structure BV where
  A : Option Addr
  n : Nat
  c : Nat
  xs : List Int
def BV.Ok (U : Nat) (W : World) (v : BV) : Prop := v.xs.length = v.n ∧ v.c ≤ U ∧ v.n ≤ v.c ∧ Cells W v.A (nums .u8 v.xs) ∧ Byt v.xs
theorem Arg.byteSlices {U : Nat} {W : World} {v : Value} (h : Arg U Try.prog W 68 v) : ∃ (A : Option Addr) (n c : Nat) (vs : List BV), v = .slice A n c ∧ vs.length = n ∧ n ≤ 9223372036854775807 ∧
    ∀ i b, vs[i]? = some b → BV.Ok U W b ∧ ∃ ad, A = some ad ∧ W.cell? (ad.add i) = some (.slice b.A b.n b.c) := by
  obtain ⟨A', n', c', rfl⟩ := h.slice_shape Try.underlying68
  obtain ⟨A, n, c, h1, hnc, hc', hb, hnil, hall⟩ := h.2.slice Try.underlying68
  simp [Value.cells] at h1
  obtain ⟨rfl, rfl, rfl⟩ := h1
  obtain ⟨vs, hl, hvs⟩ := list_of (n := n') (p := fun i (b : BV) => BV.Ok U W b ∧ ∃ ad, A' = some ad ∧ W.cell? (ad.add i) = some (.slice b.A b.n b.c)) (by
    intro i hi
    obtain ⟨ad, es, hA, hes, hcell, harg⟩ := hall i hi
    rw [sz_bytes] at hcell hes
    obtain ⟨B, m, d, xs, rfl, h1, h2, h3, h4, h5⟩ := harg.byts
    have hr := harg.room Try.underlying42
    refine ⟨⟨B, m, d, xs⟩, ⟨h1, hr, h2, h4, h5⟩, ad, hA, ?_⟩
    have := hcell 0 _ rfl
    rwa [Nat.mul_one, Nat.add_zero] at this)
  exact ⟨A', n', c', vs, rfl, hl, by omega, hvs⟩
theorem flat16_take (L : List A16) (k : Nat) : flat16 (L.take k) = (flat16 L).take (k * 16) := by
  induction L generalizing k with
  | nil => simp [flat16]
  | cons x L ih =>
    cases k with
    | zero => simp [flat16]
    | succ k =>
      rw [List.take_succ_cons, show flat16 (x :: L.take k) = nums .u8 x.1 ++ flat16 (L.take k) from rfl, ih, show flat16 (x :: L) = nums .u8 x.1 ++ flat16 L from rfl, show (k + 1) * 16 = (nums .u8 x.1).length + k * 16 by rw [nums_length, x.2]; omega, List.take_length_add_append]
theorem lblocksTo_any (g base : Nat) (ys : List Int) (pv lv : Value) (most : Int) (hm : 0 < most) (hm2 : most ≤ 9223372036854775807) (hmy : ys.length / 64 ≤ most.toNat) (w : World) (hl : ys.length ≤ 70368744177664) (hs : StreamOf w base g ys pv lv) :
    Calls Try.prog 48 #[.pointer (some ⟨g, 0, none⟩), .int .i64 most] w fun e w' => ∃ v, e = .returned v ∧ w'.ownsRow w.heap.size 44 16 v (ys.length / 64) (flat16 (blkL ys (ys.length / 64))) ∧ Below w.heap.size w w' := by
  refine (lblocksAt_any g base ys pv lv most hm hm2 w hl hs).mono ?_
  rintro e w' ⟨v, rfl, ho, hb⟩
  rw [List.take_of_length_le (by rw [blkL_len]; omega), blkL_len] at ho
  exact ⟨v, rfl, ho, hb⟩
set_option maxRecDepth 100000 in
set_option maxHeartbeats 16000000 in
theorem streams_any (A : Option Addr) (n c : Nat) (reset : Int) (vs : List BV) (hn : vs.length = n) (hn' : n ≤ 9223372036854775807) (w : World)
    (hv : ∀ i b, vs[i]? = some b → BV.Ok 1048576 w b ∧ ∃ ad, A = some ad ∧ w.cell? (ad.add i) = some (.slice b.A b.n b.c)) :
    Calls Try.prog 10 #[.slice A n c, .int .i64 reset] w fun e w' => e = .returned (.bool true) ∧ Below w.heap.size w w' := by
  have Hn := Lib.hid hn
  have HV := Lib.hid hv
  obtain ⟨i0, hi0, hzz⟩ := Option.map_eq_some_iff.1 info_u8
  have HI0 := Lib.hid hi0
  have HZZ : Hid (i0.size = 1) := by simp only [Prod.mk.injEq] at hzz; exact hzz.2.1
  clear hn hv hi0 hzz
  go_enter Try.func10, Try.ntmps10
  go_wp2_with fail
  refine (new4_any _).mono ?_
  rintro e w1 ⟨g, rfl, hst, hb1⟩
  have S1 : Step w1 w := ⟨hb1⟩
  have HST1 := Lib.hid (StreamOf.new hst)
  have HG : Hid (w.heap.size ≤ g) := hst.base_
  have HX1 : Hid (Ext w w1) := ⟨hb1⟩
  clear hst hb1
  go_wp2_with fail
  go_loopw [6, 17] (fun v i wr => ∃ (k : Nat) (ac : List Int) (al : Nat) (LA : Option Addr) (lc : Nat) (pq lq : Value), i = .int .i64 k ∧ k ≤ n ∧ k ≤ 100 ∧ al ≤ k * 1048576 ∧ v = .slice LA al lc ∧ Hid (ac.length = al) ∧ Hid (Byt ac) ∧
    Hid (wr.ownsRow w.heap.size 5 1 (.slice LA al lc) al (nums .u8 ac)) ∧ Hid (StreamOf wr w.heap.size g ac pq lq) ∧ Hid (∀ k, StreamS g pq lq k → (Value.slice LA al lc).ownBlock ≠ some k) ∧ Hid (Ext w wr)) (fun _ i _ => n - (intOf i).toNat)
  case atStart => exact ⟨0, [], 0, none, 0, _, _, rfl, by omega, by omega, by omega, rfl, rfl, Byt.nil_, own_nil _ _ _ _, HST1.out, (by intro k _; simp [Value.ownBlock]), HX1.out⟩
  case round =>
    obtain ⟨k, ac, al, LA, lc, pq, lq, rfl, hk, hk1, hal, rfl, HL, HB, HO, HS, HD, HE⟩ := hrel
    have XE : Ext w wr := HE.out
    by_cases hlt : k < n
    · obtain ⟨v, hv⟩ : ∃ v, vs[k]? = some v := ⟨_, List.getElem?_eq_getElem (by rw [Hn.out]; exact hlt)⟩
      obtain ⟨hok, ad, rfl, hcell⟩ := HV.out k v hv
      obtain ⟨BA, bn, bc, xs⟩ := v
      obtain ⟨hxl, hbc, hbn, hxc, hxb⟩ := hok
      simp only at hxl hbc hbn hxc hxb hcell
      have hc0 : wr.cell? (ad.add k) = some (.slice BA bn bc) := cell_ext hcell
      have HXL := Lib.hid hxl
      have HXC := Lib.hid hxc
      have HXB := Lib.hid hxb
      clear hv hxl hxc hxb hcell
      by_cases h100 : k = 100
      · have hkI : (100 : Int) ≤ (k : Int) := by omega
        clear h100
        go_wp2_with fail
        have hlc : al ≤ lc := by
          obtain ⟨_, _, he, h⟩ := own_slice HO.out
          injection he with _ _ he
          omega
        have hal2 : al ≤ 104857600 := by omega
        have HCA : Hid (Cells wr LA (nums .u8 ac)) := own_cells HO.out
        have HDL : Hid (ac.length / 64 = al / 64) := by unfold Hid; rw [HL.out]
        refine (rblocks4_any LA al lc ac HL.out hlc (by omega) HB.out wr HCA.out).mono ?_
        rintro e w2 ⟨v2, rfl, ho2, hb2⟩
        have S2 : Step w2 wr := ⟨hb2⟩
        obtain ⟨A2, c2, rfl, hc2⟩ := own_slice ho2
        have HO2 := Lib.hid ho2
        obtain ⟨q, hq⟩ : ∃ q, al / 64 = q := ⟨_, rfl⟩
        have hq2 : q ≤ 1638400 := by omega
        rw [hq] at HO2 HDL hc2 ⊢
        clear ho2 hb2 hq
        go_wp2_with fail
        refine (lblocksTo_any g _ ac pq lq _ (by omega) (by omega) (by rw [HDL.out]; omega) w2 (by rw [HL.out]; omega) HS.out.ext).mono ?_
        rintro e w3 ⟨v3, rfl, ho3, hb3⟩
        have S3 : Step w3 w2 := ⟨hb3⟩
        rw [HDL.out] at ho3
        obtain ⟨A3, c3, rfl, hc3⟩ := own_slice ho3
        have HO3 := Lib.hid ho3
        clear ho3 hb3
        go_wp2_with fail
        refine (alike_same A3 A2 q c3 c2 _ _ (blkL ac q) (blkL_len _ _) (by omega) w3 HO3.out (own_ext HO2.out)).mono ?_
        rintro e w4 ⟨rfl, hb4⟩
        have S4 : Step w4 w3 := ⟨hb4⟩
        clear hb4
        go_wp2_with fail
        refine (sumAll4_any g _ ac pq lq w4 HB.out (by rw [HL.out]; omega) HS.out.ext).mono ?_
        rintro e w5 ⟨rfl, hb5⟩
        have S5 : Step w5 w4 := ⟨hb5⟩
        clear hb5
        have hl7 := digest_len ac
        obtain ⟨t7, hts7⟩ : ∃ ts, digest ac = ts := ⟨_, rfl⟩
        have HTS7 := Lib.hid hts7
        rw [hts7] at hl7 ⊢
        clear hts7
        have hEq7 : ∀ W : World, (Op.equalIn 10000 44 (.agg (nums .u8 t7).toArray) (.agg (nums .u8 t7).toArray)).run Try.prog W = .ok true W := fun W => run_equalIn_self W 9998 44 5 16 .u8 t7 i0 Try.underlying44 Try.underlying5 HI0.out HZZ.out hl7
        have HL7 := Lib.hid hl7
        clear hl7
        go_wp2_with fail
        refine (rsum4_any LA al lc ac HL.out (by omega) HB.out _ (by exact HCA.out.ext)).mono ?_
        rintro e w6 ⟨rfl, hb6⟩
        have S6 : Step w6 w5 := ⟨hb6⟩
        rw [HTS7.out]
        clear hb6
        go_wp2_with fail
        clear hEq7
        have X6 : Ext w w6 := inferInstance
        have XR6 : Ext wr w6 := inferInstance
        have X26 : Ext w2 w6 := inferInstance
        have HX6 := Lib.hid X6
        have HS6 : Hid (StreamOf w6 w.heap.size g ac pq lq) := StreamAt.ext HS.out
        have HO6 : Hid (w6.ownsRow wr.heap.size 44 16 (.slice A2 q c2) q (flat16 (blkL ac q))) := own_ext HO2.out
        by_cases hq1 : 1 < q
        · obtain ⟨g2, c', he2, _⟩ := own_form HO6.out (by omega)
          injection he2 with he2 _ he2'
          subst he2 he2'
          have hqI : (1 : Int) < (q : Int) := by omega
          have hcI : (1 : Int) ≤ (c2 : Int) := by omega
          have hc1 : 1 ≤ c2 := by omega
          refine wp_region_held_drew (S := fun W => Ext w6 W) (by kernel_rfl) (by exact inferInstance) (fun hHeld => ?_)
          refine wpAnyH_take (i := 0) (v := ?_) rfl (by kernel_rfl) (by kernel_rfl) (by kernel_rfl) (fun _ _ _ h => h) (Yields.yieldsIf (Or.inl ⟨by rfl, ?_⟩)) hHeld ?_
          rotate_left
          · intro W
            go_simp
            try with_reducible rfl
          simp only [List.getElem_toArray, List.getElem_cons_succ, List.getElem_cons_zero, Act.put, List.setIfInBounds_toArray, List.set_cons_zero, List.set_cons_succ]
          refine wpAnyH_take (i := 1) (v := ?_) rfl (by kernel_rfl) (by kernel_rfl) (by kernel_rfl) (fun _ _ _ h => h) (Yields.yieldsIf (Or.inl ⟨by rfl, ?_⟩)) hHeld ?_
          rotate_left
          · intro W
            go_simp
            try with_reducible rfl
          simp only [List.getElem_toArray, List.getElem_cons_succ, List.getElem_cons_zero, Act.put, List.setIfInBounds_toArray, List.set_cons_zero, List.set_cons_succ]
          refine wpAnyH_take (i := 2) (v := ?_) rfl (by kernel_rfl) (by kernel_rfl) (by kernel_rfl) (fun _ _ _ h => h) (Yields.yieldsIf (Or.inl ⟨by rfl, ?_⟩)) hHeld ?_
          rotate_left
          · intro W
            go_simp
            try with_reducible rfl
          simp only [List.getElem_toArray, List.getElem_cons_succ, List.getElem_cons_zero, Act.put, List.setIfInBounds_toArray, List.set_cons_zero, List.set_cons_succ]
          refine wpAnyH_take (i := 3) (v := ?_) rfl (by kernel_rfl) (by kernel_rfl) (by kernel_rfl) (fun _ _ _ h => h) (Yields.yieldsIf (Or.inl ⟨by rfl, ?_⟩)) hHeld ?_
          rotate_left
          · intro W
            go_simp
            try with_reducible rfl
          simp only [List.getElem_toArray, List.getElem_cons_succ, List.getElem_cons_zero, Act.put, List.setIfInBounds_toArray, List.set_cons_zero, List.set_cons_succ]
          refine wpAnyH_take (i := 4) (v := ?_) rfl (by kernel_rfl) (by kernel_rfl) (by kernel_rfl) (fun _ _ _ h => h) (Yields.yieldsIf (Or.inl ⟨by rfl, ?_⟩)) hHeld ?_
          rotate_left
          · intro W
            go_simp
            try with_reducible rfl
          simp only [List.getElem_toArray, List.getElem_cons_succ, List.getElem_cons_zero, Act.put, List.setIfInBounds_toArray, List.set_cons_zero, List.set_cons_succ]
          refine wpAnyH_take (i := 6) (v := ?_) rfl (by kernel_rfl) (by kernel_rfl) (by kernel_rfl) (fun _ _ _ h => h) (Yields.yieldsIf (Or.inl ⟨by rfl, ?_⟩)) hHeld ?_
          rotate_left
          · intro W
            go_simp
            try with_reducible rfl
          simp only [List.getElem_toArray, List.getElem_cons_succ, List.getElem_cons_zero, Act.put, List.setIfInBounds_toArray, List.set_cons_zero, List.set_cons_succ]
          refine wpAnyH_take (i := 7) (v := ?_) rfl (by kernel_rfl) (by kernel_rfl) (by kernel_rfl) (fun _ _ _ h => h) (Yields.yieldsIf (Or.inl ⟨by rfl, ?_⟩)) hHeld ?_
          rotate_left
          · intro W
            go_simp
            try with_reducible rfl
          simp only [List.getElem_toArray, List.getElem_cons_succ, List.getElem_cons_zero, Act.put, List.setIfInBounds_toArray, List.set_cons_zero, List.set_cons_succ]
          have HB1 : Hid (((blkL ac (ac.length / 64)).take (1 : Int).toNat).length = 1) := by unfold Hid; rw [List.length_take, blkL_len, HDL.out]; show min 1 q = 1; omega
          have HB2 : Hid ((blkL ac (ac.length / 64)).take (1 : Int).toNat = (blkL ac q).take 1) := by unfold Hid; rw [HDL.out]; rfl
          have HB3 : Hid (((blkL ac q).take 1).length = 1) := by unfold Hid; rw [← HB2.out]; exact HB1.out
          have HO7 : Hid (w6.ownsRow wr.heap.size 44 16 (.slice (some ⟨g2, 0, none⟩) 1 c2) 1 (flat16 ((blkL ac q).take 1))) := by
            have h1 := own_take HO6.out 1 (by omega)
            rw [← flat16_take] at h1
            exact h1
          refine wpAnyH_ready (rs := [5]) (by kernel_rfl) (by simp) ?_
          refine AllReadyH.cons rfl (fun K hK => ?_) AllReadyH.nil
          refine step_call_w (by rfl) Try.func48 (by kernel_rfl) (by kernel_rfl) #[.tmp 87, .const (.int .i64 1)] #[59, 3] rfl #[.pointer (some ⟨g, 0, none⟩), .int .i64 1] ?hv (lblocksAt_any g _ ac pq lq 1 (by omega) (by omega) _ (by rw [HL.out]; omega) (HS6.out.ext)) ?_
          case hv => go_simp
          rintro e w7 ⟨v7, rfl, ho7, hb7⟩
          refine ⟨_, rfl, ?_⟩
          rw [HB1.out, HB2.out] at ho7
          obtain ⟨A7, c7, rfl, _⟩ := own_slice ho7
          have HO8 := Lib.hid ho7
          have S7 : Step w7 w6.drew := ⟨hb7⟩
          have X67 : Ext w6 w7 := inferInstance
          clear hb7 hHeld ho7
          refine hK.out _ _ X67 (fun hHeld => ?_)
          clear hK K
          simp only [List.getElem_toArray, List.getElem_cons_succ, List.getElem_cons_zero, Act.put, List.setIfInBounds_toArray, List.set_cons_zero, List.set_cons_succ]
          refine wpAnyH_ready (rs := [8]) (by kernel_rfl) (by simp) ?_
          refine AllReadyH.cons rfl (fun K hK => ?_) AllReadyH.nil
          refine step_call_w (by rfl) Try.func47 (by kernel_rfl) (by kernel_rfl) #[.tmp 88, .tmp 90] #[64, 64] rfl #[.slice A7 1 c7, .slice (some ⟨g2, 0, none⟩) 1 c2] ?hv (alike_same A7 (some ⟨g2, 0, none⟩) 1 c7 c2 _ _ ((blkL ac q).take 1) HB3.out (by omega) w7 HO8.out (own_ext HO7.out)) ?_
          case hv => go_simp
          rintro e w8 ⟨rfl, hb8⟩
          refine ⟨_, rfl, ?_⟩
          have S8 : Step w8 w7 := ⟨hb8⟩
          have X68 : Ext w6 w8 := inferInstance
          clear hb8 hHeld
          refine hK.out _ _ X68 (fun hHeld => ?_)
          clear hK K
          simp only [List.getElem_toArray, List.getElem_cons_succ, List.getElem_cons_zero, Act.put, List.setIfInBounds_toArray, List.set_cons_zero, List.set_cons_succ]
          refine wpAnyH_take (i := 9) (v := ?_) rfl (by kernel_rfl) (by kernel_rfl) (by kernel_rfl) (fun _ _ _ h => h) (Yields.yieldsIf (Or.inl ⟨by rfl, ?_⟩)) hHeld ?_
          rotate_left
          · intro W
            go_simp
            try with_reducible rfl
          simp only [List.getElem_toArray, List.getElem_cons_succ, List.getElem_cons_zero, Act.put, List.setIfInBounds_toArray, List.set_cons_zero, List.set_cons_succ]
          refine wpAnyH_take (i := 10) (v := ?_) rfl (by kernel_rfl) (by kernel_rfl) (by kernel_rfl) (fun _ _ _ h => h) (Yields.yieldsIf (Or.inl ⟨by rfl, ?_⟩)) hHeld ?_
          rotate_left
          · intro W
            go_simp
            try with_reducible rfl
          simp only [List.getElem_toArray, List.getElem_cons_succ, List.getElem_cons_zero, Act.put, List.setIfInBounds_toArray, List.set_cons_zero, List.set_cons_succ]
          refine wpAnyH_done (by kernel_rfl) ?_ _
          clear hHeld
          go_wp2_with fail
          refine (awake4_any _).mono ?_
          rintro e w20 ⟨rfl, hb20⟩
          have S20 : Step w20 _ := ⟨hb20⟩
          have HF : Hid (Below w.heap.size w w20) := Ext.out
          clear hb20
          go_wp2
          go_ret
          exact ⟨rfl, HF.out⟩
        · have hqI : ¬ (1 : Int) < (q : Int) := by omega
          refine wp_region_held_drew (S := fun W => Ext w6 W) (by kernel_rfl) (by exact inferInstance) (fun hHeld => ?_)
          refine wpAnyH_take (i := 0) (v := ?_) rfl (by kernel_rfl) (by kernel_rfl) (by kernel_rfl) (fun _ _ _ h => h) (Yields.yieldsIf (Or.inl ⟨by rfl, ?_⟩)) hHeld ?_
          rotate_left
          · intro W
            go_simp
            try with_reducible rfl
          simp only [List.getElem_toArray, List.getElem_cons_succ, List.getElem_cons_zero, Act.put, List.setIfInBounds_toArray, List.set_cons_zero, List.set_cons_succ]
          refine wpAnyH_take (i := 1) (v := ?_) rfl (by kernel_rfl) (by kernel_rfl) (by kernel_rfl) (fun _ _ _ h => h) (Yields.yieldsIf (Or.inl ⟨by rfl, ?_⟩)) hHeld ?_
          rotate_left
          · intro W
            go_simp
            try with_reducible rfl
          simp only [List.getElem_toArray, List.getElem_cons_succ, List.getElem_cons_zero, Act.put, List.setIfInBounds_toArray, List.set_cons_zero, List.set_cons_succ]
          refine wpAnyH_take (i := 2) (v := ?_) rfl (by kernel_rfl) (by kernel_rfl) (by kernel_rfl) (fun _ _ _ h => h) (Yields.yieldsIf (Or.inl ⟨by rfl, ?_⟩)) hHeld ?_
          rotate_left
          · intro W
            go_simp
            try with_reducible rfl
          simp only [List.getElem_toArray, List.getElem_cons_succ, List.getElem_cons_zero, Act.put, List.setIfInBounds_toArray, List.set_cons_zero, List.set_cons_succ]
          refine wpAnyH_take (i := 3) (v := ?_) rfl (by kernel_rfl) (by kernel_rfl) (by kernel_rfl) (fun _ _ _ h => h) (Yields.yieldsIf (Or.inl ⟨by rfl, ?_⟩)) hHeld ?_
          rotate_left
          · intro W
            go_simp
            try with_reducible rfl
          simp only [List.getElem_toArray, List.getElem_cons_succ, List.getElem_cons_zero, Act.put, List.setIfInBounds_toArray, List.set_cons_zero, List.set_cons_succ]
          refine wpAnyH_take (i := 4) (v := undef) rfl (by kernel_rfl) (by kernel_rfl) (by kernel_rfl) (fun _ _ _ h => h) (Yields.yieldsIf (Or.inr ⟨by rfl, rfl⟩)) hHeld ?_
          simp only [List.getElem_toArray, List.getElem_cons_succ, List.getElem_cons_zero, Act.put, List.setIfInBounds_toArray, List.set_cons_zero, List.set_cons_succ]
          refine wpAnyH_take (i := 5) (v := undef) rfl (by kernel_rfl) (by kernel_rfl) (by kernel_rfl) (fun _ _ _ h => h) (Yields.yieldsIf (Or.inr ⟨by rfl, rfl⟩)) hHeld ?_
          simp only [List.getElem_toArray, List.getElem_cons_succ, List.getElem_cons_zero, Act.put, List.setIfInBounds_toArray, List.set_cons_zero, List.set_cons_succ]
          refine wpAnyH_take (i := 6) (v := undef) rfl (by kernel_rfl) (by kernel_rfl) (by kernel_rfl) (fun _ _ _ h => h) (Yields.yieldsIf (Or.inr ⟨by rfl, rfl⟩)) hHeld ?_
          simp only [List.getElem_toArray, List.getElem_cons_succ, List.getElem_cons_zero, Act.put, List.setIfInBounds_toArray, List.set_cons_zero, List.set_cons_succ]
          refine wpAnyH_take (i := 7) (v := undef) rfl (by kernel_rfl) (by kernel_rfl) (by kernel_rfl) (fun _ _ _ h => h) (Yields.yieldsIf (Or.inr ⟨by rfl, rfl⟩)) hHeld ?_
          simp only [List.getElem_toArray, List.getElem_cons_succ, List.getElem_cons_zero, Act.put, List.setIfInBounds_toArray, List.set_cons_zero, List.set_cons_succ]
          refine wpAnyH_take (i := 8) (v := undef) rfl (by kernel_rfl) (by kernel_rfl) (by kernel_rfl) (fun _ _ _ h => h) (Yields.yieldsIf (Or.inr ⟨by rfl, rfl⟩)) hHeld ?_
          simp only [List.getElem_toArray, List.getElem_cons_succ, List.getElem_cons_zero, Act.put, List.setIfInBounds_toArray, List.set_cons_zero, List.set_cons_succ]
          refine wpAnyH_take (i := 9) (v := undef) rfl (by kernel_rfl) (by kernel_rfl) (by kernel_rfl) (fun _ _ _ h => h) (Yields.yieldsIf (Or.inr ⟨by rfl, rfl⟩)) hHeld ?_
          simp only [List.getElem_toArray, List.getElem_cons_succ, List.getElem_cons_zero, Act.put, List.setIfInBounds_toArray, List.set_cons_zero, List.set_cons_succ]
          refine wpAnyH_take (i := 10) (v := ?_) rfl (by kernel_rfl) (by kernel_rfl) (by kernel_rfl) (fun _ _ _ h => h) (Yields.yieldsIf (Or.inl ⟨by rfl, ?_⟩)) hHeld ?_
          rotate_left
          · intro W
            go_simp
            try with_reducible rfl
          simp only [List.getElem_toArray, List.getElem_cons_succ, List.getElem_cons_zero, Act.put, List.setIfInBounds_toArray, List.set_cons_zero, List.set_cons_succ]
          refine wpAnyH_done (by kernel_rfl) ?_ _
          clear hHeld
          go_wp2_with fail
          refine (awake4_any _).mono ?_
          rintro e w20 ⟨rfl, hb20⟩
          have S20 : Step w20 _ := ⟨hb20⟩
          have HF : Hid (Below w.heap.size w w20) := Ext.out
          clear hb20
          go_wp2
          go_ret
          exact ⟨rfl, HF.out⟩
      · have hk100 : k < 100 := by omega
        have hkI : (k : Int) < 100 := by omega
        by_cases hr : (k : Int) = reset
        · subst hr
          go_wp2_with fail
          refine (reset4_any g _ ac pq lq wr HS.out).mono ?_
          rintro e wz ⟨rfl, hsz, honz⟩
          have HSz := Lib.hid hsz
          have XZ : Ext w wz := Only.step honz (fun k e => by rw [e]; exact HG.out)
          have HXZ := Lib.hid XZ
          have HA0 : Hid (wz.ownsRow w.heap.size 5 1 (.slice none 0 0) 0 (nums .u8 [])) := own_nil _ _ _ _
          have HP0 : Hid (∀ k, StreamS g (.slice none 0 0) (.slice none 0 0) k → (Value.slice none 0 0).ownBlock ≠ some k) := by intro k _; simp [Value.ownBlock]
          clear hsz honz HO HS HD HL HB
          go_wp2_with fail
          obtain ⟨QZ, az, qz, ha0, hvz⟩ : ∃ (QZ : Option Addr) (az qz : Nat), az = 0 ∧ (Value.slice none 0 0) = .slice QZ az qz := ⟨none, 0, 0, rfl, rfl⟩
          obtain ⟨ez, hez⟩ : ∃ ez : List Int, ez = [] := ⟨_, rfl⟩
          have HLz : Hid (ez.length = az) := by rw [hez, ha0]; rfl
          have HBz : Hid (Byt ez) := by rw [hez]; exact Byt.nil_
          have halz : az ≤ k * 1048576 := by omega
          have HAz : Hid (wz.ownsRow w.heap.size 5 1 (.slice QZ az qz) az (nums .u8 ez)) := by rw [← hvz, ha0, hez]; exact HA0.out
          rw [← hez] at HSz
          rw [hvz] at HSz HP0 ⊢
          clear ha0 hvz hez HA0 hal
          refine (lent4_any BA bn bc xs HXL.out (by omega) _ (by exact HXC.out.ext)).mono ?_
          rintro e w2 ⟨gc, cap, rfl, hcap, ho2, hb2⟩
          have S2 : Step w2 wz := ⟨hb2⟩
          have HGC : Hid (wz.heap.size ≤ gc ∧ gc < w2.heap.size) := ⟨own_base ho2 gc rfl, own_lt ho2 gc rfl⟩
          have HC2 : Hid (Cells w2 (some ⟨gc, 0, none⟩) (nums .u8 xs)) := by have h1 := own_cells ho2; rw [nums_append] at h1; exact h1.left
          have HCO2 := Lib.hid ho2
          have HSO : Hid (∀ k, StreamS g (.slice QZ az qz) (.slice QZ az qz) k → k < wz.heap.size) := StreamAt.old HSz.out
          have HAO : Hid (∀ k, (Value.slice QZ az qz).ownBlock = some k → k < wz.heap.size) := fun k hk => own_lt HAz.out k hk
          have HS2 : Hid (StreamOf w2 w.heap.size g ez (.slice QZ az qz) (.slice QZ az qz)) := StreamAt.ext HSz.out
          have HO2 : Hid (w2.ownsRow w.heap.size 5 1 (.slice QZ az qz) az (nums .u8 ez)) := own_ext HAz.out
          have HZ2 : Hid (w.heap.size ≤ w2.heap.size) := (Ext.out (w := w) (w' := w2)).size
          have HZW : Hid (wz.heap.size ≤ w2.heap.size) := hb2.size
          have HZW0 : Hid (w.heap.size ≤ wz.heap.size) := (Ext.out (w := w) (w' := wz)).size
          clear ho2 hb2
          go_wp2_with fail
          refine (writeAll4_any g _ ez xs (.slice QZ az qz) (.slice QZ az qz) (some ⟨gc, 0, none⟩) bn cap w2 HXL.out HBz.out HXB.out (fun _ ad ha => by injection ha with ha; have h1 := HSO.out g (.inl rfl); have h2 := HGC.out.1; rw [← ha]; simp only; omega) (by rw [HLz.out]; omega) HS2.out HZ2.out HC2.out).mono ?_
          rintro e w3 ⟨pv3, lv3, rfl, hst3, hon3, hos3⟩
          have S3 : Step w3 w := StreamOf.wrote (w0 := w) HS2.out hon3 (Nat.le_refl _)
          have HS3 := Lib.hid hst3
          have HO3 : Hid (w3.ownsRow w.heap.size 5 1 (.slice QZ az qz) az (nums .u8 ez)) := own_only HO2.out hon3 (fun k hk hs => HP0.out k hs hk)
          have HC3 := Lib.hid (own_only HCO2.out hon3 (fun k hk hs => by have h1 := HSO.out k hs; have h2 := HGC.out.1; have h3 : gc = k := (by simpa [Value.ownBlock] using hk); omega))
          have HD3 : Hid (∀ k, StreamS g pv3 lv3 k → (Value.slice QZ az qz).ownBlock ≠ some k) := by
            intro k hk ha
            rcases hos3 k hk with h | h
            · exact HP0.out k h ha
            · have h1 := HAO.out k ha; have h2 := HZW.out; omega
          have HE3 : Hid (∀ k, StreamS g pv3 lv3 k → k ≠ gc) := by
            rintro k hk rfl
            rcases hos3 k hk with h | h
            · have h1 := HSO.out k h; have h2 := HGC.out.1; omega
            · have h2 := HGC.out.2; omega
          clear hst3 hon3 hos3
          go_wp2_with fail
          refine (kept4_true gc cap bn bn bc _ BA xs HXL.out HXB.out rfl hcap (by omega) _ HC3.out (HXC.out.ext)).mono ?_
          rintro e w4 ⟨rfl, rfl⟩
          go_wp2_with fail
          have HY3 : Hid (∃ zs, w3.ownsRow 0 5 1 (.slice (some ⟨gc, 0, none⟩) bn cap) bn (nums .u8 zs)) := by
            have h1 := own_take HC3.out bn (by omega)
            rw [Nat.mul_one, ← nums_take] at h1
            exact ⟨_, own_weaken h1 (Nat.zero_le _)⟩
          go_loopw [43] (fun i wr' => ∃ j : Nat, i = .int .i64 j ∧ j ≤ bn ∧ Hid (∃ zs, wr'.ownsRow 0 5 1 (.slice (some ⟨gc, 0, none⟩) bn cap) bn (nums .u8 zs)) ∧ Hid (w3.grownBy wr' (some gc))) (fun i _ => bn - (intOf i).toNat)
          case atStart => exact ⟨0, rfl, by omega, HY3.out, grown_refl _ _⟩
          case round =>
            obtain ⟨j, rfl, hj, hYY, hG⟩ := hrel
            obtain ⟨zs, hys⟩ := hYY.out
            by_cases hltj : j < bn
            · have hyl : zs.length = bn := by have := own_len1 hys; rwa [nums_length] at this
              have hc := hys.cellAt j (by omega)
              rw [nums_get _ _ _ (by omega)] at hc
              have hf := hys.frozenAt j
              generalize zs.getD j 0 = X at *
              have HYS := Lib.hid hys
              clear hys hyl
              go_wp2
              go_roundw
              case rel =>
                have h := (HYS.out.stored j (.int .u8 99)).1
                rw [← nums_set] at h
                exact ⟨j + 1, by go_num, by omega, ⟨_, h⟩, grown_setCell (p := ⟨gc, j, none⟩) hG.out (.inr rfl) _⟩
              case measure => simp [intOf]; omega
            · obtain rfl : bn = j := by omega
              have hon := Only.of_grown hG.out
              have HS4 : Hid (StreamOf wr w.heap.size g (ez ++ xs) pv3 lv3) := StreamAt.only HS3.out hon (fun k hk e => HE3.out k hk (by injection e with e; exact e.symm))
              have HO4 : Hid (wr.ownsRow w.heap.size 5 1 (.slice QZ az qz) az (nums .u8 ez)) := own_only HO3.out hon (fun k hk e => by have h1 := HAO.out k hk; have h2 := HGC.out.1; injection e with e; omega)
              have X3 : Ext w w3 := inferInstance
              have X4 : Ext w wr := Only.step hon (fun k e => by have h2 := HGC.out.1; have h3 := HZW0.out; injection e with e; omega)
              have HX4 := Lib.hid X4
              have HCX : Hid (Cells wr BA (nums .u8 xs)) := HXC.out.ext
              have HAL := HLz
              clear hltj hj hys hYY hG hon HY3 HC3 HO3 HS3 HO2 HS2 HC2 HCO2 X3
              go_wp2_with
                (at_builtin
                 refine wp_append_cells (w0 := w) w.heap.size rfl (.tmp 50) (.tmp 51) 42 5 (.int .u8 0) 1 1 rfl Try.underlying42 info_u8 rfl (by decide) (by decide) (.slice QZ az qz) az (nums .u8 ez) BA bn bc (nums .u8 xs) rfl rfl (by rw [nums_length, HXL.out, Nat.mul_one]) (nums_one _ _) HO4.out HCX.out HX4.out.out HX4.out.out.size (by omega) ?_
                 intro v5 w5 ho5 hb5 hg5 hat5
                 have HD5 : Hid (∀ k, StreamS g pv3 lv3 k → v5.ownBlock ≠ some k) := by
                   intro k hk e
                   rcases hat5 with h | h
                   · exact HD3.out k hk (h.symm.trans e)
                   · have h1 := StreamAt.old HS4.out k hk
                     rw [h] at e
                     injection e with e
                     omega
                 have HS5 : Hid (StreamOf w5 w.heap.size g (ez ++ xs) pv3 lv3) := StreamAt.only HS4.out (Only.of_grown hg5) (fun k hk e => HD3.out k hk e)
                 obtain ⟨X5, x5, rfl, hx5⟩ := own_slice ho5
                 have HO5 := Lib.hid ho5
                 have HX5 : Hid (Ext w w5) := ⟨hb5⟩
                 clear ho5 hb5 hg5 hat5 HS4 HO4 HCX)
              have HBN : Hid (Byt (ez ++ xs)) := Byt.append HBz.out HXB.out
              have HLN : Hid ((ez ++ xs).length = az + bn) := by unfold Hid; rw [List.length_append, HLz.out, HXL.out]
              have HON : Hid (w5.ownsRow w.heap.size 5 1 (.slice X5 (az + bn) x5) (az + bn) (nums .u8 (ez ++ xs))) := by unfold Hid; rw [nums_append]; exact HO5.out
              obtain ⟨aa, haa⟩ : ∃ aa, ez ++ xs = aa := ⟨_, rfl⟩
              rw [haa] at HBN HLN HON HS5
              clear haa HO5
              refine (len4_any g _ aa pv3 lv3 w5 HS5.out).mono ?_
              rintro e w6 ⟨rfl, rfl⟩
              rw [HLN.out]
              go_wp2_with fail
              refine (sumAll4_any g _ aa pv3 lv3 w5 HBN.out (by rw [HLN.out]; omega) HS5.out).mono ?_
              rintro e w7 ⟨rfl, hb7⟩
              have S7 : Step w7 w5 := ⟨hb7⟩
              have HC5 : Hid (Cells w5 X5 (nums .u8 aa)) := own_cells HON.out
              clear hb7
              have hl7 := digest_len aa
              obtain ⟨t7, hts7⟩ : ∃ ts, digest aa = ts := ⟨_, rfl⟩
              have HTS7 := Lib.hid hts7
              rw [hts7] at hl7 ⊢
              clear hts7
              have hEq7 : ∀ W : World, (Op.equalIn 10000 44 (.agg (nums .u8 t7).toArray) (.agg (nums .u8 t7).toArray)).run Try.prog W = .ok true W := fun W => run_equalIn_self W 9998 44 5 16 .u8 t7 i0 Try.underlying44 Try.underlying5 HI0.out HZZ.out hl7
              have HL7 := Lib.hid hl7
              clear hl7
              go_wp2_with fail
              refine (rsum4_any X5 (az + bn) x5 aa HLN.out (by omega) HBN.out _ (by exact HC5.out.ext)).mono ?_
              rintro e w8 ⟨rfl, hb8⟩
              have S8 : Step w8 w7 := ⟨hb8⟩
              have E58 : Ext w5 w8 := inferInstance
              have HS8 : Hid (StreamOf w8 w.heap.size g aa pv3 lv3) := StreamAt.ext HS5.out
              have HO8 : Hid (w8.ownsRow w.heap.size 5 1 (.slice X5 (az + bn) x5) (az + bn) (nums .u8 aa)) := own_ext HON.out
              have HX8 : Hid (Ext w w8) := Ext.trans_ HX5.out E58
              rw [HTS7.out]
              clear hb8 E58
              go_wp2_with fail
              clear hEq7
              go_roundw
              case rel => exact ⟨k + 1, aa, az + bn, X5, x5, pv3, lv3, by go_num, by omega, by omega, by omega, rfl, HLN.out, HBN.out, HO8.out, HS8.out, HD5.out, HX8.out⟩
              case measure => simp [intOf]; omega
        · have hrB : ((k : Int) == reset) = false := by simpa using hr
          go_wp2_with fail
          refine (lent4_any BA bn bc xs HXL.out (by omega) _ (by exact HXC.out.ext)).mono ?_
          rintro e w2 ⟨gc, cap, rfl, hcap, ho2, hb2⟩
          have S2 : Step w2 wr := ⟨hb2⟩
          have HGC : Hid (wr.heap.size ≤ gc ∧ gc < w2.heap.size) := ⟨own_base ho2 gc rfl, own_lt ho2 gc rfl⟩
          have HC2 : Hid (Cells w2 (some ⟨gc, 0, none⟩) (nums .u8 xs)) := by have h1 := own_cells ho2; rw [nums_append] at h1; exact h1.left
          have HCO2 := Lib.hid ho2
          have HSO : Hid (∀ k, StreamS g pq lq k → k < wr.heap.size) := StreamAt.old HS.out
          have HAO : Hid (∀ k, (Value.slice LA al lc).ownBlock = some k → k < wr.heap.size) := fun k hk => own_lt HO.out k hk
          have HS2 : Hid (StreamOf w2 w.heap.size g ac pq lq) := StreamAt.ext HS.out
          have HO2 : Hid (w2.ownsRow w.heap.size 5 1 (.slice LA al lc) al (nums .u8 ac)) := own_ext HO.out
          have HZ2 : Hid (w.heap.size ≤ w2.heap.size) := (Ext.out (w := w) (w' := w2)).size
          have HZW : Hid (wr.heap.size ≤ w2.heap.size) := hb2.size
          have HZW0 : Hid (w.heap.size ≤ wr.heap.size) := (Ext.out (w := w) (w' := wr)).size
          clear ho2 hb2
          go_wp2_with fail
          refine (writeAll4_any g _ ac xs pq lq (some ⟨gc, 0, none⟩) bn cap w2 HXL.out HB.out HXB.out (fun _ ad ha => by injection ha with ha; have h1 := HSO.out g (.inl rfl); have h2 := HGC.out.1; rw [← ha]; simp only; omega) (by rw [HL.out]; omega) HS2.out HZ2.out HC2.out).mono ?_
          rintro e w3 ⟨pv3, lv3, rfl, hst3, hon3, hos3⟩
          have S3 : Step w3 w := StreamOf.wrote (w0 := w) HS2.out hon3 (Nat.le_refl _)
          have HS3 := Lib.hid hst3
          have HO3 : Hid (w3.ownsRow w.heap.size 5 1 (.slice LA al lc) al (nums .u8 ac)) := own_only HO2.out hon3 (fun k hk hs => HD.out k hs hk)
          have HC3 := Lib.hid (own_only HCO2.out hon3 (fun k hk hs => by have h1 := HSO.out k hs; have h2 := HGC.out.1; have h3 : gc = k := (by simpa [Value.ownBlock] using hk); omega))
          have HD3 : Hid (∀ k, StreamS g pv3 lv3 k → (Value.slice LA al lc).ownBlock ≠ some k) := by
            intro k hk ha
            rcases hos3 k hk with h | h
            · exact HD.out k h ha
            · have h1 := HAO.out k ha; have h2 := HZW.out; omega
          have HE3 : Hid (∀ k, StreamS g pv3 lv3 k → k ≠ gc) := by
            rintro k hk rfl
            rcases hos3 k hk with h | h
            · have h1 := HSO.out k h; have h2 := HGC.out.1; omega
            · have h2 := HGC.out.2; omega
          clear hst3 hon3 hos3
          go_wp2_with fail
          refine (kept4_true gc cap bn bn bc _ BA xs HXL.out HXB.out rfl hcap (by omega) _ HC3.out (HXC.out.ext)).mono ?_
          rintro e w4 ⟨rfl, rfl⟩
          go_wp2_with fail
          have HY3 : Hid (∃ zs, w3.ownsRow 0 5 1 (.slice (some ⟨gc, 0, none⟩) bn cap) bn (nums .u8 zs)) := by
            have h1 := own_take HC3.out bn (by omega)
            rw [Nat.mul_one, ← nums_take] at h1
            exact ⟨_, own_weaken h1 (Nat.zero_le _)⟩
          go_loopw [43] (fun i wr' => ∃ j : Nat, i = .int .i64 j ∧ j ≤ bn ∧ Hid (∃ zs, wr'.ownsRow 0 5 1 (.slice (some ⟨gc, 0, none⟩) bn cap) bn (nums .u8 zs)) ∧ Hid (w3.grownBy wr' (some gc))) (fun i _ => bn - (intOf i).toNat)
          case atStart => exact ⟨0, rfl, by omega, HY3.out, grown_refl _ _⟩
          case round =>
            obtain ⟨j, rfl, hj, hYY, hG⟩ := hrel
            obtain ⟨zs, hys⟩ := hYY.out
            by_cases hltj : j < bn
            · have hyl : zs.length = bn := by have := own_len1 hys; rwa [nums_length] at this
              have hc := hys.cellAt j (by omega)
              rw [nums_get _ _ _ (by omega)] at hc
              have hf := hys.frozenAt j
              generalize zs.getD j 0 = X at *
              have HYS := Lib.hid hys
              clear hys hyl
              go_wp2
              go_roundw
              case rel =>
                have h := (HYS.out.stored j (.int .u8 99)).1
                rw [← nums_set] at h
                exact ⟨j + 1, by go_num, by omega, ⟨_, h⟩, grown_setCell (p := ⟨gc, j, none⟩) hG.out (.inr rfl) _⟩
              case measure => simp [intOf]; omega
            · obtain rfl : bn = j := by omega
              have hon := Only.of_grown hG.out
              have HS4 : Hid (StreamOf wr w.heap.size g (ac ++ xs) pv3 lv3) := StreamAt.only HS3.out hon (fun k hk e => HE3.out k hk (by injection e with e; exact e.symm))
              have HO4 : Hid (wr.ownsRow w.heap.size 5 1 (.slice LA al lc) al (nums .u8 ac)) := own_only HO3.out hon (fun k hk e => by have h1 := HAO.out k hk; have h2 := HGC.out.1; injection e with e; omega)
              have X3 : Ext w w3 := inferInstance
              have X4 : Ext w wr := Only.step hon (fun k e => by have h2 := HGC.out.1; have h3 := HZW0.out; injection e with e; omega)
              have HX4 := Lib.hid X4
              have HCX : Hid (Cells wr BA (nums .u8 xs)) := HXC.out.ext
              have HAL := HL
              clear hltj hj hys hYY hG hon HY3 HC3 HO3 HS3 HO2 HS2 HC2 HCO2 X3
              go_wp2_with
                (at_builtin
                 refine wp_append_cells (w0 := w) w.heap.size rfl (.tmp 50) (.tmp 51) 42 5 (.int .u8 0) 1 1 rfl Try.underlying42 info_u8 rfl (by decide) (by decide) (.slice LA al lc) al (nums .u8 ac) BA bn bc (nums .u8 xs) rfl rfl (by rw [nums_length, HXL.out, Nat.mul_one]) (nums_one _ _) HO4.out HCX.out HX4.out.out HX4.out.out.size (by omega) ?_
                 intro v5 w5 ho5 hb5 hg5 hat5
                 have HD5 : Hid (∀ k, StreamS g pv3 lv3 k → v5.ownBlock ≠ some k) := by
                   intro k hk e
                   rcases hat5 with h | h
                   · exact HD3.out k hk (h.symm.trans e)
                   · have h1 := StreamAt.old HS4.out k hk
                     rw [h] at e
                     injection e with e
                     omega
                 have HS5 : Hid (StreamOf w5 w.heap.size g (ac ++ xs) pv3 lv3) := StreamAt.only HS4.out (Only.of_grown hg5) (fun k hk e => HD3.out k hk e)
                 obtain ⟨X5, x5, rfl, hx5⟩ := own_slice ho5
                 have HO5 := Lib.hid ho5
                 have HX5 : Hid (Ext w w5) := ⟨hb5⟩
                 clear ho5 hb5 hg5 hat5 HS4 HO4 HCX)
              have HBN : Hid (Byt (ac ++ xs)) := Byt.append HB.out HXB.out
              have HLN : Hid ((ac ++ xs).length = al + bn) := by unfold Hid; rw [List.length_append, HL.out, HXL.out]
              have HON : Hid (w5.ownsRow w.heap.size 5 1 (.slice X5 (al + bn) x5) (al + bn) (nums .u8 (ac ++ xs))) := by unfold Hid; rw [nums_append]; exact HO5.out
              obtain ⟨aa, haa⟩ : ∃ aa, ac ++ xs = aa := ⟨_, rfl⟩
              rw [haa] at HBN HLN HON HS5
              clear haa HO5
              refine (len4_any g _ aa pv3 lv3 w5 HS5.out).mono ?_
              rintro e w6 ⟨rfl, rfl⟩
              rw [HLN.out]
              go_wp2_with fail
              refine (sumAll4_any g _ aa pv3 lv3 w5 HBN.out (by rw [HLN.out]; omega) HS5.out).mono ?_
              rintro e w7 ⟨rfl, hb7⟩
              have S7 : Step w7 w5 := ⟨hb7⟩
              have HC5 : Hid (Cells w5 X5 (nums .u8 aa)) := own_cells HON.out
              clear hb7
              have hl7 := digest_len aa
              obtain ⟨t7, hts7⟩ : ∃ ts, digest aa = ts := ⟨_, rfl⟩
              have HTS7 := Lib.hid hts7
              rw [hts7] at hl7 ⊢
              clear hts7
              have hEq7 : ∀ W : World, (Op.equalIn 10000 44 (.agg (nums .u8 t7).toArray) (.agg (nums .u8 t7).toArray)).run Try.prog W = .ok true W := fun W => run_equalIn_self W 9998 44 5 16 .u8 t7 i0 Try.underlying44 Try.underlying5 HI0.out HZZ.out hl7
              have HL7 := Lib.hid hl7
              clear hl7
              go_wp2_with fail
              refine (rsum4_any X5 (al + bn) x5 aa HLN.out (by omega) HBN.out _ (by exact HC5.out.ext)).mono ?_
              rintro e w8 ⟨rfl, hb8⟩
              have S8 : Step w8 w7 := ⟨hb8⟩
              have E58 : Ext w5 w8 := inferInstance
              have HS8 : Hid (StreamOf w8 w.heap.size g aa pv3 lv3) := StreamAt.ext HS5.out
              have HO8 : Hid (w8.ownsRow w.heap.size 5 1 (.slice X5 (al + bn) x5) (al + bn) (nums .u8 aa)) := own_ext HON.out
              have HX8 : Hid (Ext w w8) := Ext.trans_ HX5.out E58
              rw [HTS7.out]
              clear hb8 E58
              go_wp2_with fail
              clear hEq7
              go_roundw
              case rel => exact ⟨k + 1, aa, al + bn, X5, x5, pv3, lv3, by go_num, by omega, by omega, by omega, rfl, HLN.out, HBN.out, HO8.out, HS8.out, HD5.out, HX8.out⟩
              case measure => simp [intOf]; omega
    · obtain rfl : k = n := by omega
      go_wp2_with fail
      have hlc : al ≤ lc := by
        obtain ⟨_, _, he, h⟩ := own_slice HO.out
        injection he with _ _ he
        omega
      have hal2 : al ≤ 104857600 := by omega
      have HCA : Hid (Cells wr LA (nums .u8 ac)) := own_cells HO.out
      have HDL : Hid (ac.length / 64 = al / 64) := by unfold Hid; rw [HL.out]
      refine (rblocks4_any LA al lc ac HL.out hlc (by omega) HB.out wr HCA.out).mono ?_
      rintro e w2 ⟨v2, rfl, ho2, hb2⟩
      have S2 : Step w2 wr := ⟨hb2⟩
      obtain ⟨A2, c2, rfl, hc2⟩ := own_slice ho2
      have HO2 := Lib.hid ho2
      obtain ⟨q, hq⟩ : ∃ q, al / 64 = q := ⟨_, rfl⟩
      have hq2 : q ≤ 1638400 := by omega
      rw [hq] at HO2 HDL hc2 ⊢
      clear ho2 hb2 hq
      go_wp2_with fail
      refine (lblocksTo_any g _ ac pq lq _ (by omega) (by omega) (by rw [HDL.out]; omega) w2 (by rw [HL.out]; omega) HS.out.ext).mono ?_
      rintro e w3 ⟨v3, rfl, ho3, hb3⟩
      have S3 : Step w3 w2 := ⟨hb3⟩
      rw [HDL.out] at ho3
      obtain ⟨A3, c3, rfl, hc3⟩ := own_slice ho3
      have HO3 := Lib.hid ho3
      clear ho3 hb3
      go_wp2_with fail
      refine (alike_same A3 A2 q c3 c2 _ _ (blkL ac q) (blkL_len _ _) (by omega) w3 HO3.out (own_ext HO2.out)).mono ?_
      rintro e w4 ⟨rfl, hb4⟩
      have S4 : Step w4 w3 := ⟨hb4⟩
      clear hb4
      go_wp2_with fail
      refine (sumAll4_any g _ ac pq lq w4 HB.out (by rw [HL.out]; omega) HS.out.ext).mono ?_
      rintro e w5 ⟨rfl, hb5⟩
      have S5 : Step w5 w4 := ⟨hb5⟩
      clear hb5
      have hl7 := digest_len ac
      obtain ⟨t7, hts7⟩ : ∃ ts, digest ac = ts := ⟨_, rfl⟩
      have HTS7 := Lib.hid hts7
      rw [hts7] at hl7 ⊢
      clear hts7
      have hEq7 : ∀ W : World, (Op.equalIn 10000 44 (.agg (nums .u8 t7).toArray) (.agg (nums .u8 t7).toArray)).run Try.prog W = .ok true W := fun W => run_equalIn_self W 9998 44 5 16 .u8 t7 i0 Try.underlying44 Try.underlying5 HI0.out HZZ.out hl7
      have HL7 := Lib.hid hl7
      clear hl7
      go_wp2_with fail
      refine (rsum4_any LA al lc ac HL.out (by omega) HB.out _ (by exact HCA.out.ext)).mono ?_
      rintro e w6 ⟨rfl, hb6⟩
      have S6 : Step w6 w5 := ⟨hb6⟩
      rw [HTS7.out]
      clear hb6
      go_wp2_with fail
      clear hEq7
      have X6 : Ext w w6 := inferInstance
      have XR6 : Ext wr w6 := inferInstance
      have X26 : Ext w2 w6 := inferInstance
      have HX6 := Lib.hid X6
      have HS6 : Hid (StreamOf w6 w.heap.size g ac pq lq) := StreamAt.ext HS.out
      have HO6 : Hid (w6.ownsRow wr.heap.size 44 16 (.slice A2 q c2) q (flat16 (blkL ac q))) := own_ext HO2.out
      by_cases hq1 : 1 < q
      · obtain ⟨g2, c', he2, _⟩ := own_form HO6.out (by omega)
        injection he2 with he2 _ he2'
        subst he2 he2'
        have hqI : (1 : Int) < (q : Int) := by omega
        have hcI : (1 : Int) ≤ (c2 : Int) := by omega
        have hc1 : 1 ≤ c2 := by omega
        refine wp_region_held_drew (S := fun W => Ext w6 W) (by kernel_rfl) (by exact inferInstance) (fun hHeld => ?_)
        refine wpAnyH_take (i := 0) (v := ?_) rfl (by kernel_rfl) (by kernel_rfl) (by kernel_rfl) (fun _ _ _ h => h) (Yields.yieldsIf (Or.inl ⟨by rfl, ?_⟩)) hHeld ?_
        rotate_left
        · intro W
          go_simp
          try with_reducible rfl
        simp only [List.getElem_toArray, List.getElem_cons_succ, List.getElem_cons_zero, Act.put, List.setIfInBounds_toArray, List.set_cons_zero, List.set_cons_succ]
        refine wpAnyH_take (i := 1) (v := ?_) rfl (by kernel_rfl) (by kernel_rfl) (by kernel_rfl) (fun _ _ _ h => h) (Yields.yieldsIf (Or.inl ⟨by rfl, ?_⟩)) hHeld ?_
        rotate_left
        · intro W
          go_simp
          try with_reducible rfl
        simp only [List.getElem_toArray, List.getElem_cons_succ, List.getElem_cons_zero, Act.put, List.setIfInBounds_toArray, List.set_cons_zero, List.set_cons_succ]
        refine wpAnyH_take (i := 2) (v := ?_) rfl (by kernel_rfl) (by kernel_rfl) (by kernel_rfl) (fun _ _ _ h => h) (Yields.yieldsIf (Or.inl ⟨by rfl, ?_⟩)) hHeld ?_
        rotate_left
        · intro W
          go_simp
          try with_reducible rfl
        simp only [List.getElem_toArray, List.getElem_cons_succ, List.getElem_cons_zero, Act.put, List.setIfInBounds_toArray, List.set_cons_zero, List.set_cons_succ]
        refine wpAnyH_take (i := 3) (v := ?_) rfl (by kernel_rfl) (by kernel_rfl) (by kernel_rfl) (fun _ _ _ h => h) (Yields.yieldsIf (Or.inl ⟨by rfl, ?_⟩)) hHeld ?_
        rotate_left
        · intro W
          go_simp
          try with_reducible rfl
        simp only [List.getElem_toArray, List.getElem_cons_succ, List.getElem_cons_zero, Act.put, List.setIfInBounds_toArray, List.set_cons_zero, List.set_cons_succ]
        refine wpAnyH_take (i := 4) (v := ?_) rfl (by kernel_rfl) (by kernel_rfl) (by kernel_rfl) (fun _ _ _ h => h) (Yields.yieldsIf (Or.inl ⟨by rfl, ?_⟩)) hHeld ?_
        rotate_left
        · intro W
          go_simp
          try with_reducible rfl
        simp only [List.getElem_toArray, List.getElem_cons_succ, List.getElem_cons_zero, Act.put, List.setIfInBounds_toArray, List.set_cons_zero, List.set_cons_succ]
        refine wpAnyH_take (i := 6) (v := ?_) rfl (by kernel_rfl) (by kernel_rfl) (by kernel_rfl) (fun _ _ _ h => h) (Yields.yieldsIf (Or.inl ⟨by rfl, ?_⟩)) hHeld ?_
        rotate_left
        · intro W
          go_simp
          try with_reducible rfl
        simp only [List.getElem_toArray, List.getElem_cons_succ, List.getElem_cons_zero, Act.put, List.setIfInBounds_toArray, List.set_cons_zero, List.set_cons_succ]
        refine wpAnyH_take (i := 7) (v := ?_) rfl (by kernel_rfl) (by kernel_rfl) (by kernel_rfl) (fun _ _ _ h => h) (Yields.yieldsIf (Or.inl ⟨by rfl, ?_⟩)) hHeld ?_
        rotate_left
        · intro W
          go_simp
          try with_reducible rfl
        simp only [List.getElem_toArray, List.getElem_cons_succ, List.getElem_cons_zero, Act.put, List.setIfInBounds_toArray, List.set_cons_zero, List.set_cons_succ]
        have HB1 : Hid (((blkL ac (ac.length / 64)).take (1 : Int).toNat).length = 1) := by unfold Hid; rw [List.length_take, blkL_len, HDL.out]; show min 1 q = 1; omega
        have HB2 : Hid ((blkL ac (ac.length / 64)).take (1 : Int).toNat = (blkL ac q).take 1) := by unfold Hid; rw [HDL.out]; rfl
        have HB3 : Hid (((blkL ac q).take 1).length = 1) := by unfold Hid; rw [← HB2.out]; exact HB1.out
        have HO7 : Hid (w6.ownsRow wr.heap.size 44 16 (.slice (some ⟨g2, 0, none⟩) 1 c2) 1 (flat16 ((blkL ac q).take 1))) := by
          have h1 := own_take HO6.out 1 (by omega)
          rw [← flat16_take] at h1
          exact h1
        refine wpAnyH_ready (rs := [5]) (by kernel_rfl) (by simp) ?_
        refine AllReadyH.cons rfl (fun K hK => ?_) AllReadyH.nil
        refine step_call_w (by rfl) Try.func48 (by kernel_rfl) (by kernel_rfl) #[.tmp 87, .const (.int .i64 1)] #[59, 3] rfl #[.pointer (some ⟨g, 0, none⟩), .int .i64 1] ?hv (lblocksAt_any g _ ac pq lq 1 (by omega) (by omega) _ (by rw [HL.out]; omega) (HS6.out.ext)) ?_
        case hv => go_simp
        rintro e w7 ⟨v7, rfl, ho7, hb7⟩
        refine ⟨_, rfl, ?_⟩
        rw [HB1.out, HB2.out] at ho7
        obtain ⟨A7, c7, rfl, _⟩ := own_slice ho7
        have HO8 := Lib.hid ho7
        have S7 : Step w7 w6.drew := ⟨hb7⟩
        have X67 : Ext w6 w7 := inferInstance
        clear hb7 hHeld ho7
        refine hK.out _ _ X67 (fun hHeld => ?_)
        clear hK K
        simp only [List.getElem_toArray, List.getElem_cons_succ, List.getElem_cons_zero, Act.put, List.setIfInBounds_toArray, List.set_cons_zero, List.set_cons_succ]
        refine wpAnyH_ready (rs := [8]) (by kernel_rfl) (by simp) ?_
        refine AllReadyH.cons rfl (fun K hK => ?_) AllReadyH.nil
        refine step_call_w (by rfl) Try.func47 (by kernel_rfl) (by kernel_rfl) #[.tmp 88, .tmp 90] #[64, 64] rfl #[.slice A7 1 c7, .slice (some ⟨g2, 0, none⟩) 1 c2] ?hv (alike_same A7 (some ⟨g2, 0, none⟩) 1 c7 c2 _ _ ((blkL ac q).take 1) HB3.out (by omega) w7 HO8.out (own_ext HO7.out)) ?_
        case hv => go_simp
        rintro e w8 ⟨rfl, hb8⟩
        refine ⟨_, rfl, ?_⟩
        have S8 : Step w8 w7 := ⟨hb8⟩
        have X68 : Ext w6 w8 := inferInstance
        clear hb8 hHeld
        refine hK.out _ _ X68 (fun hHeld => ?_)
        clear hK K
        simp only [List.getElem_toArray, List.getElem_cons_succ, List.getElem_cons_zero, Act.put, List.setIfInBounds_toArray, List.set_cons_zero, List.set_cons_succ]
        refine wpAnyH_take (i := 9) (v := ?_) rfl (by kernel_rfl) (by kernel_rfl) (by kernel_rfl) (fun _ _ _ h => h) (Yields.yieldsIf (Or.inl ⟨by rfl, ?_⟩)) hHeld ?_
        rotate_left
        · intro W
          go_simp
          try with_reducible rfl
        simp only [List.getElem_toArray, List.getElem_cons_succ, List.getElem_cons_zero, Act.put, List.setIfInBounds_toArray, List.set_cons_zero, List.set_cons_succ]
        refine wpAnyH_take (i := 10) (v := ?_) rfl (by kernel_rfl) (by kernel_rfl) (by kernel_rfl) (fun _ _ _ h => h) (Yields.yieldsIf (Or.inl ⟨by rfl, ?_⟩)) hHeld ?_
        rotate_left
        · intro W
          go_simp
          try with_reducible rfl
        simp only [List.getElem_toArray, List.getElem_cons_succ, List.getElem_cons_zero, Act.put, List.setIfInBounds_toArray, List.set_cons_zero, List.set_cons_succ]
        refine wpAnyH_done (by kernel_rfl) ?_ _
        clear hHeld
        go_wp2_with fail
        refine (awake4_any _).mono ?_
        rintro e w20 ⟨rfl, hb20⟩
        have S20 : Step w20 _ := ⟨hb20⟩
        have HF : Hid (Below w.heap.size w w20) := Ext.out
        clear hb20
        go_wp2
        go_ret
        exact ⟨rfl, HF.out⟩
      · have hqI : ¬ (1 : Int) < (q : Int) := by omega
        refine wp_region_held_drew (S := fun W => Ext w6 W) (by kernel_rfl) (by exact inferInstance) (fun hHeld => ?_)
        refine wpAnyH_take (i := 0) (v := ?_) rfl (by kernel_rfl) (by kernel_rfl) (by kernel_rfl) (fun _ _ _ h => h) (Yields.yieldsIf (Or.inl ⟨by rfl, ?_⟩)) hHeld ?_
        rotate_left
        · intro W
          go_simp
          try with_reducible rfl
        simp only [List.getElem_toArray, List.getElem_cons_succ, List.getElem_cons_zero, Act.put, List.setIfInBounds_toArray, List.set_cons_zero, List.set_cons_succ]
        refine wpAnyH_take (i := 1) (v := ?_) rfl (by kernel_rfl) (by kernel_rfl) (by kernel_rfl) (fun _ _ _ h => h) (Yields.yieldsIf (Or.inl ⟨by rfl, ?_⟩)) hHeld ?_
        rotate_left
        · intro W
          go_simp
          try with_reducible rfl
        simp only [List.getElem_toArray, List.getElem_cons_succ, List.getElem_cons_zero, Act.put, List.setIfInBounds_toArray, List.set_cons_zero, List.set_cons_succ]
        refine wpAnyH_take (i := 2) (v := ?_) rfl (by kernel_rfl) (by kernel_rfl) (by kernel_rfl) (fun _ _ _ h => h) (Yields.yieldsIf (Or.inl ⟨by rfl, ?_⟩)) hHeld ?_
        rotate_left
        · intro W
          go_simp
          try with_reducible rfl
        simp only [List.getElem_toArray, List.getElem_cons_succ, List.getElem_cons_zero, Act.put, List.setIfInBounds_toArray, List.set_cons_zero, List.set_cons_succ]
        refine wpAnyH_take (i := 3) (v := ?_) rfl (by kernel_rfl) (by kernel_rfl) (by kernel_rfl) (fun _ _ _ h => h) (Yields.yieldsIf (Or.inl ⟨by rfl, ?_⟩)) hHeld ?_
        rotate_left
        · intro W
          go_simp
          try with_reducible rfl
        simp only [List.getElem_toArray, List.getElem_cons_succ, List.getElem_cons_zero, Act.put, List.setIfInBounds_toArray, List.set_cons_zero, List.set_cons_succ]
        refine wpAnyH_take (i := 4) (v := undef) rfl (by kernel_rfl) (by kernel_rfl) (by kernel_rfl) (fun _ _ _ h => h) (Yields.yieldsIf (Or.inr ⟨by rfl, rfl⟩)) hHeld ?_
        simp only [List.getElem_toArray, List.getElem_cons_succ, List.getElem_cons_zero, Act.put, List.setIfInBounds_toArray, List.set_cons_zero, List.set_cons_succ]
        refine wpAnyH_take (i := 5) (v := undef) rfl (by kernel_rfl) (by kernel_rfl) (by kernel_rfl) (fun _ _ _ h => h) (Yields.yieldsIf (Or.inr ⟨by rfl, rfl⟩)) hHeld ?_
        simp only [List.getElem_toArray, List.getElem_cons_succ, List.getElem_cons_zero, Act.put, List.setIfInBounds_toArray, List.set_cons_zero, List.set_cons_succ]
        refine wpAnyH_take (i := 6) (v := undef) rfl (by kernel_rfl) (by kernel_rfl) (by kernel_rfl) (fun _ _ _ h => h) (Yields.yieldsIf (Or.inr ⟨by rfl, rfl⟩)) hHeld ?_
        simp only [List.getElem_toArray, List.getElem_cons_succ, List.getElem_cons_zero, Act.put, List.setIfInBounds_toArray, List.set_cons_zero, List.set_cons_succ]
        refine wpAnyH_take (i := 7) (v := undef) rfl (by kernel_rfl) (by kernel_rfl) (by kernel_rfl) (fun _ _ _ h => h) (Yields.yieldsIf (Or.inr ⟨by rfl, rfl⟩)) hHeld ?_
        simp only [List.getElem_toArray, List.getElem_cons_succ, List.getElem_cons_zero, Act.put, List.setIfInBounds_toArray, List.set_cons_zero, List.set_cons_succ]
        refine wpAnyH_take (i := 8) (v := undef) rfl (by kernel_rfl) (by kernel_rfl) (by kernel_rfl) (fun _ _ _ h => h) (Yields.yieldsIf (Or.inr ⟨by rfl, rfl⟩)) hHeld ?_
        simp only [List.getElem_toArray, List.getElem_cons_succ, List.getElem_cons_zero, Act.put, List.setIfInBounds_toArray, List.set_cons_zero, List.set_cons_succ]
        refine wpAnyH_take (i := 9) (v := undef) rfl (by kernel_rfl) (by kernel_rfl) (by kernel_rfl) (fun _ _ _ h => h) (Yields.yieldsIf (Or.inr ⟨by rfl, rfl⟩)) hHeld ?_
        simp only [List.getElem_toArray, List.getElem_cons_succ, List.getElem_cons_zero, Act.put, List.setIfInBounds_toArray, List.set_cons_zero, List.set_cons_succ]
        refine wpAnyH_take (i := 10) (v := ?_) rfl (by kernel_rfl) (by kernel_rfl) (by kernel_rfl) (fun _ _ _ h => h) (Yields.yieldsIf (Or.inl ⟨by rfl, ?_⟩)) hHeld ?_
        rotate_left
        · intro W
          go_simp
          try with_reducible rfl
        simp only [List.getElem_toArray, List.getElem_cons_succ, List.getElem_cons_zero, Act.put, List.setIfInBounds_toArray, List.set_cons_zero, List.set_cons_succ]
        refine wpAnyH_done (by kernel_rfl) ?_ _
        clear hHeld
        go_wp2_with fail
        refine (awake4_any _).mono ?_
        rintro e w20 ⟨rfl, hb20⟩
        have S20 : Step w20 _ := ⟨hb20⟩
        have HF : Hid (Below w.heap.size w w20) := Ext.out
        clear hb20
        go_wp2
        go_ret
        exact ⟨rfl, HF.out⟩
namespace Md5Streams
set_option maxRecDepth 100000 in
theorem walk (W : World) (vs : List Value) (h : Args 1048576 Try.prog W Try.f10.params.toList vs) : Calls Try.prog 10 vs.toArray W fun e W' => e = .returned (.bool true) ∧ Below W.heap.size W W' := by
  rw [Try.params10] at h
  match vs, h with
  | [v0, v1], ⟨h0, h1, _⟩ =>
    obtain ⟨A, n, c, vs, rfl, hl, hn, hv⟩ := Arg.byteSlices h0
    obtain ⟨r, rfl, _⟩ := h1.int Try.underlying3
    exact streams_any A n c r vs hl hn W hv

set_option maxRecDepth 100000 in
theorem lifted (os : Os) (started : os.Started) (H : Type) (enc : TypeId × Value → H) (F : Stop.Interp) :
    ReturnsInHanded {} Try.checked os 10 .any ((Rows.OpenSpec.upto Rows.md5StreamsSpec).pre6 enc Try.prog Try.f10 Rows.md5StreamsUptoRow.domain false) (((Rows.OpenSpec.upto Rows.md5StreamsSpec).at F).post enc Try.prog Try.f10 false true false false) :=
  law_lifted_upto (C := Try.checked) laid_out own_knob started (by kernel_rfl) Try.func10 H enc F rfl
    (fun ds hd => by
      have : ds.length = 2 := hd
      match ds, this with
      | [_, _], _ => exact ⟨rfl, rfl, rfl⟩) rfl Try.underlying4 (by
      have : (Try.f10.params.toList.all fun t => Try.prog.readableRec t && decide (t < Try.prog.types.size)) = true := by kernel_rfl
      intro t ht
      have h := List.all_eq_true.1 this t ht
      rw [Bool.and_eq_true, decide_eq_true_eq] at h
      exact h)
    (OpenSpec.witness (enc := enc) (C := Try.checked) (s := Rows.OpenSpec.upto Rows.md5StreamsSpec) (k := Rows.uptoSmall) rfl false ⟨#[], #[.slice none 0 0, .int .i64 0], []⟩ 8 (by kernel_rfl) (by kernel_rfl) (by kernel_rfl)
      (x := ([.nil, .lit (.int .i64 0)], [], [])) (by kernel_rfl) rfl (by kernel_rfl)) walk

theorem over : Rows.md5StreamsUptoRow.holds Try.pinned (Rows.OpenSpec.upto Rows.md5StreamsSpec) :=
  OpenClaim.holds_of_cond 10 Try.f10 rfl rfl rfl rfl rfl rfl rfl ⟨rfl, rfl, rfl, rfl, rfl⟩ rfl rfl rfl rfl rfl (by kernel_rfl) Try.func10 (by kernel_rfl)
    (of_decide_eq_true (by kernel_rfl)) (by unfold Func.isWrapper; first | (rw [if_pos (by decide +kernel)]; kernel_rfl) | (rw [if_neg (by decide +kernel)]; exact ⟨rfl, rfl⟩))
    (fun os started H enc _ F => lifted os started H enc F)

/-- The statement. -/
theorem proved : Rows.Md5StreamsUptoSaid := over
#print axioms proved
end Md5Streams
end Go.Proofs.Ytmopdimokoogmaa
