/-
  tetherlaw01.OctetReads: whatever is asked of a reader: for every input the call answers true. No condition.
-/
import Derived.Test.YthlfdckcnpnemaaLawNumbers
import Derived.Test.YthlfdckcnpnemaaReader
import Derived.Test.YthlfdckcnpnemaaRow2
namespace Go.Proofs.Ythlfdckcnpnemaa
open Go.RowKit
set_option linter.unusedVariables false
set_option linter.unusedSimpArgs false

/-- A script: what stands at each of its places. -/
structure OpV where
  kind : Int
  n : Int
  B : Option Addr
  bl : Nat
  bc : Nat
  bs : List Int
def OpV.Ok (W : World) (o : OpV) : Prop := o.bs.length = o.bl ∧ o.bl ≤ o.bc ∧ o.bl ≤ 140737488351232 ∧ Cells W o.B (nums .u8 o.bs) ∧ Byt o.bs ∧ -9223372036854775808 ≤ o.n ∧ o.n ≤ 9223372036854775807
def OpsAt (W : World) (A : Option Addr) (l : List OpV) : Prop := ∀ (i : Nat) (o : OpV), l[i]? = some o → o.Ok W ∧ ∃ ad, A = some ad ∧ W.cell? (ad.add (i * 3)) = some (.int .i64 o.kind) ∧
  W.cell? ⟨(ad.add (i * 3)).block, (ad.add (i * 3)).off + 1, none⟩ = some (.int .i64 o.n) ∧ W.cell? ⟨(ad.add (i * 3)).block, (ad.add (i * 3)).off + 2, none⟩ = some (.slice o.B o.bl o.bc)

theorem rdTake_rest {xs : List Int} {E n : Int} {right : Bool} {m : Nat} (hb : Byt xs) (hl : xs.length ≤ m) : Byt (rdTake xs E right n).2.1 ∧ (rdTake xs E right n).2.1.length ≤ m := by
  unfold rdTake
  split
  · exact ⟨hb, hl⟩
  split
  · exact ⟨hb, hl⟩
  split
  · exact ⟨hb, hl⟩
  · exact ⟨hb.drop _, by simp; omega⟩

set_option maxHeartbeats 1000000 in
theorem reads_any (A A1 : Option Addr) (m c n c1 : Nat) (xs : List Int) (l : List OpV) (hm : xs.length = m) (hm' : m ≤ 140737488351232) (hc : m ≤ c) (hn : l.length = n) (hn' : n ≤ 140737488351232) (w : World) (hx : Cells w A (nums .u8 xs)) (hb : Byt xs) (hl : OpsAt w A1 l) :
    Calls Try.prog 6 #[.slice A m c, .slice A1 n c1] w fun e w' => e = .returned (.bool true) ∧ Below w.heap.size w w' := by
  have Hm := Lib.hid hm
  have HN := Lib.hid hn
  have HX := Lib.hid hx
  have HOp := Lib.hid hl
  have HBy := Lib.hid hb
  clear hm hn hx hl hb
  go_enter Try.func6, Try.ntmps6
  go_wp2_with fail
  refine (lent_any A m c xs Hm.out hm' w HX.out).mono ?_
  rintro e w1 ⟨g, cap, rfl, hcap, ho1, hb1⟩
  have HO := Lib.hid ho1
  have HC := Lib.hid (show Cells w1 (some ⟨g, 0, none⟩) (nums .u8 xs) from by have := own_cells ho1; rw [nums_append] at this; exact this.left)
  have HB1 := Lib.hid hb1
  clear ho1 hb1
  go_wp2_with fail
  refine (newReader_any (some ⟨g, 0, none⟩) m cap xs Hm.out (by omega) w1 HC.out).mono ?_
  rintro e w2 ⟨R, D, rfl, hr, hR, hD, hRl, hDl, hb2⟩
  have HR2 := Lib.hid hr
  have HB2 := Lib.hid hb2
  have HO2 := Lib.hid (own_below HO.out hb2)
  clear hr hb2
  go_wp2_with fail
  refine (spoil_any (some ⟨g, 0, none⟩) m cap 0 xs w2 (by omega) ?_).mono ?_
  · have h := own_take HO2.out m (by omega)
    rw [Nat.mul_one, ← nums_take, List.take_left' Hm.out] at h
    exact own_weaken h (Nat.zero_le _)
  rintro e w3 ⟨rfl, hg3⟩
  have hgg : w.heap.size ≤ g ∧ g < w1.heap.size := ⟨own_base HO.out g rfl, own_lt HO.out g rfl⟩
  have HR3 := Lib.hid (HR2.out.grown hg3 (by intro he; injection he with he; have : g = R := he; omega) (by intro he; injection he with he; have : g = D := he; omega))
  have HB3 := Lib.hid (below_grown (below_then HB1.out HB1.out.size HB2.out) (Nat.le_trans HB1.out.size HB2.out.size) hg3 (fun k hk => by injection hk with hk; have : g = k := hk; omega))
  have hz : w.heap.size ≤ w1.heap.size ∧ w1.heap.size ≤ w2.heap.size ∧ w2.heap.size ≤ w3.heap.size := ⟨HB1.out.size, HB2.out.size, hg3.size⟩
  have HG := Lib.hid hgg
  have HZ := Lib.hid hz
  have HRD : Hid (w1.heap.size ≤ R ∧ w1.heap.size ≤ D ∧ R < w2.heap.size ∧ D < w2.heap.size) := ⟨hR, hD, hRl, hDl⟩
  clear hgg hz hg3 hR hD hRl hDl HR2 HO2 HO HC
  go_wp2_with
    (at_builtin
     refine wp_append_cells (w0 := w3.alloc (.cells #[.slice none 0 0, .int .i64 0] 46)) (w3.heap.size + 1) rfl (.tmp 26) (.tmp 27) 22 5 (.int .u8 0) 1 1 rfl Try.underlying22 info_u8 rfl (by decide) (by decide) (.slice none 0 0) 0 [] A m c (nums .u8 xs) rfl rfl ?_ (nums_one _ _) (own_nil _ _ _ _) ((HX.out.below HB3.out).alloc _) (Below.refl _ _) (by simp) ?_ ?_
     · rw [nums_length, Hm.out, Nat.mul_one]
     · omega
     intro v4 w4 ho4 hb4 _ _
     rw [List.nil_append, Nat.zero_add] at ho4
     obtain ⟨A4, c4, rfl, hc4⟩ := own_slice ho4
     have hS0 : w4.heap[w3.heap.size]? = some (.cells #[.slice none 0 0, .int .i64 0] 46 (0, 0)) := (hb4.block w3.heap.size (by omega)).trans (heap_alloc_new w3 _)
     have hSc := blk_cell hS0 0
     simp at hSc
     have hSf := blk_frozen hS0 0
     have HS0 := Lib.hid hS0
     have HO4 := Lib.hid ho4
     have HB4 := Lib.hid hb4
     clear hS0 ho4 hb4)
  have hz := HZ.out
  have hrd := HRD.out
  have hRD : D ≠ R := by obtain ⟨_, _, _, _, _, _, _, h6⟩ := HR3.out; exact h6
  obtain ⟨D4, hD4⟩ : ∃ D4, (∀ ad, A4 = some ad → ad.block = D4) ∧ D4 ≠ w3.heap.size ∧ D4 ≠ R ∧ D4 < w4.heap.size := by
    have hz4 := HB4.out.size
    simp at hz4
    rcases A4 with _ | ad
    · exact ⟨D, (fun ad h => by cases h), by omega, hRD, by omega⟩
    · have h1 := own_base HO4.out ad.block rfl
      exact ⟨ad.block, (fun ad' h => by injection h with h; rw [h]), by omega, by omega, own_lt HO4.out ad.block rfl⟩
  have HS5 : Hid (RdSt (w4.setCell ⟨w3.heap.size, 0, none⟩ (.slice A4 m c4)) w3.heap.size D4 46 xs 0) :=
    ⟨A4, c4, by rw [Hm.out]; exact blk_set HS0.out 0 _, by rw [Hm.out]; exact hc4, own_cap HO4.out, (own_cells HO4.out).grown (grown_setCell (p := ⟨w3.heap.size, 0, none⟩) (grown_refl _ (some w3.heap.size)) (.inr rfl) _) (fun ad h => by
      rw [hD4.1 ad h]
      intro he
      injection he with he
      exact hD4.2.1 he), hD4.1, hD4.2.1⟩
  have HB5 : Hid (Below w3.heap.size w3 (w4.setCell ⟨w3.heap.size, 0, none⟩ (.slice A4 m c4))) :=
    (((Below.refl _ _).alloc (Nat.le_refl _) _).trans (HB4.out.mono (by omega))).setCell (p := ⟨w3.heap.size, 0, none⟩) (Nat.le_refl _) _
  have HR5 := Lib.hid (HR3.out.below HB5.out)
  have HBw := Lib.hid (below_then HB3.out (by omega) HB5.out)
  have HS3 : Hid (w.heap.size ≤ w3.heap.size) := by have := HZ.out; unfold Hid; omega
  have HDist : Hid (R < w3.heap.size ∧ D < w3.heap.size ∧ D4 ≠ w3.heap.size ∧ D4 ≠ R ∧ D4 < w4.heap.size ∧ w.heap.size ≤ R ∧ w.heap.size ≤ D ∧ w.heap.size ≤ w3.heap.size) := by
    unfold Hid
    omega
  have hz5 : (w4.setCell ⟨w3.heap.size, 0, none⟩ (.slice A4 m c4)).heap.size = w4.heap.size := World.size_setCell _ _ _
  have HDist5 := HDist.out
  rw [← hz5] at HDist5
  have HDist := Lib.hid HDist5
  clear HDist5 hz5 hRD
  generalize (w4.setCell ⟨w3.heap.size, 0, none⟩ (.slice A4 m c4)) = w5 at *
  clear hD4 hz hrd HB4 HO4 HS0 hc4 hSc hSf HB5 HRD HR3 HB3 HG HB1 HB2 HZ HS3
  generalize w3.heap.size = S at *
  go_loopw [8] (fun i wr => ∃ (k : Nat) (ys : List Int) (E : Int), i = .int .i64 k ∧ k ≤ n ∧ Hid (RdSt wr R D 79 ys E) ∧ Hid (RdSt wr S D4 46 ys E) ∧ Hid (Byt ys) ∧ Hid (ys.length ≤ m) ∧ Hid (Below w.heap.size w5 wr)) (fun i _ => n - (intOf i).toNat)
  case atStart => exact ⟨0, xs, 0, rfl, by omega, HR5.out, HS5.out, HBy.out, by rw [Hm.out]; exact Nat.le_refl _, Below.refl _ _⟩
  case round =>
    obtain ⟨k, ys, E, rfl, hk, hR, hS, hY, hYl, hW⟩ := hrel
    have hWw := Lib.hid (HBw.out.trans hW.out)
    by_cases hlt : k < n
    · have hlk : k < l.length := by rw [HN.out]; exact hlt
      obtain ⟨hok, ad, rfl, hc0, hc1, _⟩ := HOp.out k l[k] (List.getElem?_eq_getElem hlk)
      have hc0' := (hWw.out.cell (World.block_lt_of_cell? w _ hc0)).trans hc0
      have hc1' := (hWw.out.cell (World.block_lt_of_cell? w _ hc1)).trans hc1
      obtain ⟨_, _, _, _, _, hN0, hN1⟩ := hok
      generalize l[k].kind = K at *
      generalize l[k].n = N at *
      clear hc0 hc1
      by_cases hK0 : K = 0
      · subst hK0
        go_wp2_with fail
        refine (num_any R D ys E N hN0 hN1 hY.out (by have := hYl.out; omega) wr hR.out).mono ?_
        rintro e w6 ⟨rfl, hR6, hg6⟩
        have HR6 := Lib.hid hR6
        have HS6 := Lib.hid (hS.out.grown hg6 (by intro he; injection he with he; have := HDist.out; omega) (by intro he; injection he with he; have := HDist.out; omega))
        have HB6 := Lib.hid (below_grown hW.out hWw.out.size hg6 (fun b hb => by injection hb with hb; have := HDist.out; omega))
        clear hR6 hg6
        go_wp2_with fail
        refine (rnum_any S D4 ys E N hN0 hN1 hY.out (by have := hYl.out; omega) w6 HS6.out).mono ?_
        rintro e w7 ⟨rfl, hS7, hg7⟩
        have HS7 := Lib.hid hS7
        have HR7 := Lib.hid (HR6.out.grown hg7 (by intro he; injection he with he; have := HDist.out; omega) (by intro he; injection he with he; have := HDist.out; omega))
        have HB7 := Lib.hid (below_grown HB6.out (Nat.le_trans HBw.out.size HB6.out.size) hg7 (fun b hb => by injection hb with hb; have := HDist.out; omega))
        clear hS7 hg7
        generalize getN (rdTake ys E (decide (1 ≤ N) && decide (N ≤ 8)) N).1 = G at *
        have HTr := Lib.hid (rdTake_rest (E := E) (right := (decide (1 ≤ N) && decide (N ≤ 8))) (n := N) hY.out hYl.out)
        generalize rdTake ys E (decide (1 ≤ N) && decide (N ≤ 8)) N = T at *
        go_wp2_with fail
        have hse : w7.cell? ⟨S, 1, none⟩ = some (.int .i64 T.2.2) := by
          obtain ⟨_, _, hh, _⟩ := HS7.out
          have := blk_cell hh 1
          simpa using this
        go_quiet (first | (go_at_call 33; exact Calls.quiet_of_same (left_any R D _ _ _ (HR7.out.drawn ⟨_, rfl⟩))) | (go_at_call 32; exact Calls.quiet_of_same (rleft_any S D4 _ _ _ (HS7.out.drawn ⟨_, rfl⟩))) | (go_at_call 34; exact Calls.quiet_of_same (err_any R D _ _ _ (HR7.out.drawn ⟨_, rfl⟩))))
        go_wp2
        go_roundw
        case rel => exact ⟨k + 1, T.2.1, T.2.2, by go_num, by omega, HR7.out.drawn ⟨_, rfl⟩, HS7.out.drawn ⟨_, rfl⟩, HTr.out.1, HTr.out.2, below_drewN HB7.out _⟩
        case measure => simp [intOf]; omega
      by_cases hK1 : K = 1
      · subst hK1
        go_wp2_with fail
        refine (take_any R D ys E N hN0 hN1 (by have := hYl.out; omega) wr hR.out).mono ?_
        rintro e w6 ⟨v6, rfl, ho6, hR6, hg6⟩
        have HR6 := Lib.hid hR6
        have HS6 := Lib.hid (hS.out.grown hg6 (by intro he; injection he with he; have := HDist.out; omega) (by intro he; injection he with he; have := HDist.out; omega))
        have HB6 := Lib.hid (below_grown hW.out hWw.out.size hg6 (fun b hb => by injection hb with hb; have := HDist.out; omega))
        have HZ6 : Hid (wr.heap.size ≤ w6.heap.size) := hg6.size
        have HO6 := Lib.hid ho6
        clear hR6 hg6 ho6
        go_wp2_with fail
        refine (rtake_any S D4 ys E N hN0 hN1 (by have := hYl.out; omega) w6 HS6.out).mono ?_
        rintro e w7 ⟨v7, rfl, ho7, hS7, hg7⟩
        have HTr := Lib.hid (rdTake_rest (E := E) (right := decide (0 ≤ N)) (n := N) hY.out hYl.out)
        have HTo : Hid ((rdTake ys E (decide (0 ≤ N)) N).1.length ≤ m) := Nat.le_trans rdTake_len hYl.out
        generalize rdTake ys E (decide (0 ≤ N)) N = T at *
        obtain ⟨q, hq⟩ : ∃ q, T.1.length = q := ⟨_, rfl⟩
        have ho6 := HO6.out
        rw [hq] at ho6 ho7
        obtain ⟨A6, c6, rfl, hc6⟩ := own_slice ho6
        obtain ⟨A7, c7, rfl, hc7⟩ := own_slice ho7
        have hql : q ≤ m := by rw [← hq]; exact HTo.out
        have HQ := Lib.hid hq
        have HS7 := Lib.hid hS7
        have HR7 := Lib.hid (HR6.out.grown hg7 (by intro he; injection he with he; have := HDist.out; omega) (by intro he; injection he with he; have := HDist.out; omega))
        have HB7 := Lib.hid (below_grown HB6.out (Nat.le_trans HBw.out.size HB6.out.size) hg7 (fun b hb => by injection hb with hb; have := HDist.out; omega))
        have hSl : S < wr.heap.size := hS.out.lt
        have HO6' := Lib.hid (own_grown ho6 hg7 (by
          rcases hv : (Value.slice A6 q c6).ownBlock with _ | b
          · exact .inl rfl
          · refine .inr fun he => ?_
            injection he with he
            have := own_base ho6 b hv
            omega))
        have HO7 := Lib.hid ho7
        clear hS7 hg7 ho7 ho6 HO6 hq
        go_wp2_with fail
        refine (same_any A6 A7 q q c6 c7 T.1 T.1 HQ.out HQ.out (by omega) (by omega) w7 (own_cells HO6'.out) (own_cells HO7.out)).mono ?_
        rintro e w8 ⟨rfl, hd8⟩
        simp only [decide_true]
        have HO8 := Lib.hid (own_drawn HO6'.out hd8)
        have HR8 := Lib.hid (HR7.out.drawn hd8)
        have HS8 := Lib.hid (HS7.out.drawn hd8)
        have HB8 := Lib.hid (below_drawn HB7.out hd8)
        clear hd8
        go_wp2_with fail
        refine (spoil_any A6 q c6 wr.heap.size T.1 w8 (by omega) HO8.out).mono ?_
        rintro e w9 ⟨rfl, hg9⟩
        have hne : ∀ b, b < wr.heap.size → (Value.slice A6 q c6).ownBlock ≠ some b := fun b hb he => by
          have := own_base HO8.out b he
          omega
        have hDl : R < wr.heap.size ∧ D < S ∧ D4 < wr.heap.size := by have := hR.out.lt; have := HDist.out; have := hW.out.size; omega
        have HR9 := Lib.hid (HR8.out.grown hg9 (hne R hDl.1) (hne D (by omega)))
        have HS9 : Hid (RdSt w9 S D4 46 T.2.1 T.2.2) := by
          exact HS8.out.grown hg9 (hne S hSl) (hne D4 hDl.2.2)
        have HB9 := Lib.hid (below_grown HB8.out (Nat.le_trans HBw.out.size HB8.out.size) hg9 (fun b hb => by have := own_base HO8.out b hb; have := hWw.out.size; omega))
        clear hg9 hne hDl hSl
        go_wp2_with fail
        have hse : w9.cell? ⟨S, 1, none⟩ = some (.int .i64 T.2.2) := by
          obtain ⟨_, _, hh, _⟩ := HS9.out
          have := blk_cell hh 1
          simpa using this
        go_quiet (first | (go_at_call 33; exact Calls.quiet_of_same (left_any R D _ _ _ (HR9.out.drawn ⟨_, rfl⟩))) | (go_at_call 32; exact Calls.quiet_of_same (rleft_any S D4 _ _ _ (HS9.out.drawn ⟨_, rfl⟩))) | (go_at_call 34; exact Calls.quiet_of_same (err_any R D _ _ _ (HR9.out.drawn ⟨_, rfl⟩))))
        go_wp2
        go_roundw
        case rel => exact ⟨k + 1, T.2.1, T.2.2, by go_num, by omega, HR9.out.drawn ⟨_, rfl⟩, HS9.out.drawn ⟨_, rfl⟩, HTr.out.1, HTr.out.2, below_drewN HB9.out _⟩
        case measure => simp [intOf]; omega
      by_cases hK2 : K = 2
      · subst hK2
        go_wp2_with fail
        refine (rest_any R D ys E (by have := hYl.out; omega) wr hR.out).mono ?_
        rintro e w6 ⟨v6, rfl, ho6, hR6, hg6⟩
        have HR6 := Lib.hid hR6
        have HS6 := Lib.hid (hS.out.grown hg6 (by intro he; injection he with he; have := HDist.out; omega) (by intro he; injection he with he; have := HDist.out; omega))
        have HB6 := Lib.hid (below_grown hW.out hWw.out.size hg6 (fun b hb => by injection hb with hb; have := HDist.out; omega))
        have HZ6 : Hid (wr.heap.size ≤ w6.heap.size) := hg6.size
        have HO6 := Lib.hid ho6
        clear hR6 hg6 ho6
        go_wp2_with fail
        refine (rleft_any S D4 ys E w6 HS6.out).mono ?_
        rintro e w6' ⟨rfl, rfl⟩
        have hL0 : 0 ≤ rdLeft ys E ∧ rdLeft ys E ≤ (m : Int) := by
          have := hYl.out
          unfold rdLeft
          split <;> omega
        generalize rdLeft ys E = N2 at *
        go_wp2_with fail
        refine (rtake_any S D4 ys E N2 (by omega) (by omega) (by have := hYl.out; omega) w6' HS6.out).mono ?_
        rintro e w7 ⟨v7, rfl, ho7, hS7, hg7⟩
        rw [decide_eq_true hL0.1] at ho7 hS7
        have HTr := Lib.hid (rdTake_rest (E := E) (right := true) (n := N2) hY.out hYl.out)
        have HTo : Hid ((rdTake ys E true N2).1.length ≤ m) := Nat.le_trans rdTake_len hYl.out
        generalize rdTake ys E true N2 = T at *
        clear hL0
        obtain ⟨q, hq⟩ : ∃ q, T.1.length = q := ⟨_, rfl⟩
        have ho6 := HO6.out
        rw [hq] at ho6 ho7
        obtain ⟨A6, c6, rfl, hc6⟩ := own_slice ho6
        obtain ⟨A7, c7, rfl, hc7⟩ := own_slice ho7
        have hql : q ≤ m := by rw [← hq]; exact HTo.out
        have HQ := Lib.hid hq
        have HS7 := Lib.hid hS7
        have HR7 := Lib.hid (HR6.out.grown hg7 (by intro he; injection he with he; have := HDist.out; omega) (by intro he; injection he with he; have := HDist.out; omega))
        have HB7 := Lib.hid (below_grown HB6.out (Nat.le_trans HBw.out.size HB6.out.size) hg7 (fun b hb => by injection hb with hb; have := HDist.out; omega))
        have hSl : S < wr.heap.size := hS.out.lt
        have HO6' := Lib.hid (own_grown ho6 hg7 (by
          rcases hv : (Value.slice A6 q c6).ownBlock with _ | b
          · exact .inl rfl
          · refine .inr fun he => ?_
            injection he with he
            have := own_base ho6 b hv
            omega))
        have HO7 := Lib.hid ho7
        clear hS7 hg7 ho7 ho6 HO6 hq
        go_wp2_with fail
        refine (same_any A6 A7 q q c6 c7 T.1 T.1 HQ.out HQ.out (by omega) (by omega) w7 (own_cells HO6'.out) (own_cells HO7.out)).mono ?_
        rintro e w8 ⟨rfl, hd8⟩
        simp only [decide_true]
        have HO8 := Lib.hid (own_drawn HO6'.out hd8)
        have HR8 := Lib.hid (HR7.out.drawn hd8)
        have HS8 := Lib.hid (HS7.out.drawn hd8)
        have HB8 := Lib.hid (below_drawn HB7.out hd8)
        clear hd8
        go_wp2_with fail
        refine (spoil_any A6 q c6 wr.heap.size T.1 w8 (by omega) HO8.out).mono ?_
        rintro e w9 ⟨rfl, hg9⟩
        have hne : ∀ b, b < wr.heap.size → (Value.slice A6 q c6).ownBlock ≠ some b := fun b hb he => by
          have := own_base HO8.out b he
          omega
        have hDl : R < wr.heap.size ∧ D < S ∧ D4 < wr.heap.size := by have := hR.out.lt; have := HDist.out; have := hW.out.size; omega
        have HR9 := Lib.hid (HR8.out.grown hg9 (hne R hDl.1) (hne D (by omega)))
        have HS9 : Hid (RdSt w9 S D4 46 T.2.1 T.2.2) := by
          exact HS8.out.grown hg9 (hne S hSl) (hne D4 hDl.2.2)
        have HB9 := Lib.hid (below_grown HB8.out (Nat.le_trans HBw.out.size HB8.out.size) hg9 (fun b hb => by have := own_base HO8.out b hb; have := hWw.out.size; omega))
        clear hg9 hne hDl hSl
        go_wp2_with fail
        have hse : w9.cell? ⟨S, 1, none⟩ = some (.int .i64 T.2.2) := by
          obtain ⟨_, _, hh, _⟩ := HS9.out
          have := blk_cell hh 1
          simpa using this
        go_quiet (first | (go_at_call 33; exact Calls.quiet_of_same (left_any R D _ _ _ (HR9.out.drawn ⟨_, rfl⟩))) | (go_at_call 32; exact Calls.quiet_of_same (rleft_any S D4 _ _ _ (HS9.out.drawn ⟨_, rfl⟩))) | (go_at_call 34; exact Calls.quiet_of_same (err_any R D _ _ _ (HR9.out.drawn ⟨_, rfl⟩))))
        go_wp2
        go_roundw
        case rel => exact ⟨k + 1, T.2.1, T.2.2, by go_num, by omega, HR9.out.drawn ⟨_, rfl⟩, HS9.out.drawn ⟨_, rfl⟩, HTr.out.1, HTr.out.2, below_drewN HB9.out _⟩
        case measure => simp [intOf]; omega
      have hK0' : (K == 0) = false := by simpa using hK0
      have hK1' : (K == 1) = false := by simpa using hK1
      have hK2' : (K == 2) = false := by simpa using hK2
      clear hK0 hK1 hK2
      obtain ⟨T, hT⟩ : ∃ T : List Int × List Int × Int, T = ([], ys, E) := ⟨_, rfl⟩
      have HTr : Hid (Byt T.2.1 ∧ T.2.1.length ≤ m) := by rw [hT]; exact ⟨hY.out, hYl.out⟩
      have HR9 : Hid (RdSt wr R D 79 T.2.1 T.2.2) := by rw [hT]; exact hR.out
      have HS9 : Hid (RdSt wr S D4 46 T.2.1 T.2.2) := by rw [hT]; exact hS.out
      clear hT
      go_wp2_with fail
      have hse : wr.cell? ⟨S, 1, none⟩ = some (.int .i64 T.2.2) := by
        obtain ⟨_, _, hh, _⟩ := HS9.out
        have := blk_cell hh 1
        simpa using this
      go_quiet (first | (go_at_call 33; exact Calls.quiet_of_same (left_any R D _ _ _ (HR9.out.drawn ⟨_, rfl⟩))) | (go_at_call 32; exact Calls.quiet_of_same (rleft_any S D4 _ _ _ (HS9.out.drawn ⟨_, rfl⟩))) | (go_at_call 34; exact Calls.quiet_of_same (err_any R D _ _ _ (HR9.out.drawn ⟨_, rfl⟩))))
      go_wp2
      go_roundw
      case rel => exact ⟨k + 1, T.2.1, T.2.2, by go_num, by omega, HR9.out.drawn ⟨_, rfl⟩, HS9.out.drawn ⟨_, rfl⟩, HTr.out.1, HTr.out.2, below_drewN hW.out _⟩
      case measure => simp [intOf]; omega
    · go_wp2_with fail
      refine (known01_any _).mono ?_
      rintro e w9 ⟨rfl, hb9⟩
      have HB9 := Lib.hid (below_then hWw.out hWw.out.size hb9)
      clear hb9
      go_wp2_with fail
      go_ret
      exact ⟨rfl, HB9.out⟩
theorem cells_op : Try.prog.cellsOf 48 = 3 := by kernel_rfl
theorem bytes_op : Try.prog.bytesOf 48 = 40 := by kernel_rfl
theorem cells_int : Try.prog.cellsOf 3 = 1 := by kernel_rfl
theorem cells_u8s : Try.prog.cellsOf 22 = 1 := by kernel_rfl
theorem op_of {W : World} {es : List Value} (h : ArgC Try.prog W 48 es) : ∃ o : OpV, es = [.int .i64 o.kind, .int .i64 o.n, .slice o.B o.bl o.bc] ∧ o.Ok W := by
  have hl := h.len Try.underlying48
  rw [cells_op] at hl
  match es, hl with
  | [x, y, z], _ =>
    have h0 : ArgC Try.prog W 3 (([x, y, z].drop 0).take (Try.prog.cellsOf 3)) := h.field Try.underlying48 (i := 0) rfl
    have h1 : ArgC Try.prog W 3 (([x, y, z].drop 1).take (Try.prog.cellsOf 3)) := h.field Try.underlying48 (i := 1) rfl
    have h2 : ArgC Try.prog W 22 (([x, y, z].drop 2).take (Try.prog.cellsOf 22)) := h.field Try.underlying48 (i := 2) rfl
    rw [cells_int] at h0 h1
    rw [cells_u8s] at h2
    obtain ⟨a, ha, wa⟩ := h0.int Try.underlying3
    obtain ⟨b, hb, wb⟩ := h1.int Try.underlying3
    obtain ⟨A, n, c, xs, hz, hl, hnc, _, hbb, _, hC, hw⟩ := h2.nums Try.underlying22 Try.underlying5 cells_u8
    injection ha with ha
    injection hb with hb
    injection hz with hz
    subst ha hb hz
    rw [bytes_u8, Nat.mul_one] at hbb
    exact ⟨⟨a, b, A, n, c, xs⟩, rfl, hl, hnc, hbb, hC, fun x hx => wf_u8 (hw x hx), (wf_i64 wb).1, (wf_i64 wb).2⟩
theorem ops_of {W : World} {v : Value} (h : Arg Try.prog W 41 v) : ∃ A n c l, v = .slice A n c ∧ l.length = n ∧ n ≤ 140737488351232 ∧ OpsAt W A l := by
  obtain ⟨A', n', c', rfl⟩ := h.slice_shape Try.underlying41
  obtain ⟨A, n, c, h1, hnc, _, hbb, _, hall⟩ := h.2.slice Try.underlying41
  simp [Value.cells] at h1
  obtain ⟨rfl, rfl, rfl⟩ := h1
  rw [bytes_op] at hbb
  have hex : ∀ i, i < n' → ∃ o : OpV, o.Ok W ∧ ∃ ad, A' = some ad ∧ W.cell? (ad.add (i * 3)) = some (.int .i64 o.kind) ∧
      W.cell? ⟨(ad.add (i * 3)).block, (ad.add (i * 3)).off + 1, none⟩ = some (.int .i64 o.n) ∧ W.cell? ⟨(ad.add (i * 3)).block, (ad.add (i * 3)).off + 2, none⟩ = some (.slice o.B o.bl o.bc) := by
    intro i hi
    obtain ⟨ad, es, hA, _, hcell, harg⟩ := hall i hi
    obtain ⟨o, rfl, ho⟩ := op_of harg
    rw [cells_op] at hcell
    refine ⟨o, ho, ad, hA, hcell 0 _ rfl, ?_, ?_⟩
    · have := hcell 1 _ rfl
      rwa [← add_of_add, show ∀ a : Addr, a.add 1 = ⟨a.block, a.off + 1, none⟩ from fun a => by simp [Addr.add]] at this
    · have := hcell 2 _ rfl
      rwa [← add_of_add, show ∀ a : Addr, a.add 2 = ⟨a.block, a.off + 2, none⟩ from fun a => by simp [Addr.add]] at this
  obtain ⟨l, hl, hq⟩ := list_of hex
  exact ⟨A', n', c', l, rfl, hl, by omega, fun i o ho => hq i o ho⟩

namespace OctetReads
theorem walk (W : World) (vs : List Value) (h : Args Try.prog W Try.f6.params.toList vs) : Calls Try.prog 6 vs.toArray W fun e W' => e = .returned (.bool true) ∧ Below W.heap.size W W' := by
  rw [Try.params6] at h
  match vs, h with
  | [v0, v1], ⟨h0, h1, _⟩ =>
    obtain ⟨A, n, c, xs, rfl, hl, hnc, hn, hC, hB⟩ := h0.bytes Try.underlying22 Try.underlying5 cells_u8 bytes_u8
    obtain ⟨A1, n1, c1, l, rfl, hl1, hn1, hO⟩ := ops_of h1
    exact reads_any A A1 n c n1 c1 xs l hl hn hnc hl1 hn1 W hC hB hO

set_option maxRecDepth 100000 in
theorem lifted (os : Os) (started : os.Started) (H : Type) (enc : TypeId × Value → H) :
    ReturnsInHanded {} Try.checked os 6 .any (Rows.octetReadsSpec.pre6 enc Try.prog Try.f6 Rows.octetReadsRow.domain false) (Rows.octetReadsSpec.post enc Try.prog Try.f6 false true false false) :=
  law_lifted (C := Try.checked) laid_out own_knob started (by kernel_rfl) Try.func6 H enc rfl
    (fun ds hd => by
      have : ds.length = 2 := hd
      match ds, this with
      | [_, _], _ => exact ⟨rfl, rfl, rfl⟩) rfl Try.underlying4 (by
      have : (Try.f6.params.toList.all fun t => Try.prog.readableRec t && decide (t < Try.prog.types.size)) = true := by kernel_rfl
      intro t ht
      have h := List.all_eq_true.1 this t ht
      rw [Bool.and_eq_true, decide_eq_true_eq] at h
      exact h)
    (ChangeSpec.witness6 (enc := enc) (C := Try.checked) false ⟨#[], #[.slice none 0 0, .slice none 0 0], []⟩ 8 (by kernel_rfl) (by kernel_rfl) (by kernel_rfl) (by kernel_rfl)) walk

theorem over : Rows.octetReadsRow.holds Try.pinned (OpenSpec.ofChange Rows.octetReadsSpec) :=
  OpenClaim.holds_of_wide 6 Try.f6 rfl rfl rfl rfl rfl rfl rfl ⟨rfl, rfl, rfl, rfl, rfl⟩ rfl rfl rfl rfl rfl (by kernel_rfl) Try.func6 (by kernel_rfl)
    (of_decide_eq_true (by kernel_rfl)) (by unfold Func.isWrapper; first | (rw [if_pos (by decide +kernel)]; kernel_rfl) | (rw [if_neg (by decide +kernel)]; exact ⟨rfl, rfl⟩))
    (fun os started H enc _ => lifted os started H enc)

/-- The statement. -/
theorem proved : Rows.OctetReadsSaid := over
#print axioms proved
end OctetReads
end Go.Proofs.Ythlfdckcnpnemaa
