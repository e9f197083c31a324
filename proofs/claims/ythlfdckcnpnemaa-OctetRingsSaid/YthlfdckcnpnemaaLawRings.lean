/-
  tetherlaw01.OctetRings: whatever is written into a ring and read out: for every input the call answers true. No condition.
-/
import Derived.Test.YthlfdckcnpnemaaLawReads
import Derived.Test.YthlfdckcnpnemaaRRing
import Derived.Deep.RegionWith
namespace Go.Proofs.Ythlfdckcnpnemaa
open Go.RowKit
set_option linter.unusedVariables false
set_option linter.unusedSimpArgs false

theorem ringWrite_any (R D room bl bc n : Nat) (B : Option Addr) (q bs : List Int) (w : World) (h : RgSt w R D room 83 5 q) (hbl : bs.length = bl) (hblc : bl ≤ bc) (hbl' : bl ≤ 140737488355200) (hn : n = min bl (room - q.length)) (hb : Byt bs) (hB : Cells w B (nums .u8 bs)) (hBR : ∀ ad, B = some ad → ad.block ≠ R ∧ ad.block ≠ D) :
    Calls Try.prog 36 #[.pointer (some ⟨R, 0, none⟩), .slice B bl bc] w fun e w' => e = .returned (.int .i64 n) ∧ RgSt w' R D room 83 5 (q ++ bs.take n) ∧ KeepTwo w w' R D := by
  obtain ⟨buf, i, h1, h2, h3, h4, h5, h6, h7⟩ := h
  have hq := h5.1
  have hi := h5.2.1
  exact ringWrite_core R D room i q.length ((i + q.length) % room) n bl bc B q buf bs rfl w (by omega) (by omega) h4 hbl hblc hbl' rfl hn h1 h2 h3 h5 h6 h7 hb hB hBR
theorem Drawn.one (w : World) : Drawn w w.drew := ⟨1, rfl⟩
theorem own_keep {w w1 : World} {base n size : Nat} {e : TypeId} {v : Value} {cs : List Value} (h : w.ownsRow base e size v n cs) (hk : ∀ g, v.ownBlock = some g → w1.heap[g]? = w.heap[g]?) : w1.ownsRow base e size v n cs := by
  obtain ⟨h1, h2 | ⟨g, cap, cur, rfl, hb, hg, hn, hc, hs, ht⟩⟩ := h
  · exact ⟨h1, .inl h2⟩
  · exact ⟨h1, .inr ⟨g, cap, cur, rfl, hb, (hk g rfl).trans hg, hn, hc, hs, ht⟩⟩
def PRD (lo R D : Nat) (b : Nat) : Prop := lo ≤ b ∧ b ≠ R ∧ b ≠ D
theorem RrSt.spoil {w w1 : World} {S room : Nat} {T : TypeId} {P : Nat → Prop} {q : List Int} {v : Value} (h : RrSt w S T room P q) (hg : w.grownBy w1 v.ownBlock) (hv : ∀ g, v.ownBlock = some g → g ≠ S ∧ ∀ b, P b → b ≠ g) : RrSt w1 S T room P q := by
  rcases he : v.ownBlock with _ | g
  · rw [he] at hg
    exact h.below (below_grown (Below.refl _ _) (Nat.le_refl _) hg fun k hk => by cases hk)
  · rw [he] at hg
    exact h.off hg (hv g he).1 (hv g he).2
theorem RgSt.facts {w : World} {R D room : Nat} {T E : TypeId} {q : List Int} (h : RgSt w R D room T E q) : q.length ≤ room ∧ room ≤ 65536 ∧ R < w.heap.size ∧ D < w.heap.size ∧ D ≠ R := by
  obtain ⟨buf, i, h1, h2, h3, h4, h5, h6, h7⟩ := h
  have hq := h5.1
  exact ⟨by omega, h4, blk_lt h1, blk_lt h2, h7⟩

set_option maxHeartbeats 4000000 in
set_option maxRecDepth 100000 in
theorem rings_any (A1 : Option Addr) (room : Int) (n c1 : Nat) (l : List OpV) (hn : l.length = n) (hn' : n ≤ 140737488351232) (h0 : -9223372036854775808 ≤ room) (h0' : room ≤ 9223372036854775807) (w : World) (hl : OpsAt w A1 l) :
    Calls Try.prog 7 #[.int .i64 room, .slice A1 n c1] w fun e w' => e = .returned (.bool true) ∧ Below w.heap.size w w' := by
  have HN := Lib.hid hn
  have HOp := Lib.hid hl
  clear hn hl
  by_cases hbad : room < 1 ∨ 65536 < room
  · by_cases h1 : room < 1
    · go_enter Try.func7, Try.ntmps7
      go_wp2_with fail
      refine (newRing_bad room h0 h0' hbad w).mono ?_
      rintro e w1 ⟨rfl, rfl⟩
      clear hbad
      go_wp2_with fail
      refine (known01_any _).mono ?_
      rintro e w9 ⟨rfl, hb9⟩
      have HB9 := Lib.hid hb9
      clear hb9
      go_wp2_with fail
      go_ret
      exact ⟨rfl, HB9.out⟩
    · have h2 : 65536 < room := by omega
      go_enter Try.func7, Try.ntmps7
      go_wp2_with fail
      refine (newRing_bad room h0 h0' hbad w).mono ?_
      rintro e w1 ⟨rfl, rfl⟩
      clear hbad
      go_wp2_with fail
      refine (known01_any _).mono ?_
      rintro e w9 ⟨rfl, hb9⟩
      have HB9 := Lib.hid hb9
      clear hb9
      go_wp2_with fail
      go_ret
      exact ⟨rfl, HB9.out⟩
  obtain ⟨rm, rfl⟩ := Int.eq_ofNat_of_zero_le (show 0 ≤ room by omega)
  have hr1 : 1 ≤ rm := by omega
  have hr2 : rm ≤ 65536 := by omega
  clear hbad h0 h0'
  go_enter Try.func7, Try.ntmps7
  go_wp2_with fail
  refine (newRing_ok rm hr1 hr2 w).mono ?_
  rintro e w1 ⟨R, D, rfl, hr, hR, hD, hb1⟩
  have HR1 := Lib.hid hr
  have HB1 := Lib.hid hb1
  clear hr hb1
  go_wp2_with fail
  have hf := HR1.out.facts
  have hRS : Hid (RgSt (w1.alloc (.cells #[.int .i64 rm, .slice none 0 0] 59)) R D rm 83 5 []) := HR1.out.below ((Below.refl _ _).alloc (Nat.le_refl _) _)
  have hSS : Hid (RrSt (w1.alloc (.cells #[.int .i64 rm, .slice none 0 0] 59)) w1.heap.size 59 rm (PRD w.heap.size R D) []) :=
    ⟨none, 0, heap_alloc_new w1 _, Nat.le_refl _, by omega, Cells.nil_ _ _, fun ad h => by cases h⟩
  have HBw : Hid (Below w.heap.size w (w1.alloc (.cells #[.int .i64 rm, .slice none 0 0] 59))) := HB1.out.alloc HB1.out.size _
  have HDist : Hid (w.heap.size ≤ R ∧ w.heap.size ≤ D ∧ w.heap.size ≤ w1.heap.size ∧ R < w1.heap.size ∧ D < w1.heap.size ∧ D ≠ R) := ⟨hR, hD, HB1.out.size, hf.2.2.1, hf.2.2.2.1, hf.2.2.2.2⟩
  generalize hw5 : (w1.alloc (.cells #[.int .i64 rm, .slice none 0 0] 59)) = w5 at *
  clear hw5 hf hR hD HR1 HB1
  generalize w1.heap.size = S at *
  go_loopw [7] (fun i wr => ∃ (k : Nat) (q : List Int), i = .int .i64 k ∧ k ≤ n ∧ Hid (RgSt wr R D rm 83 5 q) ∧ Hid (RrSt wr S 59 rm (PRD w.heap.size R D) q) ∧ Hid (Below w.heap.size w5 wr)) (fun i _ => n - (intOf i).toNat)
  case atStart => exact ⟨0, [], rfl, by omega, hRS.out, hSS.out, Below.refl _ _⟩
  case round =>
    obtain ⟨k, q, rfl, hk, hR, hS, hW⟩ := hrel
    have HWw := Lib.hid (HBw.out.trans hW.out)
    by_cases hlt : k < n
    · have hlk : k < l.length := by rw [HN.out]; exact hlt
      obtain ⟨hok, ad, rfl, hc0, hc1, hc2⟩ := HOp.out k l[k] (List.getElem?_eq_getElem hlk)
      have hc0' := (HWw.out.cell (World.block_lt_of_cell? w _ hc0)).trans hc0
      have hc1' := (HWw.out.cell (World.block_lt_of_cell? w _ hc1)).trans hc1
      have hc2' := (HWw.out.cell (World.block_lt_of_cell? w _ hc2)).trans hc2
      obtain ⟨hO1, hO2, hO3, hO4, hO5, hN0, hN1⟩ := hok
      have HO1 := Lib.hid hO1
      have HOw := Lib.hid hO4
      have HO4 := Lib.hid (hO4.below HWw.out)
      have HO5 := Lib.hid hO5
      generalize l[k].kind = K at *
      generalize l[k].n = N at *
      generalize l[k].B = B at *
      generalize l[k].bl = bl at *
      generalize l[k].bc = bc at *
      generalize l[k].bs = bs at *
      clear hc0 hc1 hc2 hO1 hO4 hO5
      have hfR := hR.out.facts
      have hSl := hS.out.lt
      have HF : Hid (q.length ≤ rm ∧ R < wr.heap.size ∧ D < wr.heap.size ∧ S < wr.heap.size) := ⟨hfR.1, hfR.2.2.1, hfR.2.2.2.1, hSl⟩
      clear hfR hSl
      by_cases hK0 : K = 0
      · subst hK0
        go_wp2_with fail
        obtain ⟨wo, hwo⟩ : ∃ wo, wo = wr.alloc (.cells #[.int .i64 0, .int .i64 N, .slice B bl bc] 48) := ⟨_, rfl⟩
        rw [← hwo]
        have hBo : Below wr.heap.size wr wo := by rw [hwo]; exact (Below.refl _ _).alloc (Nat.le_refl _) _
        have hGo : wo.heap[wr.heap.size]? = some (.cells #[.int .i64 0, .int .i64 N, .slice B bl bc] 48 (0, 0)) := by rw [hwo]; exact heap_alloc_new wr _
        have hco0 := blk_cell hGo 0
        have hco1 := blk_cell hGo 1
        have hco2 := blk_cell hGo 2
        simp at hco0 hco1 hco2
        have HGl : Hid (wr.heap.size < wo.heap.size) := blk_lt hGo
        have HBo := Lib.hid hBo
        have HRo := Lib.hid (hR.out.below hBo)
        have HSo := Lib.hid (hS.out.below hBo)
        have HWr : Hid (∀ wx, Below wr.heap.size wo wx → Below w.heap.size w5 wx) := fun wx hx => hW.out.trans ((HBo.out.trans hx).mono HWw.out.size)
        clear hwo hBo hGo
        refine (lent_any B bl bc bs HO1.out hO3 wo (HO4.out.below HBo.out)).mono ?_
        rintro e w6 ⟨g, cap, rfl, hcap, ho6, hb6⟩
        obtain ⟨nn, hnn⟩ : ∃ nn, nn = min bl (rm - q.length) := ⟨_, rfl⟩
        have HNN := Lib.hid hnn
        have hz6 := hb6.size
        have HG6 : Hid (wo.heap.size ≤ g ∧ g < w6.heap.size) := ⟨own_base ho6 g rfl, own_lt ho6 g rfl⟩
        have HR6 := Lib.hid (HRo.out.below hb6)
        have HS6 := Lib.hid (HSo.out.below hb6)
        have hc2 := (hb6.cell (p := ⟨wr.heap.size, 2, none⟩) HGl.out).trans hco2
        have HO6 := Lib.hid ho6
        have HC6 := Lib.hid (show Cells w6 (some ⟨g, 0, none⟩) (nums .u8 bs) from by have := own_cells ho6; rw [nums_append] at this; exact this.left)
        have HW6 := Lib.hid (HWr.out _ (hb6.mono HBo.out.size))
        have HB6 := Lib.hid hb6
        clear hnn ho6 hb6 hco0 hco1 hco2
        go_wp2_with fail
        have hdist := HDist.out
        have hff := HF.out
        have HgR : Hid (∀ ad : Addr, some ad = some ⟨g, 0, none⟩ → True) := fun _ _ => trivial
        have HWRITE := Lib.hid (ringWrite_any R D rm bl cap nn (some ⟨g, 0, none⟩) q bs w6.drew (HR6.out.drawn (Drawn.one w6)) HO1.out (Nat.le_of_lt hcap) (by omega) HNN.out HO5.out HC6.out.drew (fun ad h => by
          injection h with h
          rw [← h]
          have := HG6.out
          have := HGl.out
          exact ⟨by show g ≠ R; omega, by show g ≠ D; omega⟩))
        have HF7 : Hid (∀ w7, KeepTwo w6.drew w7 R D → w7.cell? ⟨wr.heap.size, 2, none⟩ = some (.slice B bl bc) ∧ Hid (RrSt w7 S 59 rm (PRD w.heap.size R D) q) ∧ Hid (Cells w7 B (nums .u8 bs)) ∧ Hid (w6.heap.size ≤ w7.heap.size) ∧ Hid (w7.ownsRow wo.heap.size 5 1 (.slice (some ⟨g, 0, none⟩) (bl + 1) cap) (bl + 1) (nums .u8 (bs ++ [77]))) ∧ Hid (Below w.heap.size w5 w7)) := by
          intro w7 hk
          have h1 := HGl.out
          have h2 := HG6.out
          have hb : Below w.heap.size w5 w7 := KeepTwo.below (w := w6.drew) (Below.drew HW6.out) (by show w.heap.size ≤ w6.heap.size; have := HWw.out.size; omega) hk (by omega) (by omega)
          refine ⟨?_, (HS6.out.drawn (Drawn.one w6)).two hk (by omega) (by omega) (fun b hb => hb.2), HOw.out.below (HBw.out.trans hb), hk.size, ?_, hb⟩
          · exact (World.cell?_of_block (hk.block wr.heap.size (by show wr.heap.size < w6.heap.size; omega) (by omega) (by omega))).trans hc2
          · refine own_keep HO6.out fun g' hg' => ?_
            have hg' : g = g' := by injection hg'
            subst hg'
            exact hk.block g (by show g < w6.heap.size; omega) (by omega) (by omega)
        have HSW : Hid (∀ w7, RrSt w7 S 59 rm (PRD w.heap.size R D) q → Cells w7 B (nums .u8 bs) → w6.heap.size ≤ w7.heap.size → Calls Try.prog 37 #[.pointer (some ⟨S, 0, none⟩), .slice B bl bc] w7 fun e w' => e = .returned (.int .i64 nn) ∧ RrSt w' S 59 rm (fun b => PRD w.heap.size R D b ∧ b ≠ g) (q ++ bs.take nn) ∧ w7.grownBy w' (some S)) :=
          fun w7 h hC hz => rrWrite_any S rm bl bc nn (PRD w.heap.size R D) (fun b => PRD w.heap.size R D b ∧ b ≠ g) B q bs hr2 hff.1 HO1.out hO2 hO3 HNN.out w7 h hC (fun b hb => by have := HG6.out; have := HGl.out; have := HWw.out.size; unfold PRD; omega)
        have HF8 : Hid (∀ w7 w8, w7.grownBy w8 (some S) → w7.cell? ⟨wr.heap.size, 2, none⟩ = some (.slice B bl bc) → RgSt w7 R D rm 83 5 (q ++ bs.take nn) → w6.heap.size ≤ w7.heap.size → w7.ownsRow wo.heap.size 5 1 (.slice (some ⟨g, 0, none⟩) (bl + 1) cap) (bl + 1) (nums .u8 (bs ++ [77])) → Below w.heap.size w5 w7 →
            w8.cell? ⟨wr.heap.size, 2, none⟩ = some (.slice B bl bc) ∧ Hid (RgSt w8 R D rm 83 5 (q ++ bs.take nn)) ∧ Hid (w6.heap.size ≤ w8.heap.size) ∧ Hid (w8.ownsRow wo.heap.size 5 1 (.slice (some ⟨g, 0, none⟩) (bl + 1) cap) (bl + 1) (nums .u8 (bs ++ [77]))) ∧ Hid (Below w.heap.size w5 w8) ∧ Hid (Cells w8 B (nums .u8 bs))) := by
          intro w7 w8 hg hc hr hz ho hb
          have h1 := HGl.out
          have h2 := HG6.out
          have hb8 := below_grown hb (by have := HWw.out.size; omega) hg (fun b he => by injection he with he; omega)
          refine ⟨hg.cell hc (fun he => by injection he with he; have he' : wr.heap.size = S := he; omega), hr.grown hg (fun he => by injection he with he; omega) (fun he => by injection he with he; omega), Nat.le_trans hz hg.size, own_grown ho hg (.inr fun he => ?_), hb8, HOw.out.below (HBw.out.trans hb8)⟩
          have he' : some g = some S := he
          injection he' with he'
          omega
        clear hdist hff
        go_region_with (first
          | (go_at_call 36
             refine HWRITE.out.mono ?_
             rintro e w7 ⟨rfl, hr7, hk7⟩
             obtain ⟨hc27, HS7, HOB7, HSz7, HOw7, HB7⟩ := HF7.out w7 hk7
             have HR7 := Lib.hid hr7
             clear hr7 hk7)
          | (go_at_call 37
             refine (HSW.out w7 HS7.out HOB7.out HSz7.out).mono ?_
             rintro e w8 ⟨rfl, hs8, hg8⟩
             obtain ⟨hc28, HR8, HSz8, HOw8, HB8, HOB8⟩ := HF8.out w7 w8 hg8 hc27 HR7.out HSz7.out HOw7.out HB7.out
             have HS8 := Lib.hid hs8
             clear hs8 hg8)
          | (go_at_call 18
             refine (kept_true g cap bl bl bc wo.heap.size B bs HO1.out rfl hcap hO3 w8 HOw8.out HOB8.out).mono ?_
             rintro e w9 ⟨rfl, hd9⟩
             have HR9 := Lib.hid (HR8.out.drawn hd9)
             have HS9 := Lib.hid (HS8.out.drawn hd9)
             have HO9 := Lib.hid (own_drawn HOw8.out hd9)
             have HB9 := Lib.hid (below_drawn HB8.out hd9)
             have HSz9 := Lib.hid (Nat.le_trans HSz8.out hd9.below.size)
             clear hd9))
        all_goals
          go_wp2_with fail
          refine (spoil_any (some ⟨g, 0, none⟩) bl cap 0 bs _ (by omega) ?_).mono ?_
          · have h := own_take HO9.out bl (by omega)
            rw [Nat.mul_one, ← nums_take, List.take_left' HO1.out] at h
            exact own_weaken h (Nat.zero_le _)
          rintro e w10 ⟨rfl, hg10⟩
          have hg6 := HG6.out
          have hgl := HGl.out
          have hff := HF.out
          have hww := HWw.out.size
          have HR10 := Lib.hid (HR9.out.grown hg10 (fun he => by injection he with he; have he' : g = R := he; omega) (fun he => by injection he with he; have he' : g = D := he; omega))
          have hsz7 := HSz7.out
          have HS10 := Lib.hid ((HS9.out.off hg10 (by show g ≠ S; omega) (fun b hb => hb.2)).imp (P' := PRD w.heap.size R D) (fun b _ hb => hb.1))
          have HB10 := Lib.hid (below_grown HB9.out (by have := HSz9.out; omega) hg10 (fun b he => by injection he with he; have he' : g = b := he; omega))
          obtain ⟨q', hq'⟩ : ∃ q', q' = q ++ bs.take nn := ⟨_, rfl⟩
          rw [← hq'] at HR10 HS10
          clear hg10 hg6 hgl hff hww hsz7 hq'
          go_wp2_with fail
          obtain ⟨A9, c9, hh9, _⟩ := HS10.out
          have hse : w10.cell? ⟨S, 1, none⟩ = some (.slice A9 q'.length c9) := by
            have := blk_cell hh9 1
            simpa using this
          have hql := HR10.out.facts
          clear hh9
          have hql1 := hql.1
          clear hql
          have hwr : IntKind.i64.wrap ((q'.length : Int) + ((rm : Int) - q'.length)) = (rm : Int) := by rw [IntKind.wrap_i64]; omega
          go_quiet (first | (go_at_call 43; exact Calls.quiet_of_same (ringLen_any R D rm q' _ (HR10.out.drawn ⟨_, rfl⟩))) | (go_at_call 44; exact Calls.quiet_of (ringRoom_any R D rm q' _ (HR10.out.drawn ⟨_, rfl⟩))))
          clear hse
          generalize q'.length = lq at *
          go_wp2
          go_roundw
          case rel => exact ⟨k + 1, q', by go_num, by omega, HR10.out.drawn ⟨_, rfl⟩, HS10.out.drawn ⟨_, rfl⟩, below_drewN HB10.out _⟩
          case measure => simp [intOf]; omega
      by_cases hK1 : K = 1
      · subst hK1
        go_wp2_with fail
        obtain ⟨wo, hwo⟩ : ∃ wo, wo = wr.alloc (.cells #[.int .i64 1, .int .i64 N, .slice B bl bc] 48) := ⟨_, rfl⟩
        rw [← hwo]
        have hBo : Below wr.heap.size wr wo := by rw [hwo]; exact (Below.refl _ _).alloc (Nat.le_refl _) _
        have hGo : wo.heap[wr.heap.size]? = some (.cells #[.int .i64 1, .int .i64 N, .slice B bl bc] 48 (0, 0)) := by rw [hwo]; exact heap_alloc_new wr _
        have hco0 := blk_cell hGo 0
        have hco1 := blk_cell hGo 1
        have hco2 := blk_cell hGo 2
        simp at hco0 hco1 hco2
        have HGl : Hid (wr.heap.size < wo.heap.size) := blk_lt hGo
        have HBo := Lib.hid hBo
        have HRo := Lib.hid (hR.out.below hBo)
        have HSo := Lib.hid (hS.out.below hBo)
        have HWr : Hid (∀ wx, Below wr.heap.size wo wx → Below w.heap.size w5 wx) := fun wx hx => hW.out.trans ((HBo.out.trans hx).mono HWw.out.size)
        clear hwo hBo hGo
        refine (ringRead_any R D rm q N hN0 hN1 wo HRo.out).mono ?_
        rintro e w6 ⟨v6, rfl, ho6, hr6, hg6⟩
        obtain ⟨m, hm⟩ : ∃ m, (q.take N.toNat).length = m := ⟨_, rfl⟩
        have HM := Lib.hid hm
        have hmq : m ≤ 65536 := by
          have := hR.out.facts
          rw [← hm, List.length_take]
          omega
        rw [hm] at ho6
        obtain ⟨A6, c6, rfl, hc6⟩ := own_slice ho6
        have HO6 := Lib.hid ho6
        clear hm ho6
        have HR6 := Lib.hid hr6
        have HS6 := Lib.hid ((HSo.out.imp (P' := fun b => PRD w.heap.size R D b ∧ b < wo.heap.size) (fun b hb h => ⟨h, hb⟩)).off hg6 (by have := HDist.out; omega) (fun b hb => hb.1.2.1))
        have hcn6 := hg6.cell hco1 (fun he => by injection he with he; have he' : wr.heap.size = R := he; have := HF.out; omega)
        have HG6 : Hid (wr.heap.size < w6.heap.size) := Nat.lt_of_lt_of_le HGl.out hg6.size
        have HZ6 : Hid (wo.heap.size ≤ w6.heap.size) := hg6.size
        have HB6 := Lib.hid (below_grown (HWr.out wo (Below.refl _ _)) (by have := HWw.out.size; have := HBo.out.size; omega) hg6 (fun b he => by injection he with he; have := HDist.out; omega))
        clear hr6 hg6 hco0 hco1 hco2
        go_wp2_with fail
        refine (rrPeek_any S rm (fun b => PRD w.heap.size R D b ∧ b < wo.heap.size) q N hN0 hN1 (by have := hR.out.facts; omega) w6 HS6.out).mono ?_
        rintro e w7 ⟨v7, rfl, ho7, hb7⟩
        rw [HM.out] at ho7
        obtain ⟨A7, c7, rfl, hc7⟩ := own_slice ho7
        have HO7 := Lib.hid ho7
        have HO67 := Lib.hid (own_below HO6.out hb7)
        have HR7 := Lib.hid (HR6.out.below hb7)
        have HS7 := Lib.hid (HS6.out.below hb7)
        have hcn7 := (hb7.cell (p := ⟨wr.heap.size, 1, none⟩) HG6.out).trans hcn6
        have HB7 := Lib.hid (below_then HB6.out (by have := HWw.out.size; have := HZ6.out; have := HBo.out.size; omega) hb7)
        have HZ7 : Hid (wo.heap.size ≤ w7.heap.size) := Nat.le_trans HZ6.out hb7.size
        clear ho7 hb7 hcn6
        go_wp2_with fail
        refine (same_any A6 A7 m m c6 c7 (q.take N.toNat) (q.take N.toNat) HM.out HM.out (by omega) (by omega) w7 (own_cells HO67.out) (own_cells HO7.out)).mono ?_
        rintro e w8 ⟨rfl, hd8⟩
        simp only [decide_true]
        have HO8 := Lib.hid (own_drawn HO67.out hd8)
        have HR8 := Lib.hid (HR7.out.drawn hd8)
        have HS8 := Lib.hid (HS7.out.drawn hd8)
        have HB8 := Lib.hid (below_drawn HB7.out hd8)
        have hcn8 := (hd8.below.cell (p := ⟨wr.heap.size, 1, none⟩) (by show wr.heap.size < w7.heap.size; have := HZ7.out; have := HGl.out; omega)).trans hcn7
        have HZ8 : Hid (wo.heap.size ≤ w8.heap.size) := Nat.le_trans HZ7.out hd8.below.size
        clear hd8 hcn7
        go_wp2_with fail
        refine (rrDrop_any S rm (fun b => PRD w.heap.size R D b ∧ b < wo.heap.size) q N hN0 hN1 (by have := hR.out.facts; omega) w8 HS8.out).mono ?_
        rintro e w9 ⟨rfl, hs9, hg9⟩
        have HS9 := Lib.hid hs9
        have HR9 := Lib.hid (HR8.out.grown hg9 (fun he => by injection he with he; have := HDist.out; omega) (fun he => by injection he with he; have := HDist.out; omega))
        have HO9 := Lib.hid (own_grown HO8.out hg9 (by
          rcases hv : (Value.slice A6 m c6).ownBlock with _ | b
          · exact .inl rfl
          · refine .inr fun he => ?_
            injection he with he
            have := own_base HO8.out b hv
            have := HF.out
            have := HBo.out.size
            omega))
        have HB9 := Lib.hid (below_grown HB8.out (by have := HWw.out.size; have := HZ8.out; have := HBo.out.size; omega) hg9 (fun b he => by injection he with he; have := HDist.out; omega))
        have HZ9 : Hid (wo.heap.size ≤ w9.heap.size) := Nat.le_trans HZ8.out hg9.size
        clear hs9 hg9 hcn8
        go_wp2_with fail
        refine (spoil_any A6 m c6 wo.heap.size (q.take N.toNat) w9 (by omega) HO9.out).mono ?_
        rintro e w10 ⟨rfl, hg10⟩
        have hbase : ∀ b, (Value.slice A6 m c6).ownBlock = some b → wo.heap.size ≤ b := own_base HO9.out
        have hne : ∀ b, b < wo.heap.size → (Value.slice A6 m c6).ownBlock ≠ some b := fun b hb he => by
          have := hbase b he
          omega
        have hff := HF.out
        have hgl := HGl.out
        have HR10 := Lib.hid (HR9.out.grown hg10 (hne R (by omega)) (hne D (by omega)))
        have HS10 := Lib.hid ((HS9.out.spoil hg10 fun g hg => by
          have := hbase g hg
          exact ⟨by omega, fun b hb => by have := hb.2; omega⟩).imp (P' := PRD w.heap.size R D) (fun b _ hb => hb.1))
        have HB10 := Lib.hid (below_grown HB9.out (by have := HWw.out.size; have := HBo.out.size; have := HZ9.out; omega) hg10 (fun b he => by have := hbase b he; have := HWw.out.size; have := HBo.out.size; omega))
        obtain ⟨q', hq'⟩ : ∃ q', q' = q.drop N.toNat := ⟨_, rfl⟩
        rw [← hq'] at HR10 HS10
        clear hg10 hbase hne hff hgl hq'
        go_wp2_with fail
        obtain ⟨A9, c9, hh9, _⟩ := HS10.out
        have hse : w10.cell? ⟨S, 1, none⟩ = some (.slice A9 q'.length c9) := by
          have := blk_cell hh9 1
          simpa using this
        have hql := HR10.out.facts
        clear hh9
        have hql1 := hql.1
        clear hql
        have hwr : IntKind.i64.wrap ((q'.length : Int) + ((rm : Int) - q'.length)) = (rm : Int) := by rw [IntKind.wrap_i64]; omega
        go_quiet (first | (go_at_call 43; exact Calls.quiet_of_same (ringLen_any R D rm q' _ (HR10.out.drawn ⟨_, rfl⟩))) | (go_at_call 44; exact Calls.quiet_of (ringRoom_any R D rm q' _ (HR10.out.drawn ⟨_, rfl⟩))))
        clear hse
        generalize q'.length = lq at *
        go_wp2
        go_roundw
        case rel => exact ⟨k + 1, q', by go_num, by omega, HR10.out.drawn ⟨_, rfl⟩, HS10.out.drawn ⟨_, rfl⟩, below_drewN HB10.out _⟩
        case measure => simp [intOf]; omega
      by_cases hK2 : K = 2
      · subst hK2
        go_wp2_with fail
        obtain ⟨wo, hwo⟩ : ∃ wo, wo = wr.alloc (.cells #[.int .i64 2, .int .i64 N, .slice B bl bc] 48) := ⟨_, rfl⟩
        rw [← hwo]
        have hBo : Below wr.heap.size wr wo := by rw [hwo]; exact (Below.refl _ _).alloc (Nat.le_refl _) _
        have hGo : wo.heap[wr.heap.size]? = some (.cells #[.int .i64 2, .int .i64 N, .slice B bl bc] 48 (0, 0)) := by rw [hwo]; exact heap_alloc_new wr _
        have hco0 := blk_cell hGo 0
        have hco1 := blk_cell hGo 1
        have hco2 := blk_cell hGo 2
        simp at hco0 hco1 hco2
        have HGl : Hid (wr.heap.size < wo.heap.size) := blk_lt hGo
        have HBo := Lib.hid hBo
        have HRo := Lib.hid (hR.out.below hBo)
        have HSo := Lib.hid (hS.out.below hBo)
        have HWr : Hid (∀ wx, Below wr.heap.size wo wx → Below w.heap.size w5 wx) := fun wx hx => hW.out.trans ((HBo.out.trans hx).mono HWw.out.size)
        clear hwo hBo hGo
        refine (ringPeek_any R D rm q N hN0 hN1 wo HRo.out).mono ?_
        rintro e w6 ⟨v6, rfl, ho6, hb6⟩
        obtain ⟨m, hm⟩ : ∃ m, (q.take N.toNat).length = m := ⟨_, rfl⟩
        have HM := Lib.hid hm
        have hmq : m ≤ 65536 := by
          have := hR.out.facts
          rw [← hm, List.length_take]
          omega
        rw [hm] at ho6
        obtain ⟨A6, c6, rfl, hc6⟩ := own_slice ho6
        have HO6 := Lib.hid ho6
        clear hm ho6
        have HR6 := Lib.hid (HRo.out.below hb6)
        have HS6 := Lib.hid ((HSo.out.imp (P' := fun b => PRD w.heap.size R D b ∧ b < wo.heap.size) (fun b hb h => ⟨h, hb⟩)).below hb6)
        have hcn6 := (hb6.cell (p := ⟨wr.heap.size, 1, none⟩) HGl.out).trans hco1
        have HG6 : Hid (wr.heap.size < w6.heap.size) := Nat.lt_of_lt_of_le HGl.out hb6.size
        have HZ6 : Hid (wo.heap.size ≤ w6.heap.size) := hb6.size
        have HB6 := Lib.hid (HWr.out w6 (hb6.mono HBo.out.size))
        clear hb6 hco0 hco1 hco2
        go_wp2_with fail
        refine (rrPeek_any S rm (fun b => PRD w.heap.size R D b ∧ b < wo.heap.size) q N hN0 hN1 (by have := hR.out.facts; omega) w6 HS6.out).mono ?_
        rintro e w7 ⟨v7, rfl, ho7, hb7⟩
        rw [HM.out] at ho7
        obtain ⟨A7, c7, rfl, hc7⟩ := own_slice ho7
        have HO7 := Lib.hid ho7
        have HO67 := Lib.hid (own_below HO6.out hb7)
        have HR7 := Lib.hid (HR6.out.below hb7)
        have HS7 := Lib.hid (HS6.out.below hb7)
        have hcn7 := (hb7.cell (p := ⟨wr.heap.size, 1, none⟩) HG6.out).trans hcn6
        have HB7 := Lib.hid (below_then HB6.out (by have := HWw.out.size; have := HZ6.out; have := HBo.out.size; omega) hb7)
        have HZ7 : Hid (wo.heap.size ≤ w7.heap.size) := Nat.le_trans HZ6.out hb7.size
        clear ho7 hb7 hcn6
        go_wp2_with fail
        refine (same_any A6 A7 m m c6 c7 (q.take N.toNat) (q.take N.toNat) HM.out HM.out (by omega) (by omega) w7 (own_cells HO67.out) (own_cells HO7.out)).mono ?_
        rintro e w8 ⟨rfl, hd8⟩
        simp only [decide_true]
        have HO8 := Lib.hid (own_drawn HO67.out hd8)
        have HR8 := Lib.hid (HR7.out.drawn hd8)
        have HS8 := Lib.hid (HS7.out.drawn hd8)
        have HB8 := Lib.hid (below_drawn HB7.out hd8)
        have hcn8 := (hd8.below.cell (p := ⟨wr.heap.size, 1, none⟩) (by show wr.heap.size < w7.heap.size; have := HZ7.out; have := HGl.out; omega)).trans hcn7
        have HZ8 : Hid (wo.heap.size ≤ w8.heap.size) := Nat.le_trans HZ7.out hd8.below.size
        clear hd8 hcn7
        go_wp2_with fail
        refine (spoil_any A6 m c6 wo.heap.size (q.take N.toNat) w8 (by omega) HO8.out).mono ?_
        rintro e w10 ⟨rfl, hg10⟩
        have hbase : ∀ b, (Value.slice A6 m c6).ownBlock = some b → wo.heap.size ≤ b := own_base HO8.out
        have hne : ∀ b, b < wo.heap.size → (Value.slice A6 m c6).ownBlock ≠ some b := fun b hb he => by
          have := hbase b he
          omega
        have hff := HF.out
        have hgl := HGl.out
        have HR10 := Lib.hid (HR8.out.grown hg10 (hne R (by omega)) (hne D (by omega)))
        have HS10 := Lib.hid ((HS8.out.spoil hg10 fun g hg => by
          have := hbase g hg
          exact ⟨by omega, fun b hb => by have := hb.2; omega⟩).imp (P' := PRD w.heap.size R D) (fun b _ hb => hb.1))
        have HB10 := Lib.hid (below_grown HB8.out (by have := HWw.out.size; have := HBo.out.size; have := HZ8.out; omega) hg10 (fun b he => by have := hbase b he; have := HWw.out.size; have := HBo.out.size; omega))
        obtain ⟨q', hq'⟩ : ∃ q', q' = q := ⟨_, rfl⟩
        rw [← hq'] at HR10 HS10
        clear hg10 hbase hne hff hgl hq'
        go_wp2_with fail
        obtain ⟨A9, c9, hh9, _⟩ := HS10.out
        have hse : w10.cell? ⟨S, 1, none⟩ = some (.slice A9 q'.length c9) := by
          have := blk_cell hh9 1
          simpa using this
        have hql := HR10.out.facts
        clear hh9
        have hql1 := hql.1
        clear hql
        have hwr : IntKind.i64.wrap ((q'.length : Int) + ((rm : Int) - q'.length)) = (rm : Int) := by rw [IntKind.wrap_i64]; omega
        go_quiet (first | (go_at_call 43; exact Calls.quiet_of_same (ringLen_any R D rm q' _ (HR10.out.drawn ⟨_, rfl⟩))) | (go_at_call 44; exact Calls.quiet_of (ringRoom_any R D rm q' _ (HR10.out.drawn ⟨_, rfl⟩))))
        clear hse
        generalize q'.length = lq at *
        go_wp2
        go_roundw
        case rel => exact ⟨k + 1, q', by go_num, by omega, HR10.out.drawn ⟨_, rfl⟩, HS10.out.drawn ⟨_, rfl⟩, below_drewN HB10.out _⟩
        case measure => simp [intOf]; omega
      have hK0' : (K == 0) = false := by simpa using hK0
      have hK1' : (K == 1) = false := by simpa using hK1
      have hK2' : (K == 2) = false := by simpa using hK2
      clear hK0 hK1 hK2
      go_wp2_with fail
      obtain ⟨wo, hwo⟩ : ∃ wo, wo = wr.alloc (.cells #[.int .i64 K, .int .i64 N, .slice B bl bc] 48) := ⟨_, rfl⟩
      rw [← hwo]
      have hBo : Below wr.heap.size wr wo := by rw [hwo]; exact (Below.refl _ _).alloc (Nat.le_refl _) _
      have hGo : wo.heap[wr.heap.size]? = some (.cells #[.int .i64 K, .int .i64 N, .slice B bl bc] 48 (0, 0)) := by rw [hwo]; exact heap_alloc_new wr _
      have hco0 := blk_cell hGo 0
      have hco1 := blk_cell hGo 1
      have hco2 := blk_cell hGo 2
      simp at hco0 hco1 hco2
      have HGl : Hid (wr.heap.size < wo.heap.size) := blk_lt hGo
      have HBo := Lib.hid hBo
      have HRo := Lib.hid (hR.out.below hBo)
      have HSo := Lib.hid (hS.out.below hBo)
      have HWr : Hid (∀ wx, Below wr.heap.size wo wx → Below w.heap.size w5 wx) := fun wx hx => hW.out.trans ((HBo.out.trans hx).mono HWw.out.size)
      clear hwo hBo hGo
      have hql0 := hR.out.facts
      have HDROP := Lib.hid (ringDrop_any R D rm q N hN0 hN1 wo.drew (HRo.out.drawn (Drawn.one wo)))
      have HSDROP : Hid (∀ w6, RrSt w6 S 59 rm (PRD w.heap.size R D) q → Calls Try.prog 40 #[.pointer (some ⟨S, 0, none⟩), .int .i64 N] w6 fun e w' => e = .returned (.int .i64 (min N.toNat q.length)) ∧ RrSt w' S 59 rm (PRD w.heap.size R D) (q.drop N.toNat) ∧ w6.grownBy w' (some S)) :=
        fun w6 h => rrDrop_any S rm (PRD w.heap.size R D) q N hN0 hN1 (by omega) w6 h
      have HF6 : Hid (∀ w6, wo.drew.grownBy w6 (some R) → w6.cell? ⟨wr.heap.size, 1, none⟩ = some (.int .i64 N) ∧ Hid (RrSt w6 S 59 rm (PRD w.heap.size R D) q) ∧ Hid (Below w.heap.size w5 w6)) := by
        intro w6 hg'
        have hg := undrew hg'
        have hdist := HDist.out
        have hff := HF.out
        have hww := HWw.out.size
        have hbo := HBo.out.size
        exact ⟨hg.cell hco1 (fun he => by injection he with he; have he' : wr.heap.size = R := he; omega), HSo.out.off hg (by omega) (fun b hb => hb.2.1), below_grown (HWr.out wo (Below.refl _ _)) (by omega) hg (fun b he => by injection he with he; omega)⟩
      have HF7 : Hid (∀ w6 w7, w6.grownBy w7 (some S) → RgSt w6 R D rm 83 5 (q.drop N.toNat) → Below w.heap.size w5 w6 → Hid (RgSt w7 R D rm 83 5 (q.drop N.toNat)) ∧ Hid (Below w.heap.size w5 w7)) := by
        intro w6 w7 hg hr hb
        have hdist := HDist.out
        have hb6 := hb.size
        have hbw := HBw.out.size
        exact ⟨hr.grown hg (fun he => by injection he with he; omega) (fun he => by injection he with he; omega), below_grown hb (by omega) hg (fun b he => by injection he with he; omega)⟩
      clear hql0
      go_region_with (first
        | (go_at_call 42
           refine HDROP.out.mono ?_
           rintro e w6 ⟨rfl, hr6, hg6⟩
           obtain ⟨hcn6, HS6, HB6⟩ := HF6.out w6 hg6
           have HR6 := Lib.hid hr6
           clear hr6 hg6)
        | (go_at_call 40
           refine (HSDROP.out w6 HS6.out).mono ?_
           rintro e w7 ⟨rfl, hs7, hg7⟩
           obtain ⟨HR7, HB7⟩ := HF7.out w6 w7 hg7 HR6.out HB6.out
           have HS7 := Lib.hid hs7
           clear hs7 hg7))
      all_goals
        obtain ⟨q', hq'⟩ : ∃ q', q' = q.drop N.toNat := ⟨_, rfl⟩
        rw [← hq'] at HR7 HS7
        clear hq'
        go_wp2_with fail
        obtain ⟨A9, c9, hh9, _⟩ := HS7.out
        have hse : w7.cell? ⟨S, 1, none⟩ = some (.slice A9 q'.length c9) := by
          have := blk_cell hh9 1
          simpa using this
        have hql := HR7.out.facts
        clear hh9
        have hql1 := hql.1
        clear hql
        have hwr : IntKind.i64.wrap ((q'.length : Int) + ((rm : Int) - q'.length)) = (rm : Int) := by rw [IntKind.wrap_i64]; omega
        go_quiet (first | (go_at_call 43; exact Calls.quiet_of_same (ringLen_any R D rm q' _ (HR7.out.drawn ⟨_, rfl⟩))) | (go_at_call 44; exact Calls.quiet_of (ringRoom_any R D rm q' _ (HR7.out.drawn ⟨_, rfl⟩))))
        clear hse
        generalize q'.length = lq at *
        go_wp2
        go_roundw
        case rel => exact ⟨k + 1, q', by go_num, by omega, HR7.out.drawn ⟨_, rfl⟩, HS7.out.drawn ⟨_, rfl⟩, below_drewN HB7.out _⟩
        case measure => simp [intOf]; omega
    · go_wp2_with fail
      refine (known01_any _).mono ?_
      rintro e w9 ⟨rfl, hb9⟩
      have HB9 := Lib.hid (below_then HWw.out HWw.out.size hb9)
      clear hb9
      go_wp2_with fail
      go_ret
      exact ⟨rfl, HB9.out⟩

namespace OctetRings
theorem walk (W : World) (vs : List Value) (h : Args Try.prog W Try.f7.params.toList vs) : Calls Try.prog 7 vs.toArray W fun e W' => e = .returned (.bool true) ∧ Below W.heap.size W W' := by
  rw [Try.params7] at h
  match vs, h with
  | [v0, v1], ⟨h0, h1, _⟩ =>
    obtain ⟨a0, rfl, w0⟩ := h0.int Try.underlying3
    obtain ⟨A1, n1, c1, l, rfl, hl1, hn1, hO⟩ := ops_of h1
    exact rings_any A1 a0 n1 c1 l hl1 hn1 (wf_i64 w0).1 (wf_i64 w0).2 W hO

set_option maxRecDepth 100000 in
theorem lifted (os : Os) (started : os.Started) (H : Type) (enc : TypeId × Value → H) :
    ReturnsInHanded {} Try.checked os 7 .any (Rows.octetRingsSpec.pre6 enc Try.prog Try.f7 Rows.octetRingsRow.domain false) (Rows.octetRingsSpec.post enc Try.prog Try.f7 false true false false) :=
  law_lifted (C := Try.checked) laid_out own_knob started (by kernel_rfl) Try.func7 H enc rfl
    (fun ds hd => by
      have : ds.length = 2 := hd
      match ds, this with
      | [_, _], _ => exact ⟨rfl, rfl, rfl⟩) rfl Try.underlying4 (by
      have : (Try.f7.params.toList.all fun t => Try.prog.readableRec t && decide (t < Try.prog.types.size)) = true := by kernel_rfl
      intro t ht
      have h := List.all_eq_true.1 this t ht
      rw [Bool.and_eq_true, decide_eq_true_eq] at h
      exact h)
    (ChangeSpec.witness6 (enc := enc) (C := Try.checked) false ⟨#[], #[.int .i64 0, .slice none 0 0], []⟩ 8 (by kernel_rfl) (by kernel_rfl) (by kernel_rfl) (by kernel_rfl)) walk

theorem over : Rows.octetRingsRow.holds Try.pinned (OpenSpec.ofChange Rows.octetRingsSpec) :=
  OpenClaim.holds_of_wide 7 Try.f7 rfl rfl rfl rfl rfl rfl rfl ⟨rfl, rfl, rfl, rfl, rfl⟩ rfl rfl rfl rfl rfl (by kernel_rfl) Try.func7 (by kernel_rfl)
    (of_decide_eq_true (by kernel_rfl)) (by unfold Func.isWrapper; first | (rw [if_pos (by decide +kernel)]; kernel_rfl) | (rw [if_neg (by decide +kernel)]; exact ⟨rfl, rfl⟩))
    (fun os started H enc _ => lifted os started H enc)

/-- The statement. -/
theorem proved : Rows.OctetRingsSaid := over
#print axioms proved
end OctetRings
end Go.Proofs.Ythlfdckcnpnemaa
