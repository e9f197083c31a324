/-
  tetherlaw04.Md5Copies: a copy goes on by itself: for every input of bulk at most 1048576 the call answers true. No condition.
-/
import Derived.Test.YtmopdimokoogmaaMdM
import Derived.Test.YtmopdimokoogmaaMdW
import Derived.Test.YtmopdimokoogmaaMdX
import Derived.Test.YtmopdimokoogmaaSeat
import Derived.Test.YtmopdimokoogmaaArgs
import Derived.Test.YtmopdimokoogmaaArr
namespace Go.Proofs.Ytmopdimokoogmaa
open Go.RowKit
set_option linter.unusedVariables false
set_option linter.unusedSimpArgs false

theorem cells_lt {w : World} {A : Option Addr} {cs : List Value} (h : Cells w A cs) (ad : Addr) (hp : 0 < cs.length) (ha : A = some ad) : ad.block < w.heap.size := by
  obtain ⟨ad', he, h⟩ := h hp
  rw [ha] at he
  injection he with he
  subst he
  have := World.block_lt_of_cell? _ _ (h 0 _ (by rw [List.getElem?_eq_getElem hp]))
  rwa [block_of_add] at this
theorem wok_zero : WOk (0, 0, 0, 0) := by
  intro j
  match j with
  | 0 => decide
  | 1 => decide
  | 2 => decide
  | 3 => decide
  | j + 4 => simp [wl]
theorem wok_past (ys : List Int) (q k : Nat) : WOk ((mdPast beginW ys q).getD k (0, 0, 0, 0)) := by
  rw [List.getD_eq_getElem?_getD]
  cases h : (mdPast beginW ys q)[k]? with
  | none => exact wok_zero
  | some s =>
    obtain ⟨i, _, rfl⟩ := List.mem_map.1 (List.mem_of_getElem? h)
    exact wok_run wok_begin ys _
theorem StreamAt.old {w : World} {base g : Nat} {s : W4} {ps : List W4} {xs : List Int} {n : Int} {pv lv : Value} (h : StreamAt w base g s ps xs n pv lv) : ∀ k, StreamS g pv lv k → k < w.heap.size := by
  rintro k (rfl | hk | hk)
  · exact at_lt h.at_
  · exact own_lt h.past k hk
  · exact (h.left.lt k hk).2
theorem StreamAt.only {S : Nat → Prop} {w w' : World} {base g : Nat} {s : W4} {ps : List W4} {xs : List Int} {n : Int} {pv lv : Value} (h : StreamAt w base g s ps xs n pv lv) (hon : Only S w w') (hd : ∀ k, StreamS g pv lv k → ¬ S k) : StreamAt w' base g s ps xs n pv lv := by
  have hold := h.old
  refine ⟨(hon.block g (at_lt h.at_) (hd g (.inl rfl))).trans h.at_, h.base_, ?_, ?_, h.apL, h.apP, h.apLP⟩
  · refine ⟨h.left.1, h.left.2.imp id ?_⟩
    rintro ⟨b, off, cap, rfl, hb, hlt, hc, hm, h1, h2⟩
    have hk : w'.heap[b]? = w.heap[b]? := hon.block b hlt (hd b (.inr (.inr rfl)))
    refine ⟨b, off, cap, rfl, hb, Nat.lt_of_lt_of_le hlt hon.size, hc, hm, fun j u hu => ?_, fun j hj => ?_⟩
    · rw [World.cell?_of_block (a := ⟨b, off + j, none⟩) hk]
      exact h1 j u hu
    · have := h2 j hj
      rw [World.cell?_of_block (a := ⟨b, off + j, none⟩) hk]
      unfold World.frozen? at this ⊢
      simp only at this ⊢
      rw [hk]
      exact this
  · refine ⟨h.past.1, h.past.2.imp id ?_⟩
    rintro ⟨b, cap, cur, rfl, hb, hg, rest⟩
    exact ⟨b, cap, cur, rfl, hb, (hon.block b (at_lt hg) (hd b (.inr (.inl rfl)))).trans hg, rest⟩
theorem lblocksAt_any (g base : Nat) (ys : List Int) (pv lv : Value) (most : Int) (hm : 0 < most) (hm2 : most ≤ 9223372036854775807) (w : World) (hl : ys.length ≤ 70368744177664) (hs : StreamOf w base g ys pv lv) :
    Calls Try.prog 48 #[.pointer (some ⟨g, 0, none⟩), .int .i64 most] w fun e w' => ∃ v, e = .returned v ∧ w'.ownsRow w.heap.size 44 16 v ((blkL ys (ys.length / 64)).take most.toNat).length (flat16 ((blkL ys (ys.length / 64)).take most.toNat)) ∧ Below w.heap.size w w' := by
  obtain ⟨PA, pc, rfl, hpc⟩ := own_slice hs.past
  have hlt := at_lt hs.at_
  have hpl := mdPast_len beginW ys (ys.length / 64)
  obtain ⟨gp, hgp⟩ : ∃ gp, 0 < (mdPast beginW ys (ys.length / 64)).length → PA = some ⟨gp, 0, none⟩ ∧ gp < w.heap.size := by
    rcases Nat.eq_zero_or_pos (mdPast beginW ys (ys.length / 64)).length with h | h
    · exact ⟨0, fun h' => by omega⟩
    · obtain ⟨gp, c', he, _, hlt', _⟩ := own_form hs.past h
      injection he with he _ _
      exact ⟨gp, fun _ => ⟨he, hlt'⟩⟩
  have hP : Past w w.heap.size g (mdPast beginW ys (ys.length / 64)) PA pc gp := by
    refine ⟨at_cell hs.at_ 4, hlt, fun h => (hgp h).1, fun h => (hgp h).2, fun i u hu => ?_⟩
    have hp : 0 < (flatW (mdPast beginW ys (ys.length / 64))).length := by have := (List.getElem?_eq_some_iff.1 hu).1; omega
    have hp2 : 0 < (mdPast beginW ys (ys.length / 64)).length := by rw [flatW_len] at hp; omega
    obtain ⟨ad, he, hc⟩ := own_cells hs.past hp
    rw [(hgp hp2).1] at he
    injection he with he
    subst he
    have := hc i u hu
    rwa [add_plain] at this
  have h := lblocks4_any (some ⟨g, 0, none⟩) most (blkL ys (ys.length / 64)) (mdPast beginW ys (ys.length / 64)).length (by rw [hpl]; omega) hm hm2 w (by
    have hB : Below w.heap.size w (((w.alloc (.cells #[.int .i64 most] 3)).alloc (.cells #[.slice none 0 0] 64)).alloc (.cells #[.pointer (some ⟨g, 0, none⟩)] 59)) := Ext.out
    have h1 := blocks_stops 3 (w.heap.size + 1 + 1) w.heap.size g pc gp PA (mdPast beginW ys (ys.length / 64)) (by omega) (by rw [hpl]; omega) (wok_past ys _) _ (by simp) hB.size
      (boxed_cell_at (Boxed.new ((w.alloc (.cells #[.int .i64 most] 3)).alloc (.cells #[.slice none 0 0] 64)) 59 (.pointer (some ⟨g, 0, none⟩))) (by simp)) (hP.below hB)
    refine seq_mono h1 ?_
    rintro p ⟨k, hk, rfl⟩
    exact ⟨k, by rw [blkL_len, ← hpl]; exact hk, by rw [upto, blkL, List.map_take]⟩)
  exact h
theorem lblocksAll_any (g base : Nat) (ys : List Int) (pv lv : Value) (most : Int) (hm : 0 < most) (hm2 : most ≤ 9223372036854775807) (hmy : ys.length ≤ most.toNat) (w : World) (hl : ys.length ≤ 70368744177664) (hs : StreamOf w base g ys pv lv) :
    Calls Try.prog 48 #[.pointer (some ⟨g, 0, none⟩), .int .i64 most] w fun e w' => ∃ v, e = .returned v ∧ w'.ownsRow w.heap.size 44 16 v (ys.length / 64) (flat16 (blkL ys (ys.length / 64))) ∧ Below w.heap.size w w' := by
  refine (lblocksAt_any g base ys pv lv most hm hm2 w hl hs).mono ?_
  rintro e w' ⟨v, rfl, ho, hb⟩
  rw [List.take_of_length_le (by rw [blkL_len]; omega), blkL_len] at ho
  exact ⟨v, rfl, ho, hb⟩
set_option maxRecDepth 100000 in
set_option maxHeartbeats 8000000 in
theorem copies_any (A B C : Option Addr) (n m q cn cm cq : Nat) (xs ys zs : List Int) (hn : xs.length = n) (hm : ys.length = m) (hq : zs.length = q) (hn' : n ≤ 1048576) (hm' : m ≤ 1048576) (hq' : q ≤ 1048576)
    (hbx : Byt xs) (hby : Byt ys) (hbz : Byt zs) (w : World) (hx : Cells w A (nums .u8 xs)) (hy : Cells w B (nums .u8 ys)) (hz : Cells w C (nums .u8 zs)) :
    Calls Try.prog 9 #[.slice A n cn, .slice B m cm, .slice C q cq] w fun e w' => e = .returned (.bool true) ∧ Below w.heap.size w w' := by
  have Hn := Lib.hid hn
  have Hm := Lib.hid hm
  have Hq := Lib.hid hq
  have HX := Lib.hid hx
  have HY := Lib.hid hy
  have HZ := Lib.hid hz
  have HBX := Lib.hid hbx
  have HBY := Lib.hid hby
  have HBZ := Lib.hid hbz
  have HAA : Hid (∀ ad, 0 < n → A = some ad → ad.block < w.heap.size) := fun ad hp ha => cells_lt hx ad (by rw [nums_length, hn]; exact hp) ha
  have HAB : Hid (∀ ad, 0 < m → B = some ad → ad.block < w.heap.size) := fun ad hp ha => cells_lt hy ad (by rw [nums_length, hm]; exact hp) ha
  have HAC : Hid (∀ ad, 0 < q → C = some ad → ad.block < w.heap.size) := fun ad hp ha => cells_lt hz ad (by rw [nums_length, hq]; exact hp) ha
  obtain ⟨i0, hi0, hzz⟩ := Option.map_eq_some_iff.1 info_u8
  have HI0 := Lib.hid hi0
  have HZZ : Hid (i0.size = 1) := by simp only [Prod.mk.injEq] at hzz; exact hzz.2.1
  clear hn hm hq hx hy hz hbx hby hbz hi0 hzz
  go_enter Try.func9, Try.ntmps9
  go_wp2_with fail
  refine (new4_any _).mono ?_
  rintro e w1 ⟨g, rfl, hst, hb1⟩
  have S1 : Step w1 w := ⟨hb1⟩
  have HST1 := Lib.hid (StreamOf.new hst)
  have HG : Hid (w.heap.size ≤ g) := hst.base_
  clear hst hb1
  go_wp2_with fail
  refine (writeAll4_any g _ [] xs _ _ A n cn w1 Hn.out Byt.nil_ HBX.out (fun h0 ad ha => by have := HAA.out ad h0 ha; have := HG.out; omega) (by simp; omega) HST1.out (Ext.out (w := w) (w' := w1)).size (by exact HX.out.ext)).mono ?_
  rintro e w2 ⟨pv2, lv2, rfl, hst2, hon2, hos2⟩
  have S2 : Step w2 w := StreamOf.wrote (w0 := w) HST1.out hon2 (Nat.le_refl _)
  rw [List.nil_append] at hst2
  have HST2 := Lib.hid hst2
  clear hst2 hon2 hos2
  go_wp2_with fail
  refine (copy4_any g _ _ _ _ _ pv2 lv2 w2 (by rw [List.length_drop, Hn.out]; omega) (by rw [mdPast_len, Hn.out]; omega) HST2.out).mono ?_
  rintro e w3 ⟨g3, pv3, lv3, rfl, hst3, hb3⟩
  have S3 : Step w3 w2 := ⟨hb3⟩
  have HT3 : Hid (StreamOf w3 w2.heap.size g3 xs pv3 lv3) := hst3
  have HS3 : Hid (StreamOf w3 w.heap.size g xs pv2 lv2) := StreamAt.ext HST2.out
  have HO3 := Lib.hid HST2.out.old
  clear hst3 hb3
  go_wp2_with fail
  refine (writeAll4_any g _ xs ys pv2 lv2 B m cm w3 Hm.out HBX.out HBY.out (fun h0 ad ha => by have := HAB.out ad h0 ha; have := HG.out; omega) (by rw [Hn.out]; omega) HS3.out (Ext.out (w := w) (w' := w3)).size (by exact HY.out.ext)).mono ?_
  rintro e w4 ⟨pv4, lv4, rfl, hst4, hon4, hos4⟩
  have S4 : Step w4 w := StreamOf.wrote (w0 := w) HS3.out hon4 (Nat.le_refl _)
  have HS4 := Lib.hid hst4
  have HT4 : Hid (StreamOf w4 w2.heap.size g3 xs pv3 lv3) := StreamAt.only HT3.out hon4 (fun k hk hk' => by have h1 := StreamAt.young HT3.out k hk; have h2 := HO3.out k hk'; omega)
  have HD4 : Hid (∀ k, StreamS g pv4 lv4 k → ¬ StreamS g3 pv3 lv3 k) := by
    intro k hk hk'
    have h1 := StreamAt.young HT3.out k hk'
    have h2 := StreamAt.old HT3.out k hk'
    rcases hos4 k hk with h | h
    · have := HO3.out k h; omega
    · omega
  have HG3 : Hid (w2.heap.size ≤ g3) := HT3.out.base_
  have HZ2 : Hid (w.heap.size ≤ w2.heap.size) := (Ext.out (w := w) (w' := w2)).size
  have HZ24 : Hid (w2.heap.size ≤ w4.heap.size) := Nat.le_trans (Ext.out (w := w2) (w' := w3)).size hon4.size
  clear hst4 hon4 hos4
  go_wp2_with fail
  refine (writeAll4_any g3 _ xs zs pv3 lv3 C q cq w4 Hq.out HBX.out HBZ.out (fun h0 ad ha => by have := HAC.out ad h0 ha; have := HG3.out; have := HZ2.out; omega) (by rw [Hn.out]; omega) HT4.out HZ24.out (by exact HZ.out.ext)).mono ?_
  rintro e w5 ⟨pv5, lv5, rfl, hst5, hon5, hos5⟩
  have S5 : Step w5 w := StreamOf.wrote (w0 := w) HT4.out hon5 HZ2.out
  have HT5 := Lib.hid hst5
  have HS5 : Hid (StreamOf w5 w.heap.size g (xs ++ ys) pv4 lv4) := StreamAt.only HS4.out hon5 HD4.out
  clear hst5 hon5 hos5 HT4 HS4 HT3 HS3 HST2 HST1 HD4 HO3
  have X5 : Ext w w5 := inferInstance
  have HCX : Hid (Cells w5 A (nums .u8 xs)) := HX.out.ext
  go_wp2_with
    (first
     | (at_builtin
        refine wp_append_cells (w0 := w5) w5.heap.size rfl (.tmp 36) (.tmp 37) 42 5 (.int .u8 0) 1 1 rfl Try.underlying42 info_u8 rfl (by decide) (by decide) (.slice none 0 0) 0 [] A n cn (nums .u8 xs) rfl rfl (by rw [nums_length, Hn.out, Nat.mul_one]) (nums_one _ _) (own_nil _ _ _ _) HCX.out (Below.refl _ _) (Nat.le_refl _) (by omega) ?_
        intro v6 w6 ho6 hb6 hg6 hat6
        rw [List.nil_append, Nat.zero_add] at ho6
        obtain ⟨X6, x6, rfl, hx6⟩ := own_slice ho6
        have HO6 := Lib.hid ho6
        have HE6 : Hid (Ext w5 w6) := ⟨hb6⟩
        have HCY : Hid (Cells w6 B (nums .u8 ys)) := by
          have Y6 : Ext w w6 := Ext.trans_ X5 HE6.out
          exact HY.out.ext
        have HZ6 : Hid (w5.heap.size ≤ w6.heap.size) := hb6.size
        clear ho6 hb6 hg6 hat6)
     | (at_builtin
        refine wp_append_cells (w0 := w5) w5.heap.size rfl (.tmp 39) (.tmp 40) 42 5 (.int .u8 0) 1 1 rfl Try.underlying42 info_u8 rfl (by decide) (by decide) (.slice X6 n x6) n (nums .u8 xs) B m cm (nums .u8 ys) rfl rfl (by rw [nums_length, Hm.out, Nat.mul_one]) (nums_one _ _) HO6.out HCY.out HE6.out.out HZ6.out (by omega) ?_
        intro v7 w7 ho7 hb7 hg7 hat7
        obtain ⟨X7, x7, rfl, hx7⟩ := own_slice ho7
        have HO7 := Lib.hid ho7
        have HE7 : Hid (Ext w5 w7) := ⟨hb7⟩
        have HCA : Hid (Cells w7 A (nums .u8 xs)) := by
          have Y7 : Ext w w7 := Ext.trans_ X5 HE7.out
          exact HX.out.ext
        clear ho7 hb7 hg7 hat7)
     | (at_builtin
        refine wp_append_cells (w0 := w7) w7.heap.size rfl (.tmp 42) (.tmp 43) 42 5 (.int .u8 0) 1 1 rfl Try.underlying42 info_u8 rfl (by decide) (by decide) (.slice none 0 0) 0 [] A n cn (nums .u8 xs) rfl rfl (by rw [nums_length, Hn.out, Nat.mul_one]) (nums_one _ _) (own_nil _ _ _ _) HCA.out (Below.refl _ _) (Nat.le_refl _) (by omega) ?_
        intro v8 w8 ho8 hb8 hg8 hat8
        rw [List.nil_append, Nat.zero_add] at ho8
        obtain ⟨X8, x8, rfl, hx8⟩ := own_slice ho8
        have HO8 := Lib.hid ho8
        have HE8 : Hid (Ext w7 w8) := ⟨hb8⟩
        have HCZ : Hid (Cells w8 C (nums .u8 zs)) := by
          have Y8 : Ext w w8 := Ext.trans_ X5 (Ext.trans_ HE7.out HE8.out)
          exact HZ.out.ext
        have HZ8 : Hid (w7.heap.size ≤ w8.heap.size) := hb8.size
        clear ho8 hb8 hg8 hat8)
     | (at_builtin
        refine wp_append_cells (w0 := w7) w7.heap.size rfl (.tmp 45) (.tmp 46) 42 5 (.int .u8 0) 1 1 rfl Try.underlying42 info_u8 rfl (by decide) (by decide) (.slice X8 n x8) n (nums .u8 xs) C q cq (nums .u8 zs) rfl rfl (by rw [nums_length, Hq.out, Nat.mul_one]) (nums_one _ _) HO8.out HCZ.out HE8.out.out HZ8.out (by omega) ?_
        intro v9 w9 ho9 hb9 hg9 hat9
        obtain ⟨X9, x9, rfl, hx9⟩ := own_slice ho9
        have HO9 := Lib.hid ho9
        have HE9 : Hid (Ext w7 w9) := ⟨hb9⟩
        clear ho9 hb9 hg9 hat9))
  have E57 : Ext w5 w7 := HE7.out
  have E79 : Ext w7 w9 := HE9.out
  have E59 : Ext w5 w9 := Ext.trans_ E57 E79
  have E09 : Ext w w9 := Ext.trans_ X5 E59
  have HXY : Hid (Cells w9 X7 (nums .u8 (xs ++ ys))) := by have h1 := own_cells (own_ext (w' := w9) HO7.out); rw [← nums_append] at h1; exact h1
  have HXZ : Hid (Cells w9 X9 (nums .u8 (xs ++ zs))) := by have h1 := own_cells HO9.out; rw [← nums_append] at h1; exact h1
  have HLY : Hid ((xs ++ ys).length = n + m) := by unfold Hid; rw [List.length_append, Hn.out, Hm.out]
  have HLZ : Hid ((xs ++ zs).length = n + q) := by unfold Hid; rw [List.length_append, Hn.out, Hq.out]
  have HBY' : Hid (Byt (xs ++ ys)) := HBX.out.append HBY.out
  have HBZ' : Hid (Byt (xs ++ zs)) := HBX.out.append HBZ.out
  have HS9 : Hid (StreamOf w9 w.heap.size g (xs ++ ys) pv4 lv4) := StreamAt.ext HS5.out
  have HT9 : Hid (StreamOf w9 w2.heap.size g3 (xs ++ zs) pv5 lv5) := StreamAt.ext HT5.out
  clear HO6 HO8 HE6 HE8 HE7 HE9 HCX HCY HCA HCZ HO7 HO9 HZ6 HZ8
  obtain ⟨ss, hss⟩ : ∃ ss, xs ++ ys = ss := ⟨_, rfl⟩
  obtain ⟨tt, htt⟩ : ∃ tt, xs ++ zs = tt := ⟨_, rfl⟩
  rw [hss] at HXY HLY HBY' HS9
  rw [htt] at HXZ HLZ HBZ' HT9
  clear hss htt
  refine (sumAll4_any g _ ss pv4 lv4 w9 HBY'.out (by rw [HLY.out]; omega) HS9.out).mono ?_
  rintro e w10 ⟨rfl, hb10⟩
  have S10 : Step w10 _ := ⟨hb10⟩
  clear hb10
  have hl1 := digest_len ss
  obtain ⟨t1, hts1⟩ : ∃ ts, digest ss = ts := ⟨_, rfl⟩
  have HTS1 := Lib.hid hts1
  rw [hts1] at hl1 ⊢
  clear hts1
  have hEq1 : ∀ W : World, (Op.equalIn 10000 44 (.agg (nums .u8 t1).toArray) (.agg (nums .u8 t1).toArray)).run Try.prog W = .ok true W := fun W => run_equalIn_self W 9998 44 5 16 .u8 t1 i0 Try.underlying44 Try.underlying5 HI0.out HZZ.out hl1
  have HL1 := Lib.hid hl1
  clear hl1
  go_wp2_with fail
  refine (rsum4_any X7 (n + m) x7 ss HLY.out (by omega) HBY'.out _ (by exact HXY.out.ext)).mono ?_
  rintro e w11 ⟨rfl, hb11⟩
  have S11 : Step w11 _ := ⟨hb11⟩
  clear hb11
  rw [HTS1.out]
  go_wp2_with fail
  clear hEq1
  refine (sumAll4_any g3 _ tt pv5 lv5 w11 HBZ'.out (by rw [HLZ.out]; omega) HT9.out.ext).mono ?_
  rintro e w12 ⟨rfl, hb12⟩
  have S12 : Step w12 _ := ⟨hb12⟩
  clear hb12
  have hl2 := digest_len tt
  obtain ⟨t2, hts2⟩ : ∃ ts, digest tt = ts := ⟨_, rfl⟩
  have HTS2 := Lib.hid hts2
  rw [hts2] at hl2 ⊢
  clear hts2
  have hEq2 : ∀ W : World, (Op.equalIn 10000 44 (.agg (nums .u8 t2).toArray) (.agg (nums .u8 t2).toArray)).run Try.prog W = .ok true W := fun W => run_equalIn_self W 9998 44 5 16 .u8 t2 i0 Try.underlying44 Try.underlying5 HI0.out HZZ.out hl2
  have HL2 := Lib.hid hl2
  clear hl2
  go_wp2_with fail
  refine (rsum4_any X9 (n + q) x9 tt HLZ.out (by omega) HBZ'.out _ (by exact HXZ.out.ext)).mono ?_
  rintro e w13 ⟨rfl, hb13⟩
  have S13 : Step w13 _ := ⟨hb13⟩
  clear hb13
  rw [HTS2.out]
  go_wp2_with fail
  clear hEq2
  refine (lblocksAll_any g _ ss pv4 lv4 _ (by omega) (by omega) (by rw [HLY.out]; omega) _ (by rw [HLY.out]; omega) HS9.out.ext).mono ?_
  rintro e w14 ⟨v14, rfl, ho14, hb14⟩
  have S14 : Step w14 _ := ⟨hb14⟩
  obtain ⟨A14, c14, rfl, _⟩ := own_slice ho14
  have HO14 := Lib.hid ho14
  clear ho14 hb14
  go_wp2_with fail
  refine (rblocks4_any X7 (n + m) x7 ss HLY.out hx7 (by omega) HBY'.out _ (by exact HXY.out.ext)).mono ?_
  rintro e w15 ⟨v15, rfl, ho15, hb15⟩
  have S15 : Step w15 _ := ⟨hb15⟩
  obtain ⟨A15, c15, rfl, _⟩ := own_slice ho15
  have HO15 := Lib.hid ho15
  have HSL : Hid (ss.length / 64 = (n + m) / 64) := by unfold Hid; rw [HLY.out]
  rw [HSL.out] at HO14
  rw [HSL.out]
  clear ho15 hb15
  go_wp2_with fail
  refine (alike_same A14 A15 ((n + m) / 64) c14 c15 _ _ (blkL ss ((n + m) / 64)) (blkL_len _ _) (by omega) w15 (own_ext HO14.out) HO15.out).mono ?_
  rintro e w16 ⟨rfl, hb16⟩
  have S16 : Step w16 _ := ⟨hb16⟩
  clear hb16
  go_wp2_with fail
  refine (lblocksAll_any g3 _ tt pv5 lv5 _ (by omega) (by omega) (by rw [HLZ.out]; omega) _ (by rw [HLZ.out]; omega) HT9.out.ext).mono ?_
  rintro e w17 ⟨v17, rfl, ho17, hb17⟩
  have S17 : Step w17 _ := ⟨hb17⟩
  obtain ⟨A17, c17, rfl, _⟩ := own_slice ho17
  have HO17 := Lib.hid ho17
  clear ho17 hb17
  go_wp2_with fail
  refine (rblocks4_any X9 (n + q) x9 tt HLZ.out hx9 (by omega) HBZ'.out _ (by exact HXZ.out.ext)).mono ?_
  rintro e w18 ⟨v18, rfl, ho18, hb18⟩
  have S18 : Step w18 _ := ⟨hb18⟩
  obtain ⟨A18, c18, rfl, _⟩ := own_slice ho18
  have HO18 := Lib.hid ho18
  have HTL : Hid (tt.length / 64 = (n + q) / 64) := by unfold Hid; rw [HLZ.out]
  rw [HTL.out] at HO17
  rw [HTL.out]
  clear ho18 hb18
  go_wp2_with fail
  refine (alike_same A17 A18 ((n + q) / 64) c17 c18 _ _ (blkL tt ((n + q) / 64)) (blkL_len _ _) (by omega) w18 (own_ext HO17.out) HO18.out).mono ?_
  rintro e w19 ⟨rfl, hb19⟩
  have S19 : Step w19 _ := ⟨hb19⟩
  clear hb19
  go_wp2_with fail
  refine (awake4_any _).mono ?_
  rintro e w20 ⟨rfl, hb20⟩
  have S20 : Step w20 _ := ⟨hb20⟩
  have HF : Hid (Below w.heap.size w w20) := Ext.out
  clear hb20
  go_wp2
  go_ret
  exact ⟨rfl, HF.out⟩

namespace Md5Copies
set_option maxRecDepth 100000 in
theorem walk (W : World) (vs : List Value) (h : Args 1048576 Try.prog W Try.f9.params.toList vs) : Calls Try.prog 9 vs.toArray W fun e W' => e = .returned (.bool true) ∧ Below W.heap.size W W' := by
  rw [Try.params9] at h
  match vs, h with
  | [v0, v1, v2], ⟨h0, h1, h2, _⟩ =>
    obtain ⟨A, n, c, xs, rfl, hl, hnc, hn, hC, hB⟩ := h0.bytes Try.underlying42 Try.underlying5 cells_u8 bytes_u8
    obtain ⟨B, m, d, ys, rfl, hly, hmd, hm, hCy, hBy⟩ := h1.bytes Try.underlying42 Try.underlying5 cells_u8 bytes_u8
    obtain ⟨C, q, f, zs, rfl, hlz, hqf, hq, hCz, hBz⟩ := h2.bytes Try.underlying42 Try.underlying5 cells_u8 bytes_u8
    have hr := h0.room Try.underlying42
    have hr1 := h1.room Try.underlying42
    have hr2 := h2.room Try.underlying42
    exact copies_any A B C n m q c d f xs ys zs hl hly hlz (by omega) (by omega) (by omega) hB hBy hBz W hC hCy hCz

set_option maxRecDepth 100000 in
theorem lifted (os : Os) (started : os.Started) (H : Type) (enc : TypeId × Value → H) (F : Stop.Interp) :
    ReturnsInHanded {} Try.checked os 9 .any ((Rows.OpenSpec.upto Rows.md5CopiesSpec).pre6 enc Try.prog Try.f9 Rows.md5CopiesUptoRow.domain false) (((Rows.OpenSpec.upto Rows.md5CopiesSpec).at F).post enc Try.prog Try.f9 false true false false) :=
  law_lifted_upto (C := Try.checked) laid_out own_knob started (by kernel_rfl) Try.func9 H enc F rfl
    (fun ds hd => by
      have : ds.length = 3 := hd
      match ds, this with
      | [_, _, _], _ => exact ⟨rfl, rfl, rfl⟩) rfl Try.underlying4 (by
      have : (Try.f9.params.toList.all fun t => Try.prog.readableRec t && decide (t < Try.prog.types.size)) = true := by kernel_rfl
      intro t ht
      have h := List.all_eq_true.1 this t ht
      rw [Bool.and_eq_true, decide_eq_true_eq] at h
      exact h)
    (OpenSpec.witness (enc := enc) (C := Try.checked) (s := Rows.OpenSpec.upto Rows.md5CopiesSpec) (k := Rows.uptoSmall) rfl false ⟨#[], #[.slice none 0 0, .slice none 0 0, .slice none 0 0], []⟩ 8 (by kernel_rfl) (by kernel_rfl) (by kernel_rfl)
      (x := ([.nil, .nil, .nil], [], [])) (by kernel_rfl) rfl (by kernel_rfl)) walk

theorem over : Rows.md5CopiesUptoRow.holds Try.pinned (Rows.OpenSpec.upto Rows.md5CopiesSpec) :=
  OpenClaim.holds_of_cond 9 Try.f9 rfl rfl rfl rfl rfl rfl rfl ⟨rfl, rfl, rfl, rfl, rfl⟩ rfl rfl rfl rfl rfl (by kernel_rfl) Try.func9 (by kernel_rfl)
    (of_decide_eq_true (by kernel_rfl)) (by unfold Func.isWrapper; first | (rw [if_pos (by decide +kernel)]; kernel_rfl) | (rw [if_neg (by decide +kernel)]; exact ⟨rfl, rfl⟩))
    (fun os started H enc _ F => lifted os started H enc F)

/-- The statement. -/
theorem proved : Rows.Md5CopiesUptoSaid := over
#print axioms proved
end Md5Copies
end Go.Proofs.Ytmopdimokoogmaa
