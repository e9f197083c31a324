/-
  What octet's Reader and the reference's tell: some, Num, Take, Rest, Left, Err. Conditions: the reader's block is as RdSt says; numbers are of their kinds.
-/
import Derived.Test.YtobddmpiljknpaaOctet
namespace Go.Proofs.Ytobddmpiljknpaa
open Go.RowKit
set_option linter.unusedVariables false
set_option linter.unusedSimpArgs false

/-- A reader at block R: the bytes xs are left (they lie in block D), its error is E. -/
def RdSt (w : World) (R D : Nat) (T : TypeId) (xs : List Int) (E : Int) : Prop :=
  ∃ A c, w.heap[R]? = some (.cells #[.slice A xs.length c, .int .i64 E] T (0, 0)) ∧ xs.length ≤ c ∧ c ≤ 9223372036854775807 ∧ Cells w A (nums .u8 xs) ∧ (∀ ad, A = some ad → ad.block = D) ∧ D ≠ R
/-- What a taking leaves: what is taken, what is left, the error. -/
def rdTake (xs : List Int) (E : Int) (right : Bool) (n : Int) : List Int × List Int × Int :=
  if E ≠ 0 then ([], xs, E) else if right = false then ([], xs, 1) else if (xs.length : Int) < n then ([], xs, 8) else (xs.take n.toNat, xs.drop n.toNat, 0)
def rdOk (xs : List Int) (E : Int) (right : Bool) (n : Int) : Bool := decide (E = 0) && right && decide (n ≤ (xs.length : Int))

theorem own_cap {w : World} {base n m c size : Nat} {e : TypeId} {A : Option Addr} {cs : List Value} (h : w.ownsRow base e size (.slice A m c) n cs) : c ≤ 9223372036854775807 := by
  rcases h.2 with ⟨h1, _⟩ | ⟨g, cap, cur, h1, _, _, _, h2, _⟩
  · injection h1; omega
  · injection h1
    simp only [maxLen] at h2
    omega
theorem blk_cell {w : World} {g : Nat} {t : TypeId} {cs : Array Value} (h : w.heap[g]? = some (.cells cs t (0, 0))) (i : Nat) : w.cell? ⟨g, i, none⟩ = cs[i]? := cell_of_row w g i cs t (0, 0) h
theorem blk_frozen {w : World} {g : Nat} {t : TypeId} {cs : Array Value} (h : w.heap[g]? = some (.cells cs t (0, 0))) (i : Nat) : w.frozen? ⟨g, i, none⟩ = false := by simp [World.frozen?, h]
theorem blk_set {w : World} {g : Nat} {t : TypeId} {cs : Array Value} (h : w.heap[g]? = some (.cells cs t (0, 0))) (i : Nat) (u : Value) : (w.setCell ⟨g, i, none⟩ u).heap[g]? = some (.cells (cs.setIfInBounds i u) t (0, 0)) := by
  simp [World.setCell, Array.getElem?_modify, h]
theorem blk_lt {w : World} {g : Nat} {o : Obj} (h : w.heap[g]? = some o) : g < w.heap.size := (Array.getElem?_eq_some_iff.1 h).1

section
variable {w w1 : World} {R D : Nat} {T : TypeId} {xs : List Int} {E : Int}
theorem RdSt.grown {row : Option Nat} (h : RdSt w R D T xs E) (hg : w.grownBy w1 row) (hr : row ≠ some R) (hd : row ≠ some D) : RdSt w1 R D T xs E := by
  obtain ⟨A, c, h1, h2, h3, h4, h5, h6⟩ := h
  exact ⟨A, c, (hg.block R (blk_lt h1) (Ne.symm hr)).trans h1, h2, h3, h4.grown hg fun ad ha => by rw [h5 ad ha]; exact Ne.symm hd, h5, h6⟩
theorem RdSt.below (h : RdSt w R D T xs E) (hb : Below w.heap.size w w1) : RdSt w1 R D T xs E := by
  obtain ⟨A, c, h1, h2, h3, h4, h5, h6⟩ := h
  exact ⟨A, c, (hb.block R (blk_lt h1)).trans h1, h2, h3, h4.below hb, h5, h6⟩
theorem RdSt.drawn (h : RdSt w R D T xs E) (hb : Drawn w w1) : RdSt w1 R D T xs E := h.below hb.below
theorem RdSt.lt (h : RdSt w R D T xs E) : R < w.heap.size := by
  obtain ⟨A, c, h1, _⟩ := h
  exact blk_lt h1
theorem RdSt.setE (h : RdSt w R D T xs E) (F : Int) : RdSt (w.setCell ⟨R, 1, none⟩ (.int .i64 F)) R D T xs F := by
  obtain ⟨A, c, h1, h2, h3, h4, h5, h6⟩ := h
  exact ⟨A, c, blk_set h1 1 _, h2, h3, h4.grown (grown_setCell (p := ⟨R, 1, none⟩) (grown_refl w _) (.inr rfl) _) fun ad ha => by rw [h5 ad ha]; exact fun he => h6 (by injection he), h5, h6⟩
theorem RdSt.setB {A : Option Addr} {c : Nat} (h : w.heap[R]? = some (.cells #[.slice A xs.length c, .int .i64 E] T (0, 0))) (h2 : xs.length ≤ c) (h3 : c ≤ 9223372036854775807) (h4 : Cells w A (nums .u8 xs)) (h5 : ∀ ad, A = some ad → ad.block = D) (h6 : D ≠ R) (k : Nat) (hk : k ≤ xs.length) :
    RdSt (w.setCell ⟨R, 0, none⟩ (.slice (if c = k then A else A.map (·.add k)) (xs.length - k) (c - k))) R D T (xs.drop k) E := by
  have hl : (xs.drop k).length = xs.length - k := List.length_drop
  have hd := h4.drop (size := 1) (n := xs.length) (c := c) (by rw [nums_length, Nat.mul_one]) h2 k hk
  rw [Nat.mul_one] at hd
  have hA : ∀ ad, (if c = k then A else A.map (·.add k)) = some ad → ad.block = D := by
    intro ad ha
    split at ha
    · exact h5 ad ha
    · rcases A with _ | a
      · cases ha
      · injection ha with ha
        rw [← ha, block_of_add]
        exact h5 a rfl
  refine ⟨_, c - k, ?_, by omega, by omega, ?_, hA, h6⟩
  · rw [hl]
    exact blk_set h 0 _
  · rw [nums_drop]
    exact hd.grown (grown_setCell (p := ⟨R, 0, none⟩) (grown_refl w (some R)) (.inr rfl) _) fun ad ha => by rw [hA ad ha]; exact fun he => h6 (by injection he)
end

def SomeTells (R D : Nat) (T : TypeId) (xs : List Int) (E : Int) (right : Bool) (n : Int) (w : World) (e : Ending) (w' : World) : Prop :=
  ∃ A c k, e = .returned (.tuple #[.slice A k c, .bool (rdOk xs E right n)]) ∧ (rdTake xs E right n).1.length = k ∧ k ≤ c ∧ Cells w' A (nums .u8 (rdTake xs E right n).1) ∧ (∀ ad, A = some ad → ad.block = D) ∧
    RdSt w' R D T (rdTake xs E right n).2.1 (rdTake xs E right n).2.2 ∧ w.grownBy w' (some R)

theorem someTells_no {R D : Nat} {T : TypeId} {xs : List Int} {E F n : Int} {right : Bool} {w w' : World} (hT : rdTake xs E right n = ([], xs, F)) (hok : rdOk xs E right n = false) (hS : RdSt w' R D T xs F) (hg : w.grownBy w' (some R)) :
    SomeTells R D T xs E right n w (.returned (.tuple #[.slice none 0 0, .bool false])) w' :=
  ⟨none, 0, 0, by rw [hok], by rw [hT]; rfl, Nat.le_refl _, by rw [hT]; exact Cells.nil_ _ _, (fun ad h => by cases h), by rw [hT]; exact hS, hg⟩
theorem rdTake_err {xs : List Int} {E n : Int} {right : Bool} (h : E ≠ 0) : rdTake xs E right n = ([], xs, E) := by unfold rdTake; rw [if_pos h]
theorem rdTake_long {xs : List Int} {n : Int} (h : (xs.length : Int) < n) : rdTake xs 0 true n = ([], xs, 8) := by unfold rdTake; rw [if_neg (by decide), if_neg (by decide), if_pos h]
theorem rdTake_ok {xs : List Int} {n : Int} (h : ¬ (xs.length : Int) < n) : rdTake xs 0 true n = (xs.take n.toNat, xs.drop n.toNat, 0) := by unfold rdTake; rw [if_neg (by decide), if_neg (by decide), if_neg h]

set_option maxHeartbeats 400000 in
theorem some_any (R D : Nat) (xs : List Int) (E : Int) (right : Bool) (n : Int) (hn : -9223372036854775808 ≤ n) (hn' : n ≤ 9223372036854775807) (hr0 : right = true → 0 ≤ n) (w : World) (h : RdSt w R D 193 xs E) :
    Calls Try.prog 129 #[.pointer (some ⟨R, 0, none⟩), .int .i64 n, .bool right] w (SomeTells R D 193 xs E right n w) := by
  have HS := Lib.hid h
  obtain ⟨A, c, h1, h2, h3, h4, h5, h6⟩ := h
  have hc0 := blk_cell h1 0
  have hc1 := blk_cell h1 1
  simp at hc0 hc1
  have hf0 := blk_frozen h1 0
  have hf1 := blk_frozen h1 1
  have HB := Lib.hid (fun k => RdSt.setB (D := D) h1 h2 h3 h4 h5 h6 k)
  obtain ⟨m, hm⟩ : ∃ m, m = xs.length := ⟨_, rfl⟩
  rw [← hm] at hc0 h2
  have HK := Lib.hid hm
  have H4 := Lib.hid h4
  have H5 := Lib.hid h5
  clear hm h1 h4 h5 h6
  by_cases hE : E = 0
  · subst hE
    cases right with
    | false =>
      go_enter Try.func129, Try.ntmps129
      go_wp2
      go_ret2
      exact someTells_no rfl rfl (HS.out.setE 1) (grown_setCell (p := ⟨R, 1, none⟩) (grown_refl w _) (.inr rfl) _)
    | true =>
      have hn0 := hr0 rfl
      clear hr0
      by_cases hlt : (m : Int) < n
      · have HT := Lib.hid (rdTake_long (xs := xs) (n := n) (by rw [← HK.out]; exact hlt))
        have HO : Hid (rdOk xs 0 true n = false) := by
          have := HK.out
          unfold Hid rdOk
          rw [decide_eq_false (p := n ≤ (xs.length : Int)) (by omega)]
          rfl
        go_enter Try.func129, Try.ntmps129
        go_wp2
        go_ret2
        exact someTells_no HT.out HO.out (HS.out.setE 8) (grown_setCell (p := ⟨R, 1, none⟩) (grown_refl w _) (.inr rfl) _)
      · obtain ⟨k, rfl⟩ := Int.eq_ofNat_of_zero_le hn0
        have HT := Lib.hid (rdTake_ok (xs := xs) (n := (k : Int)) (by rw [← HK.out]; exact hlt))
        have HO : Hid (rdOk xs 0 true k = true) := by
          have := HK.out
          unfold Hid rdOk
          rw [decide_eq_true (p := (k : Int) ≤ (xs.length : Int)) (by omega)]
          rfl
        have hTl : Hid ((rdTake xs 0 true k).1.length = k) := by
          have := HK.out
          unfold Hid
          rw [HT.out, List.length_take]
          simp only [Int.toNat_natCast]
          omega
        have HB1 := Lib.hid (HB.out k (by have := HK.out; omega))
        have HEnd : Hid (∀ w', RdSt w' R D 193 (xs.drop k) 0 → w.grownBy w' (some R) → SomeTells R D 193 xs 0 true k w (.returned (.tuple #[.slice A k c, .bool true])) w') := by
          intro w' hS hg
          refine ⟨A, c, k, by rw [HO.out], hTl.out, by omega, ?_, H5.out, by rw [HT.out]; exact hS, hg⟩
          rw [HT.out, Int.toNat_natCast, nums_take]
          refine (H4.out.take k).grown hg fun ad ha => ?_
          rw [H5.out ad ha]
          have h6 : D ≠ R := by obtain ⟨_, _, _, _, _, _, _, h6⟩ := HS.out; exact h6
          exact fun he => h6 (by injection he)
        have hHK := HK.out
        by_cases hck : c = k
        · subst hck
          obtain rfl : m = c := by omega
          clear hHK
          go_enter Try.func129, Try.ntmps129
          go_wp2
          go_ret2
          have h1 := HB1.out
          simp only [if_true, ← HK.out, Nat.sub_self] at h1
          exact HEnd.out _ h1 (grown_setCell (p := ⟨R, 0, none⟩) (grown_refl w _) (.inr rfl) _)
        · clear hHK
          go_enter Try.func129, Try.ntmps129
          go_wp2
          go_ret2
          have h1 := HB1.out
          rw [if_neg hck, ← HK.out] at h1
          exact HEnd.out _ h1 (grown_setCell (p := ⟨R, 0, none⟩) (grown_refl w _) (.inr rfl) _)
  · have hne : (E != 0) = true := by simpa using hE
    have HT := Lib.hid (rdTake_err (xs := xs) (n := n) (right := right) hE)
    have HO : Hid (rdOk xs E right n = false) := by
      unfold Hid rdOk
      rw [decide_eq_false hE]
      rfl
    clear hE hr0
    go_enter Try.func129, Try.ntmps129
    go_wp2
    go_ret2
    exact someTells_no HT.out HO.out HS.out (grown_refl w _)

set_option maxHeartbeats 400000 in
theorem again_any (A : Option Addr) (m c : Nat) (xs : List Int) (hm : xs.length = m) (hm' : m ≤ 140737488355400) (w : World) (hx : Cells w A (nums .u8 xs)) :
    Calls Try.prog 128 #[.slice A m c] w fun e w' => ∃ g, e = .returned (.slice (some ⟨g, 0, none⟩) m m) ∧ w.heap.size ≤ g ∧ w'.ownsRow w.heap.size 5 1 (.slice (some ⟨g, 0, none⟩) m m) m (nums .u8 xs) ∧ Below w.heap.size w w' := by
  have Hm := Lib.hid hm
  clear hm
  go_enter Try.func128, Try.ntmps128
  go_wp2_with (first
    | (at_make
       refine wp_make (w0 := w) w.heap.size rfl (.tmp 5) (.tmp 5) 22 5 (.int .u8 0) 1 rfl Try.underlying22 info_u8 rfl (by decide) .i64 .i64 m m rfl rfl (by omega) (by omega) (Below.refl _ _) (Nat.le_refl _) ?_
       intro w1 hw1 hb1 hg1 hz1
       have hx1 := hx.below hb1
       have HW1 := Lib.hid hw1
       clear hw1 hx)
    | ((with_reducible refine gate .copy #[.tmp 7, .tmp 8] rfl ?_)
       refine wp_copy (w0 := w) w.heap.size rfl (.tmp 7) (.tmp 8) 22 22 5 (.int .u8 0) 1 rfl Try.underlying22 info_u8 (some ⟨w.heap.size, 0, none⟩) A m m m c rfl rfl w.heap.size 0 _ 5 HW1.out (nums .u8 xs) ?_ (fun _ => rfl) hx1 ?_ (nums_one _ _) hb1 (Nat.le_refl _) ?_
       · rw [nums_length, Hm.out]; exact (Nat.min_self _).symm
       · rw [nums_length, Hm.out]; simp
       intro w2 hw2 hb2 hg2
       have HO : Hid (w2.ownsRow w.heap.size 5 1 (.slice (some ⟨w.heap.size, 0, none⟩) m m) m (nums .u8 xs)) := by
         have h2 := own_of_block (n := m) (cap := m) (size := 1) hw2 (Nat.le_refl _) (Nat.le_refl _) (by omega) (by rw [length_splice _ _ _ (by rw [nums_length, Hm.out]; simp)]; simp)
         have h3 : (splice (List.replicate m (Value.int .u8 0)) 0 (nums .u8 xs)).take (m * 1) = nums .u8 xs := by
           unfold splice
           rw [List.take_zero, List.nil_append, Nat.mul_one]
           exact List.take_left' (by rw [nums_length]; exact Hm.out)
         rwa [h3] at h2
       have HB := Lib.hid hb2
       clear hw2 hb2 hg2 HW1 hb1 hg1 hz1))
  go_ret
  exact ⟨_, rfl, Nat.le_refl _, HO.out, HB.out⟩

theorem grown_all_below {w w1 w2 : World} {row : Option Nat} (h : w.grownBy w1 row) (k : Below w1.heap.size w1 w2) : w.grownBy w2 row :=
  World.grownBy.trans h (grown_of_below k row)

theorem rdOk_no {xs : List Int} {E n : Int} {right : Bool} (h : rdOk xs E right n = false) : (rdTake xs E right n).1 = [] := by
  unfold rdTake
  by_cases h1 : E ≠ 0
  · rw [if_pos h1]
  rw [if_neg h1]
  cases right with
  | false => rw [if_pos rfl]
  | true =>
    rw [if_neg (by decide)]
    by_cases h3 : (xs.length : Int) < n
    · rw [if_pos h3]
    · exfalso
      unfold rdOk at h
      rw [decide_eq_true (by omega), decide_eq_true (by omega)] at h
      cases h
theorem rdOk_yes {xs : List Int} {E n : Int} {right : Bool} (h : rdOk xs E right n = true) : E = 0 ∧ right = true ∧ n ≤ xs.length ∧ rdTake xs E right n = (xs.take n.toNat, xs.drop n.toNat, 0) := by
  unfold rdOk at h
  simp only [Bool.and_eq_true, decide_eq_true_eq] at h
  obtain ⟨⟨rfl, rfl⟩, h3⟩ := h
  exact ⟨rfl, rfl, h3, rdTake_ok (by omega)⟩
theorem rdTake_len {xs : List Int} {E n : Int} {right : Bool} : (rdTake xs E right n).1.length ≤ xs.length := by
  cases h : rdOk xs E right n with
  | false => rw [rdOk_no h]; simp
  | true => rw [(rdOk_yes h).2.2.2]; simp; omega
theorem rdTake_byt {xs : List Int} {E n : Int} {right : Bool} (hb : Byt xs) : Byt (rdTake xs E right n).1 := by
  cases h : rdOk xs E right n with
  | false => rw [rdOk_no h]; exact Byt.nil_
  | true => rw [(rdOk_yes h).2.2.2]; exact hb.take _
theorem getF_all {xs : List Int} {n : Int} (h1 : 1 ≤ n) (h2 : n ≤ 8) (hl : (xs.length : Int) = n) : (getF xs 0 n).1 = getN xs := by
  rw [getF_ok (by omega) (by omega), Int.toNat_zero, List.drop_zero, List.take_of_length_le (by omega)]

set_option maxHeartbeats 400000 in
theorem num_any (R D : Nat) (xs : List Int) (E : Int) (n : Int) (hn : -9223372036854775808 ≤ n) (hn' : n ≤ 9223372036854775807) (hb : Byt xs) (hl : xs.length ≤ 140737488355200) (w : World) (h : RdSt w R D 193 xs E) :
    Calls Try.prog 114 #[.pointer (some ⟨R, 0, none⟩), .int .i64 n] w fun e w' => e = .returned (.int .u64 (getN (rdTake xs E (decide (1 ≤ n) && decide (n ≤ 8)) n).1)) ∧
      RdSt w' R D 193 (rdTake xs E (decide (1 ≤ n) && decide (n ≤ 8)) n).2.1 (rdTake xs E (decide (1 ≤ n) && decide (n ≤ 8)) n).2.2 ∧ w.grownBy w' (some R) := by
  obtain ⟨r, hr⟩ : ∃ r, (decide (1 ≤ n) && decide (n ≤ 8)) = r := ⟨_, rfl⟩
  rw [hr]
  have hr0 : r = true → 0 ≤ n := by
    rintro rfl
    simp at hr
    omega
  have HS := Lib.hid (some_any R D xs E r n hn hn' hr0 w h)
  have HN : Hid (rdOk xs E r n = false → getN (rdTake xs E r n).1 = 0) := fun h => by rw [rdOk_no h]; rfl
  have HY : Hid (rdOk xs E r n = true → 1 ≤ n ∧ n ≤ 8 ∧ ((rdTake xs E r n).1.length : Int) = n ∧ (getF (rdTake xs E r n).1 0 n).1 = getN (rdTake xs E r n).1) := fun h => by
    obtain ⟨h1, rfl, h3, h4⟩ := rdOk_yes h
    simp at hr
    have hl : ((rdTake xs E true n).1.length : Int) = n := by rw [h4, List.length_take]; omega
    exact ⟨hr.1, hr.2, hl, getF_all hr.1 hr.2 hl⟩
  have HL : Hid ((rdTake xs E r n).1.length ≤ 140737488355200) := Nat.le_trans rdTake_len hl
  have HBy := Lib.hid (rdTake_byt (E := E) (right := r) (n := n) hb)
  by_cases h1 : 1 ≤ n
  · by_cases h2 : n ≤ 8
    · obtain rfl : r = true := by rw [← hr]; simp [h1, h2]
      clear hr hr0 hb hl
      go_enter Try.func114, Try.ntmps114
      go_wp2_with fail
      refine HS.out.mono ?_
      rintro e w1 ⟨A1, c1, k, rfl, hk, hkc, hC, hD, hS, hg⟩
      have hkl := HL.out
      rw [hk] at hkl
      have HK := Lib.hid hk
      have HC := Lib.hid hC
      have HSt := Lib.hid hS
      have HG := Lib.hid hg
      clear hk hC hD hS hg
      generalize hO : rdOk xs E _ n = O at *
      cases O with
      | false =>
        have hz := HN.out rfl
        have HZ := Lib.hid hz
        clear hO hz
        go_wp2_with fail
        go_ret
        exact ⟨by rw [HZ.out]; rfl, HSt.out, HG.out⟩
      | true =>
        obtain ⟨hn1, hn8, hln, hgn⟩ := HY.out rfl
        have HGN := Lib.hid hgn
        have HLN := Lib.hid hln
        clear hO hgn hln
        go_wp2_with fail
        refine (get_any A1 k c1 0 n _ HK.out (by omega) hkc (by omega) (by omega) (by omega) (by omega) w1 HC.out HBy.out).mono ?_
        rintro e w2 ⟨rfl, hd2⟩
        rw [HGN.out]
        have HSt2 := Lib.hid (HSt.out.drawn hd2)
        have HG2 := Lib.hid (grown_trans_row HG.out (grown_of_below hd2.below (some R)) (.inl rfl))
        clear hd2
        go_wp2_with fail
        go_ret
        exact ⟨rfl, HSt2.out, HG2.out⟩
    · obtain rfl : r = false := by rw [← hr]; simp [h2]
      clear hr hr0 hb hl
      go_enter Try.func114, Try.ntmps114
      go_wp2_with fail
      refine HS.out.mono ?_
      rintro e w1 ⟨A1, c1, k, rfl, hk, hkc, hC, hD, hS, hg⟩
      have hkl := HL.out
      rw [hk] at hkl
      have HK := Lib.hid hk
      have HC := Lib.hid hC
      have HSt := Lib.hid hS
      have HG := Lib.hid hg
      clear hk hC hD hS hg
      generalize hO : rdOk xs E _ n = O at *
      cases O with
      | false =>
        have hz := HN.out rfl
        have HZ := Lib.hid hz
        clear hO hz
        go_wp2_with fail
        go_ret
        exact ⟨by rw [HZ.out]; rfl, HSt.out, HG.out⟩
      | true =>
        obtain ⟨hn1, hn8, hln, hgn⟩ := HY.out rfl
        have HGN := Lib.hid hgn
        have HLN := Lib.hid hln
        clear hO hgn hln
        go_wp2_with fail
        refine (get_any A1 k c1 0 n _ HK.out (by omega) hkc (by omega) (by omega) (by omega) (by omega) w1 HC.out HBy.out).mono ?_
        rintro e w2 ⟨rfl, hd2⟩
        rw [HGN.out]
        have HSt2 := Lib.hid (HSt.out.drawn hd2)
        have HG2 := Lib.hid (grown_trans_row HG.out (grown_of_below hd2.below (some R)) (.inl rfl))
        clear hd2
        go_wp2_with fail
        go_ret
        exact ⟨rfl, HSt2.out, HG2.out⟩
  · obtain rfl : r = false := by rw [← hr]; simp [h1]
    clear hr hr0 hb hl
    go_enter Try.func114, Try.ntmps114
    go_wp2_with fail
    refine HS.out.mono ?_
    rintro e w1 ⟨A1, c1, k, rfl, hk, hkc, hC, hD, hS, hg⟩
    have hkl := HL.out
    rw [hk] at hkl
    have HK := Lib.hid hk
    have HC := Lib.hid hC
    have HSt := Lib.hid hS
    have HG := Lib.hid hg
    clear hk hC hD hS hg
    generalize hO : rdOk xs E _ n = O at *
    cases O with
    | false =>
      have hz := HN.out rfl
      have HZ := Lib.hid hz
      clear hO hz
      go_wp2_with fail
      go_ret
      exact ⟨by rw [HZ.out]; rfl, HSt.out, HG.out⟩
    | true =>
      obtain ⟨hn1, hn8, hln, hgn⟩ := HY.out rfl
      have HGN := Lib.hid hgn
      have HLN := Lib.hid hln
      clear hO hgn hln
      go_wp2_with fail
      refine (get_any A1 k c1 0 n _ HK.out (by omega) hkc (by omega) (by omega) (by omega) (by omega) w1 HC.out HBy.out).mono ?_
      rintro e w2 ⟨rfl, hd2⟩
      rw [HGN.out]
      have HSt2 := Lib.hid (HSt.out.drawn hd2)
      have HG2 := Lib.hid (grown_trans_row HG.out (grown_of_below hd2.below (some R)) (.inl rfl))
      clear hd2
      go_wp2_with fail
      go_ret
      exact ⟨rfl, HSt2.out, HG2.out⟩

set_option maxHeartbeats 400000 in
theorem take_any (R D : Nat) (xs : List Int) (E : Int) (n : Int) (hn : -9223372036854775808 ≤ n) (hn' : n ≤ 9223372036854775807) (hl : xs.length ≤ 140737488355200) (w : World) (h : RdSt w R D 193 xs E) :
    Calls Try.prog 115 #[.pointer (some ⟨R, 0, none⟩), .int .i64 n] w fun e w' => ∃ v, e = .returned v ∧ w'.ownsRow w.heap.size 5 1 v (rdTake xs E (decide (0 ≤ n)) n).1.length (nums .u8 (rdTake xs E (decide (0 ≤ n)) n).1) ∧
      RdSt w' R D 193 (rdTake xs E (decide (0 ≤ n)) n).2.1 (rdTake xs E (decide (0 ≤ n)) n).2.2 ∧ w.grownBy w' (some R) := by
  obtain ⟨r, hr⟩ : ∃ r, decide (0 ≤ n) = r := ⟨_, rfl⟩
  rw [hr]
  have HS := Lib.hid (some_any R D xs E r n hn hn' (by rintro rfl; simpa using hr) w h)
  have HN : Hid (rdOk xs E r n = false → (rdTake xs E r n).1 = []) := rdOk_no
  have HL : Hid ((rdTake xs E r n).1.length ≤ 140737488355200) := Nat.le_trans rdTake_len hl
  by_cases h1 : 0 ≤ n
  · obtain rfl : r = true := by rw [← hr]; simp [h1]
    clear hr hl
    go_enter Try.func115, Try.ntmps115
    go_wp2_with fail
    refine HS.out.mono ?_
    rintro e w1 ⟨A1, c1, k, rfl, hk, hkc, hC, hD, hS, hg⟩
    have hkl := HL.out
    rw [hk] at hkl
    have HK := Lib.hid hk
    have HC := Lib.hid hC
    have HSt := Lib.hid hS
    have HG := Lib.hid hg
    clear hk hC hD hS hg
    generalize hO : rdOk xs E _ n = O at *
    cases O with
    | false =>
      have hz := HN.out rfl
      have hk0 : k = 0 := by rw [← HK.out, hz]; rfl
      have HZ := Lib.hid hz
      clear hO hz
      go_wp2_with fail
      go_ret
      exact ⟨_, rfl, by rw [HZ.out]; exact own_nil _ _ _ _, HSt.out, HG.out⟩
    | true =>
      clear hO
      go_wp2_with fail
      refine (again_any A1 k c1 _ HK.out (by omega) w1 HC.out).mono ?_
      rintro e w2 ⟨g, rfl, hgl, ho, hb2⟩
      have HO := Lib.hid (own_weaken ho HG.out.size)
      have HSt2 := Lib.hid (HSt.out.below hb2)
      have HG2 := Lib.hid (grown_trans_row HG.out (grown_of_below hb2 (some R)) (.inl rfl))
      clear hb2 ho
      go_wp2_with fail
      go_ret
      exact ⟨_, rfl, by rw [HK.out]; exact HO.out, HSt2.out, HG2.out⟩
  · obtain rfl : r = false := by rw [← hr]; simp [h1]
    clear hr hl
    go_enter Try.func115, Try.ntmps115
    go_wp2_with fail
    refine HS.out.mono ?_
    rintro e w1 ⟨A1, c1, k, rfl, hk, hkc, hC, hD, hS, hg⟩
    have hkl := HL.out
    rw [hk] at hkl
    have HK := Lib.hid hk
    have HC := Lib.hid hC
    have HSt := Lib.hid hS
    have HG := Lib.hid hg
    clear hk hC hD hS hg
    generalize hO : rdOk xs E _ n = O at *
    cases O with
    | false =>
      have hz := HN.out rfl
      have hk0 : k = 0 := by rw [← HK.out, hz]; rfl
      have HZ := Lib.hid hz
      clear hO hz
      go_wp2_with fail
      go_ret
      exact ⟨_, rfl, by rw [HZ.out]; exact own_nil _ _ _ _, HSt.out, HG.out⟩
    | true =>
      clear hO
      go_wp2_with fail
      refine (again_any A1 k c1 _ HK.out (by omega) w1 HC.out).mono ?_
      rintro e w2 ⟨g, rfl, hgl, ho, hb2⟩
      have HO := Lib.hid (own_weaken ho HG.out.size)
      have HSt2 := Lib.hid (HSt.out.below hb2)
      have HG2 := Lib.hid (grown_trans_row HG.out (grown_of_below hb2 (some R)) (.inl rfl))
      clear hb2 ho
      go_wp2_with fail
      go_ret
      exact ⟨_, rfl, by rw [HK.out]; exact HO.out, HSt2.out, HG2.out⟩

def rdLeft (xs : List Int) (E : Int) : Int := if E ≠ 0 then 0 else (xs.length : Int)

set_option maxHeartbeats 400000 in
theorem left_any (R D : Nat) (xs : List Int) (E : Int) (w : World) (h : RdSt w R D 193 xs E) :
    Calls Try.prog 131 #[.pointer (some ⟨R, 0, none⟩)] w fun e w' => e = .returned (.int .i64 (rdLeft xs E)) ∧ w' = w := by
  obtain ⟨A, c, h1, h2, h3, h4, h5, h6⟩ := h
  have hc0 := blk_cell h1 0
  have hc1 := blk_cell h1 1
  simp at hc0 hc1
  have HL : Hid ((E ≠ 0 → rdLeft xs E = 0) ∧ (E = 0 → rdLeft xs E = (xs.length : Int))) := ⟨fun h => by unfold rdLeft; rw [if_pos h], fun h => by unfold rdLeft; rw [if_neg (by simpa using h)]⟩
  clear h1 h4 h5 h6
  by_cases hE : E = 0
  · have HZ := Lib.hid (HL.out.2 hE)
    subst hE
    clear HL
    go_enter Try.func131, Try.ntmps131
    go_wp2
    go_ret
    exact ⟨by rw [HZ.out]; rfl, rfl⟩
  · have HZ := Lib.hid (HL.out.1 hE)
    have hne : (E != 0) = true := by simpa using hE
    clear HL hE
    go_enter Try.func131, Try.ntmps131
    go_wp2
    go_ret
    exact ⟨by rw [HZ.out]; rfl, rfl⟩
set_option maxHeartbeats 400000 in
theorem err_any (R D : Nat) (xs : List Int) (E : Int) (w : World) (h : RdSt w R D 193 xs E) :
    Calls Try.prog 117 #[.pointer (some ⟨R, 0, none⟩)] w fun e w' => e = .returned (.int .i64 E) ∧ w' = w := by
  obtain ⟨A, c, h1, h2, h3, h4, h5, h6⟩ := h
  have hc1 := blk_cell h1 1
  simp at hc1
  go_enter Try.func117, Try.ntmps117
  go_wp2
  go_ret
  exact ⟨rfl, rfl⟩
set_option maxHeartbeats 400000 in
theorem rest_any (R D : Nat) (xs : List Int) (E : Int) (hl : xs.length ≤ 140737488355200) (w : World) (h : RdSt w R D 193 xs E) :
    Calls Try.prog 116 #[.pointer (some ⟨R, 0, none⟩)] w fun e w' => ∃ v, e = .returned v ∧ w'.ownsRow w.heap.size 5 1 v (rdTake xs E true (rdLeft xs E)).1.length (nums .u8 (rdTake xs E true (rdLeft xs E)).1) ∧
      RdSt w' R D 193 (rdTake xs E true (rdLeft xs E)).2.1 (rdTake xs E true (rdLeft xs E)).2.2 ∧ w.grownBy w' (some R) := by
  have HS := Lib.hid h
  have h0 : 0 ≤ rdLeft xs E ∧ rdLeft xs E ≤ xs.length := by
    unfold rdLeft
    split <;> omega
  clear h
  go_enter Try.func116, Try.ntmps116
  go_wp2_with fail
  refine (left_any R D xs E w HS.out).mono ?_
  rintro e w1 ⟨rfl, rfl⟩
  obtain ⟨n, hn⟩ : ∃ n, rdLeft xs E = n := ⟨_, rfl⟩
  rw [hn] at h0 ⊢
  have HN := Lib.hid hn
  clear hn
  go_wp2_with fail
  refine (take_any R D xs E n (by omega) (by omega) hl _ HS.out).mono ?_
  rintro e w2 ⟨v, rfl, ho, hs, hg⟩
  rw [decide_eq_true h0.1] at ho hs
  have HO := Lib.hid ho
  have HS2 := Lib.hid hs
  have HG := Lib.hid hg
  clear ho hs hg
  go_wp2_with fail
  go_ret
  exact ⟨v, rfl, by rw [HN.out]; exact HO.out, by rw [HN.out]; exact HS2.out, HG.out⟩

set_option maxHeartbeats 400000 in
theorem newReader_any (A : Option Addr) (m c : Nat) (xs : List Int) (hm : xs.length = m) (hm' : m ≤ 140737488355400) (w : World) (hx : Cells w A (nums .u8 xs)) :
    Calls Try.prog 113 #[.slice A m c] w fun e w' => ∃ R D, e = .returned (.pointer (some ⟨R, 0, none⟩)) ∧ RdSt w' R D 193 xs 0 ∧ w.heap.size ≤ R ∧ w.heap.size ≤ D ∧ R < w'.heap.size ∧ D < w'.heap.size ∧ Below w.heap.size w w' := by
  go_enter Try.func113, Try.ntmps113
  go_wp2_with fail
  refine (again_any A m c xs hm hm' w hx).mono ?_
  rintro e w1 ⟨g, rfl, hg, ho, hb⟩
  have HO := Lib.hid ho
  have HB := Lib.hid hb
  have HM := Lib.hid hm
  clear hm ho hb
  go_wp2_with fail
  go_ret
  have hgl : g < w1.heap.size := own_lt HO.out g rfl
  refine ⟨w1.heap.size, g, rfl, ⟨some ⟨g, 0, none⟩, m, ?_, by rw [HM.out]; exact Nat.le_refl _, by omega, (own_cells HO.out).alloc _, (fun ad h => by injection h with h; rw [← h]), by omega⟩, HB.out.size, hg, by simp, by simp; omega, HB.out.alloc HB.out.size _⟩
  rw [HM.out]
  exact heap_alloc_new w1 _
end Go.Proofs.Ytobddmpiljknpaa
