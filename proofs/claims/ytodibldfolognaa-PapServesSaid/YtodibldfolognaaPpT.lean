/-
  ref12: take, ReadRequest, ReadAnswer. Conditions: the data are no longer than the model's memory.
-/
import Derived.Test.YtodibldfolognaaPpS
import Derived.Test.YtodibldfolognaaPpR
namespace Go.Proofs.Ytodibldfolognaa
open Go.RowKit
set_option linter.unusedVariables false
set_option linter.unusedSimpArgs false

def TakeTell (A0 : Option Addr) (xs : List Int) (w : World) (e : Ending) (w' : World) : Prop :=
  Below w.heap.size w w' ∧ match partF xs with
    | none => e = .returned (.tuple #[.string ⟨#[]⟩, .slice none 0 0, .bool false])
    | some (p, r) => ∃ A c, e = .returned (.tuple #[.string (strOfNums p), .slice A r.length c, .bool true]) ∧ r.length ≤ c ∧ ∀ w0, Cells w0 A0 (nums .u8 xs) → Cells w0 A (nums .u8 r)
theorem take_no {A0 : Option Addr} {xs : List Int} {w w' : World} (h : partF xs = none) (hb : Below w.heap.size w w') : TakeTell A0 xs w (.returned (.tuple #[.string ⟨#[]⟩, .slice none 0 0, .bool false])) w' := ⟨hb, by rw [h]⟩
set_option maxRecDepth 100000 in
set_option maxHeartbeats 4000000 in
theorem rtake_any (A : Option Addr) (n c : Nat) (xs : List Int) (hn : xs.length = n) (hn' : n ≤ 140737488355328) (hnc : n ≤ c) (hb : Byt xs) (w : World) (hx : Cells w A (nums .u8 xs)) :
    Calls Try.prog 113 #[.slice A n c] w (TakeTell A xs w) := by
  have Hn := Lib.hid hn
  have HX := Lib.hid hx
  have HB := Lib.hid hb
  clear hn hx hb
  rcases xs with _ | ⟨X, ys⟩
  · obtain rfl : n = 0 := Hn.out.symm
    go_enter Try.func113, Try.ntmps113
    go_wp2
    go_ret3
    exact take_no rfl (Below.refl _ _)
  · have hl : ys.length + 1 = n := Hn.out
    have hX := HB.out X (by simp)
    obtain ⟨ad, rfl, hc⟩ := HX.out.num (xs := X :: ys) (i := 0) (by simp)
    have hc0 : w.cell? ad = some (.int .u8 X) := by
      have h := hc
      unfold Addr.add at h
      rw [if_pos rfl] at h
      exact h
    have hX0 := hX.1
    have hX1 := hX.2
    have hn1 : ¬ (n : Int) < 1 := by omega
    have hn1b : (0 : Int) < (n : Int) := by omega
    clear hc hX
    by_cases hlt : (ys.length : Int) < X
    · have HP : Hid (partF (X :: ys) = none) := if_pos hlt
      have hle : (n : Int) - 1 < X := by omega
      go_enter Try.func113, Try.ntmps113
      go_wp2
      go_ret3
      exact take_no HP.out (Below.refl _ _)
    · have HP : Hid (partF (X :: ys) = some (ys.take X.toNat, ys.drop X.toNat)) := if_neg hlt
      have hle : ¬ (n : Int) - 1 < X := by omega
      obtain ⟨x, rfl⟩ : ∃ x : Nat, X = x := ⟨X.toNat, by omega⟩
      have hw : IntKind.i64.wrap (1 + (x : Int)) = 1 + (x : Int) := by rw [IntKind.wrap_i64]; omega
      have b1 : ¬ (c : Int) < 1 + (x : Int) := by omega
      have b2 : 1 + (x : Int) ≤ (n : Int) := by omega
      have b3 : 1 + (x : Int) ≤ (c : Int) := by omega
      have b4 : 0 ≤ 1 + (x : Int) := by omega
      have b5 : 1 ≤ 1 + (x : Int) := by omega
      have ht : (1 + (x : Int)).toNat = 1 + x := by omega
      have hxy : x ≤ ys.length := by omega
      have hd1 := Cells.drop (size := 1) (n := n) (c := c) HX.out (by rw [nums_length, Hn.out, Nat.mul_one]) hnc 1 (by omega)
      have hd2 : ∀ w0 : World, Cells w0 (some ad) (nums .u8 ((x : Int) :: ys)) → Cells w0 (if c = 1 + x then some ad else some (ad.add (1 + x))) (nums .u8 (ys.drop x)) := fun w0 h0 => by
        have hd2 := Cells.drop (size := 1) (n := n) (c := c) h0 (by rw [nums_length, Hn.out, Nat.mul_one]) hnc (1 + x) (by omega)
        rw [Nat.mul_one, ← nums_drop, Nat.add_comm 1 x, List.drop_succ_cons, Option.map_some, Nat.add_comm x 1] at hd2
        exact hd2
      rw [Nat.mul_one, ← nums_drop, List.drop_succ_cons, List.drop_zero, Option.map_some] at hd1
      have e1 : ad.add 1 = ⟨ad.block, ad.off + 1, none⟩ := by unfold Addr.add; rw [if_neg (by decide)]
      rw [e1] at hd1
      obtain ⟨A1, hA1⟩ : ∃ A1, (if c = 1 then some ad else some (⟨ad.block, ad.off + 1, none⟩ : Addr)) = A1 := ⟨_, rfl⟩
      obtain ⟨A2, hA2⟩ : ∃ A2, (if c = 1 + x then some ad else some (ad.add (1 + x))) = A2 := ⟨_, rfl⟩
      rw [hA1] at hd1
      rw [hA2] at hd2
      have HC1 : Hid (Cells w A1 (nums .u8 (ys.take x))) := by unfold Hid; rw [nums_take]; exact hd1.take x
      have HC2 := Lib.hid hd2
      have k1 : (convert 41 9 (.slice A1 x (c - 1))).run Try.prog w.drew = .ok (.string (strOfNums (ys.take x))) w.drew :=
        conv_cells (P := Try.prog) (c := c - 1) 41 5 9 Try.underlying41 Try.underlying5 Try.underlying9 (by rw [List.length_take]; omega) HC1.out.drew
      have HLR : Hid ((ys.drop x).length = n - (1 + x)) := by unfold Hid; rw [List.length_drop]; omega
      clear hd1 hd2 e1 hl hlt
      go_enter Try.func113, Try.ntmps113
      go_wp2_with fail
      refine wp_region_held_drew (S := fun W => Ext w W) (by kernel_rfl) (by exact inferInstance) (fun hHeld => ?_)
      refine wpAnyH_take (i := 0) (v := ?_) rfl (by kernel_rfl) (by kernel_rfl) (by kernel_rfl) (fun _ _ _ h => h) (Yields.yieldsIf (Or.inl ⟨by rfl, ?_⟩)) hHeld ?_
      rotate_left
      · intro W
        go_simp
        try with_reducible rfl
      simp only [List.getElem_toArray, List.getElem_cons_succ, List.getElem_cons_zero, Act.put, List.setIfInBounds_toArray, List.set_cons_zero, List.set_cons_succ]
      refine wpAnyH_take (i := 1) (v := ?_) rfl (by kernel_rfl) (by kernel_rfl) (by kernel_rfl) (fun _ _ _ h => h) (Yields.yieldsIf (Or.inl ⟨by rfl, ?_⟩)) hHeld ?_
      rotate_left
      · intro W
        go_simp
        try with_reducible rfl
      simp only [List.getElem_toArray, List.getElem_cons_succ, List.getElem_cons_zero, Act.put, List.setIfInBounds_toArray, List.set_cons_zero, List.set_cons_succ]
      refine wpAnyH_take (i := 2) (v := ?_) rfl (by kernel_rfl) (by kernel_rfl) (by kernel_rfl) (fun _ _ _ h => h) (Yields.yieldsIf (Or.inl ⟨by rfl, ?_⟩)) hHeld ?_
      rotate_left
      · intro W
        go_simp
        try with_reducible rfl
      simp only [List.getElem_toArray, List.getElem_cons_succ, List.getElem_cons_zero, Act.put, List.setIfInBounds_toArray, List.set_cons_zero, List.set_cons_succ]
      refine wpAnyH_take (i := 4) (v := ?_) rfl (by kernel_rfl) (by kernel_rfl) (by kernel_rfl) (fun _ _ _ h => h) (Yields.yieldsIf (Or.inl ⟨by rfl, ?_⟩)) hHeld ?_
      rotate_left
      · intro W
        go_simp
        try with_reducible rfl
      simp only [List.getElem_toArray, List.getElem_cons_succ, List.getElem_cons_zero, Act.put, List.setIfInBounds_toArray, List.set_cons_zero, List.set_cons_succ]
      refine wpAnyH_take (i := 5) (v := ?_) rfl (by kernel_rfl) (by kernel_rfl) (by kernel_rfl) (fun _ _ _ h => h) (Yields.yieldsIf (Or.inl ⟨by rfl, ?_⟩)) hHeld ?_
      rotate_left
      · intro W
        go_simp
        try with_reducible rfl
      simp only [List.getElem_toArray, List.getElem_cons_succ, List.getElem_cons_zero, Act.put, List.setIfInBounds_toArray, List.set_cons_zero, List.set_cons_succ]
      refine wpAnyH_take (i := 6) (v := ?_) rfl (by kernel_rfl) (by kernel_rfl) (by kernel_rfl) (fun _ _ _ h => h) (Yields.yieldsIf (Or.inl ⟨by rfl, ?_⟩)) hHeld ?_
      rotate_left
      · intro W
        go_simp
        try with_reducible rfl
      simp only [List.getElem_toArray, List.getElem_cons_succ, List.getElem_cons_zero, Act.put, List.setIfInBounds_toArray, List.set_cons_zero, List.set_cons_succ]
      refine wpAnyH_ready (rs := [3]) (by kernel_rfl) (by simp) ?_
      refine AllReadyH.cons rfl (fun K hK => ?_) AllReadyH.nil
      rw [if_pos (by rfl)]
      unfold Oper.wp
      go_simp
      clear hHeld
      refine hK.out _ _ (by exact inferInstance) (fun hHeld => ?_)
      clear hK K
      try simp only [List.getElem_toArray, List.getElem_cons_succ, List.getElem_cons_zero, Act.put, List.setIfInBounds_toArray, List.set_cons_zero, List.set_cons_succ]
      refine wpAnyH_take (i := 7) (v := ?_) rfl (by kernel_rfl) (by kernel_rfl) (by kernel_rfl) (fun _ _ _ h => h) (Yields.yieldsIf (Or.inl ⟨by rfl, ?_⟩)) hHeld ?_
      rotate_left
      · intro W
        go_simp
        try with_reducible rfl
      simp only [List.getElem_toArray, List.getElem_cons_succ, List.getElem_cons_zero, Act.put, List.setIfInBounds_toArray, List.set_cons_zero, List.set_cons_succ]
      refine wpAnyH_take (i := 8) (v := ?_) rfl (by kernel_rfl) (by kernel_rfl) (by kernel_rfl) (fun _ _ _ h => h) (Yields.yieldsIf (Or.inl ⟨by rfl, ?_⟩)) hHeld ?_
      rotate_left
      · intro W
        go_simp
        try with_reducible rfl
      simp only [List.getElem_toArray, List.getElem_cons_succ, List.getElem_cons_zero, Act.put, List.setIfInBounds_toArray, List.set_cons_zero, List.set_cons_succ]
      refine wpAnyH_take (i := 9) (v := ?_) rfl (by kernel_rfl) (by kernel_rfl) (by kernel_rfl) (fun _ _ _ h => h) (Yields.yieldsIf (Or.inl ⟨by rfl, ?_⟩)) hHeld ?_
      rotate_left
      · intro W
        go_simp
        try with_reducible rfl
      simp only [List.getElem_toArray, List.getElem_cons_succ, List.getElem_cons_zero, Act.put, List.setIfInBounds_toArray, List.set_cons_zero, List.set_cons_succ]
      refine wpAnyH_done (by kernel_rfl) ?_ _
      clear hHeld
      clear k1 hA1 hA2
      go_wp2
      go_ret3
      refine ⟨(inferInstance : Ext w w.drew).out, ?_⟩
      rw [HP.out]
      exact ⟨A2, c - (1 + x), by rw [Int.toNat_natCast, HLR.out]; rfl, by rw [Int.toNat_natCast, HLR.out]; omega, by rw [Int.toNat_natCast]; exact HC2.out⟩
set_option maxRecDepth 100000 in
set_option maxHeartbeats 4000000 in
theorem rreadReq_any (code id : Int) (A : Option Addr) (n c : Nat) (xs : List Int) (hn : xs.length = n) (hn' : n ≤ 140737488355328) (hnc : n ≤ c) (hb : Byt xs) (w : World) (hx : Cells w A (nums .u8 xs)) :
    Calls Try.prog 64 #[.agg #[.int .i64 code, .int .i64 id, .slice A n c]] w fun e w' => RRTells (rrF code id xs) e ∧ Below w.heap.size w w' := by
  have Hn := Lib.hid hn
  have HX := Lib.hid hx
  have HB := Lib.hid hb
  clear hn hx hb
  by_cases h1 : id < 0 ∨ 255 < id
  · have HF : Hid (rrF code id xs = (([], []), 1)) := if_pos h1
    have HD := Lib.hid h1
    clear h1
    go_enter Try.func64, Try.ntmps64
    go_upto_region 1 with fail
    obtain ⟨wb, hwb⟩ : ∃ wb, w.alloc (.cells #[.int .i64 code, .int .i64 id, .slice A n c] 43) = wb := ⟨_, rfl⟩
    have HP : Hid (wb.heap[w.heap.size]? = some (.cells #[.int .i64 code, .int .i64 id, .slice A n c] 43 (0, 0))) := by unfold Hid; rw [← hwb]; exact at_new w _
    have HW : Hid (Ext w wb) := by unfold Hid; rw [← hwb]; exact inferInstance
    rw [hwb]
    clear hwb
    have p0 : wb.cell? ⟨w.heap.size, 0, none⟩ = some (.int .i64 code) := at_cell HP.out 0
    have p1 : wb.cell? ⟨w.heap.size, 1, none⟩ = some (.int .i64 id) := at_cell HP.out 1
    have p2 : wb.cell? ⟨w.heap.size, 2, none⟩ = some (.slice A n c) := at_cell HP.out 2
    go_wp2_with fail
    refine (number_no id HD.out _).mono ?_
    rintro e w1 ⟨rfl, rfl⟩
    go_wp2_with fail
    go_ret3
    exact ⟨rr_tells (p := []) (q := []) HF.out, HW.out.out⟩
  have HD := Lib.hid h1
  by_cases h2 : code = 1
  · subst h2
    rcases hp1 : partF xs with _ | ⟨p, r⟩
    · have HF : Hid (rrF 1 id xs = (([], []), 8)) := by unfold Hid rrF; rw [if_neg h1, if_neg (by simp), hp1]
      have HPF := Lib.hid hp1
      clear h1 hp1
      go_enter Try.func64, Try.ntmps64
      go_upto_region 1 with fail
      obtain ⟨wb, hwb⟩ : ∃ wb, w.alloc (.cells #[.int .i64 1, .int .i64 id, .slice A n c] 43) = wb := ⟨_, rfl⟩
      have HP : Hid (wb.heap[w.heap.size]? = some (.cells #[.int .i64 1, .int .i64 id, .slice A n c] 43 (0, 0))) := by unfold Hid; rw [← hwb]; exact at_new w _
      have HW : Hid (Ext w wb) := by unfold Hid; rw [← hwb]; exact inferInstance
      rw [hwb]
      clear hwb
      have p0 : wb.cell? ⟨w.heap.size, 0, none⟩ = some (.int .i64 1) := at_cell HP.out 0
      have p1 : wb.cell? ⟨w.heap.size, 1, none⟩ = some (.int .i64 id) := at_cell HP.out 1
      have p2 : wb.cell? ⟨w.heap.size, 2, none⟩ = some (.slice A n c) := at_cell HP.out 2
      go_wp2_with fail
      refine (number_yes id HD.out _).mono ?_
      rintro e w1 ⟨rfl, rfl⟩
      go_wp2_with fail
      refine (rtake_any A n c xs Hn.out hn' hnc HB.out _ (by have := HW.out; exact HX.out.ext)).mono ?_
      rintro e w2 ⟨hb2, he2⟩
      rw [HPF.out] at he2
      simp only at he2
      have X2 : Ext wb w2 := ⟨hb2⟩
      have HW2 : Hid (Ext w w2) := Ext.trans_ HW.out X2
      have HP2 : Hid (w2.heap[w.heap.size]? = some (.cells #[.int .i64 1, .int .i64 id, .slice A n c] 43 (0, 0))) := at_ext HP.out
      clear hb2 p0 p1 p2
      subst he2
      go_wp2_with fail
      go_ret3
      exact ⟨rr_tells (p := []) (q := []) HF.out, HW2.out.out⟩
    · rcases hp2 : partF r with _ | ⟨q, r2⟩
      · have HF : Hid (rrF 1 id xs = (([], []), 8)) := by unfold Hid rrF; rw [if_neg h1, if_neg (by simp), hp1]; simp only; rw [hp2]
        have HPF := Lib.hid hp1
        have HPF2 := Lib.hid hp2
        clear h1 hp1 hp2
        go_enter Try.func64, Try.ntmps64
        go_upto_region 1 with fail
        obtain ⟨wb, hwb⟩ : ∃ wb, w.alloc (.cells #[.int .i64 1, .int .i64 id, .slice A n c] 43) = wb := ⟨_, rfl⟩
        have HP : Hid (wb.heap[w.heap.size]? = some (.cells #[.int .i64 1, .int .i64 id, .slice A n c] 43 (0, 0))) := by unfold Hid; rw [← hwb]; exact at_new w _
        have HW : Hid (Ext w wb) := by unfold Hid; rw [← hwb]; exact inferInstance
        rw [hwb]
        clear hwb
        have p0 : wb.cell? ⟨w.heap.size, 0, none⟩ = some (.int .i64 1) := at_cell HP.out 0
        have p1 : wb.cell? ⟨w.heap.size, 1, none⟩ = some (.int .i64 id) := at_cell HP.out 1
        have p2 : wb.cell? ⟨w.heap.size, 2, none⟩ = some (.slice A n c) := at_cell HP.out 2
        go_wp2_with fail
        refine (number_yes id HD.out _).mono ?_
        rintro e w1 ⟨rfl, rfl⟩
        go_wp2_with fail
        refine (rtake_any A n c xs Hn.out hn' hnc HB.out _ (by have := HW.out; exact HX.out.ext)).mono ?_
        rintro e w2 ⟨hb2, he2⟩
        rw [HPF.out] at he2
        simp only at he2
        have X2 : Ext wb w2 := ⟨hb2⟩
        have HW2 : Hid (Ext w w2) := Ext.trans_ HW.out X2
        have HP2 : Hid (w2.heap[w.heap.size]? = some (.cells #[.int .i64 1, .int .i64 id, .slice A n c] 43 (0, 0))) := at_ext HP.out
        clear hb2 p0 p1 p2
        obtain ⟨A2, c2, rfl, hrc, hC2⟩ := he2
        have hrl : r.length ≤ 140737488355328 := by have h1 := partF_len HPF.out; have h2 := Hn.out; omega
        have HRB := Lib.hid (partF_byt HB.out HPF.out)
        have HRC : Hid (Cells w2 A2 (nums .u8 r)) := hC2 w2 (by have := HW2.out; exact HX.out.ext)
        clear hC2
        go_wp2_with fail
        refine (rtake_any A2 r.length c2 r rfl hrl hrc HRB.out _ HRC.out).mono ?_
        rintro e w3 ⟨hb3, he3⟩
        rw [HPF2.out] at he3
        simp only at he3
        have X3 : Ext w2 w3 := ⟨hb3⟩
        have HW3 : Hid (Ext w w3) := Ext.trans_ HW2.out X3
        clear hb3
        subst he3
        go_wp2_with fail
        go_ret3
        exact ⟨rr_tells (p := []) (q := []) HF.out, HW3.out.out⟩
      · have HPF := Lib.hid hp1
        have HPF2 := Lib.hid hp2
        rcases r2 with _ | ⟨r0, r2⟩
        · have HF : Hid (rrF 1 id xs = ((p, q), 0)) := by unfold Hid rrF; rw [if_neg h1, if_neg (by simp), hp1]; simp only; rw [hp2]; simp
          clear h1 hp1 hp2
          go_enter Try.func64, Try.ntmps64
          go_upto_region 1 with fail
          obtain ⟨wb, hwb⟩ : ∃ wb, w.alloc (.cells #[.int .i64 1, .int .i64 id, .slice A n c] 43) = wb := ⟨_, rfl⟩
          have HP : Hid (wb.heap[w.heap.size]? = some (.cells #[.int .i64 1, .int .i64 id, .slice A n c] 43 (0, 0))) := by unfold Hid; rw [← hwb]; exact at_new w _
          have HW : Hid (Ext w wb) := by unfold Hid; rw [← hwb]; exact inferInstance
          rw [hwb]
          clear hwb
          have p0 : wb.cell? ⟨w.heap.size, 0, none⟩ = some (.int .i64 1) := at_cell HP.out 0
          have p1 : wb.cell? ⟨w.heap.size, 1, none⟩ = some (.int .i64 id) := at_cell HP.out 1
          have p2 : wb.cell? ⟨w.heap.size, 2, none⟩ = some (.slice A n c) := at_cell HP.out 2
          go_wp2_with fail
          refine (number_yes id HD.out _).mono ?_
          rintro e w1 ⟨rfl, rfl⟩
          go_wp2_with fail
          refine (rtake_any A n c xs Hn.out hn' hnc HB.out _ (by have := HW.out; exact HX.out.ext)).mono ?_
          rintro e w2 ⟨hb2, he2⟩
          rw [HPF.out] at he2
          simp only at he2
          have X2 : Ext wb w2 := ⟨hb2⟩
          have HW2 : Hid (Ext w w2) := Ext.trans_ HW.out X2
          have HP2 : Hid (w2.heap[w.heap.size]? = some (.cells #[.int .i64 1, .int .i64 id, .slice A n c] 43 (0, 0))) := at_ext HP.out
          clear hb2 p0 p1 p2
          obtain ⟨A2, c2, rfl, hrc, hC2⟩ := he2
          have hrl : r.length ≤ 140737488355328 := by have h1 := partF_len HPF.out; have h2 := Hn.out; omega
          have HRB := Lib.hid (partF_byt HB.out HPF.out)
          have HRC : Hid (Cells w2 A2 (nums .u8 r)) := hC2 w2 (by have := HW2.out; exact HX.out.ext)
          clear hC2
          go_wp2_with fail
          refine (rtake_any A2 r.length c2 r rfl hrl hrc HRB.out _ HRC.out).mono ?_
          rintro e w3 ⟨hb3, he3⟩
          rw [HPF2.out] at he3
          simp only at he3
          have X3 : Ext w2 w3 := ⟨hb3⟩
          have HW3 : Hid (Ext w w3) := Ext.trans_ HW2.out X3
          clear hb3
          obtain ⟨A3, c3, rfl, hrc3, hC3⟩ := he3
          clear hC3
          go_wp2_with fail
          go_ret3
          exact ⟨rr_tells HF.out, HW3.out.out⟩
        · have HF : Hid (rrF 1 id xs = (([], []), 3)) := by unfold Hid rrF; rw [if_neg h1, if_neg (by simp), hp1]; simp only; rw [hp2]; simp
          clear h1 hp1 hp2
          go_enter Try.func64, Try.ntmps64
          go_upto_region 1 with fail
          obtain ⟨wb, hwb⟩ : ∃ wb, w.alloc (.cells #[.int .i64 1, .int .i64 id, .slice A n c] 43) = wb := ⟨_, rfl⟩
          have HP : Hid (wb.heap[w.heap.size]? = some (.cells #[.int .i64 1, .int .i64 id, .slice A n c] 43 (0, 0))) := by unfold Hid; rw [← hwb]; exact at_new w _
          have HW : Hid (Ext w wb) := by unfold Hid; rw [← hwb]; exact inferInstance
          rw [hwb]
          clear hwb
          have p0 : wb.cell? ⟨w.heap.size, 0, none⟩ = some (.int .i64 1) := at_cell HP.out 0
          have p1 : wb.cell? ⟨w.heap.size, 1, none⟩ = some (.int .i64 id) := at_cell HP.out 1
          have p2 : wb.cell? ⟨w.heap.size, 2, none⟩ = some (.slice A n c) := at_cell HP.out 2
          go_wp2_with fail
          refine (number_yes id HD.out _).mono ?_
          rintro e w1 ⟨rfl, rfl⟩
          go_wp2_with fail
          refine (rtake_any A n c xs Hn.out hn' hnc HB.out _ (by have := HW.out; exact HX.out.ext)).mono ?_
          rintro e w2 ⟨hb2, he2⟩
          rw [HPF.out] at he2
          simp only at he2
          have X2 : Ext wb w2 := ⟨hb2⟩
          have HW2 : Hid (Ext w w2) := Ext.trans_ HW.out X2
          have HP2 : Hid (w2.heap[w.heap.size]? = some (.cells #[.int .i64 1, .int .i64 id, .slice A n c] 43 (0, 0))) := at_ext HP.out
          clear hb2 p0 p1 p2
          obtain ⟨A2, c2, rfl, hrc, hC2⟩ := he2
          have hrl : r.length ≤ 140737488355328 := by have h1 := partF_len HPF.out; have h2 := Hn.out; omega
          have HRB := Lib.hid (partF_byt HB.out HPF.out)
          have HRC : Hid (Cells w2 A2 (nums .u8 r)) := hC2 w2 (by have := HW2.out; exact HX.out.ext)
          clear hC2
          go_wp2_with fail
          refine (rtake_any A2 r.length c2 r rfl hrl hrc HRB.out _ HRC.out).mono ?_
          rintro e w3 ⟨hb3, he3⟩
          rw [HPF2.out] at he3
          simp only at he3
          have X3 : Ext w2 w3 := ⟨hb3⟩
          have HW3 : Hid (Ext w w3) := Ext.trans_ HW2.out X3
          clear hb3
          obtain ⟨A3, c3, rfl, hrc3, hC3⟩ := he3
          clear hC3
          go_wp2_with fail
          go_ret3
          exact ⟨rr_tells (p := []) (q := []) HF.out, HW3.out.out⟩
  · have HF : Hid (rrF code id xs = (([], []), 90)) := by unfold Hid rrF; rw [if_neg h1, if_pos h2]
    have h2' : (code != 1) = true := by simpa using h2
    clear h1 h2
    go_enter Try.func64, Try.ntmps64
    go_upto_region 1 with fail
    obtain ⟨wb, hwb⟩ : ∃ wb, w.alloc (.cells #[.int .i64 code, .int .i64 id, .slice A n c] 43) = wb := ⟨_, rfl⟩
    have HP : Hid (wb.heap[w.heap.size]? = some (.cells #[.int .i64 code, .int .i64 id, .slice A n c] 43 (0, 0))) := by unfold Hid; rw [← hwb]; exact at_new w _
    have HW : Hid (Ext w wb) := by unfold Hid; rw [← hwb]; exact inferInstance
    rw [hwb]
    clear hwb
    have p0 : wb.cell? ⟨w.heap.size, 0, none⟩ = some (.int .i64 code) := at_cell HP.out 0
    have p1 : wb.cell? ⟨w.heap.size, 1, none⟩ = some (.int .i64 id) := at_cell HP.out 1
    have p2 : wb.cell? ⟨w.heap.size, 2, none⟩ = some (.slice A n c) := at_cell HP.out 2
    go_wp2_with fail
    refine (number_yes id HD.out _).mono ?_
    rintro e w1 ⟨rfl, rfl⟩
    go_wp2_with fail
    go_ret3
    exact ⟨rr_tells (p := []) (q := []) HF.out, HW.out.out⟩
set_option maxRecDepth 100000 in
set_option maxHeartbeats 4000000 in
theorem rreadAns_any (code id : Int) (A : Option Addr) (n c : Nat) (xs : List Int) (hn : xs.length = n) (hn' : n ≤ 140737488355328) (hnc : n ≤ c) (hb : Byt xs) (w : World) (hx : Cells w A (nums .u8 xs)) :
    Calls Try.prog 65 #[.agg #[.int .i64 code, .int .i64 id, .slice A n c]] w fun e w' => RATells (raF code id xs) e ∧ Below w.heap.size w w' := by
  have Hn := Lib.hid hn
  have HX := Lib.hid hx
  have HB := Lib.hid hb
  clear hn hx hb
  by_cases h1 : id < 0 ∨ 255 < id
  · have HF : Hid (raF code id xs = ((false, []), 1)) := if_pos h1
    have HD := Lib.hid h1
    clear h1
    go_enter Try.func65, Try.ntmps65
    go_upto_region 1 with fail
    obtain ⟨wb, hwb⟩ : ∃ wb, w.alloc (.cells #[.int .i64 code, .int .i64 id, .slice A n c] 43) = wb := ⟨_, rfl⟩
    have HP : Hid (wb.heap[w.heap.size]? = some (.cells #[.int .i64 code, .int .i64 id, .slice A n c] 43 (0, 0))) := by unfold Hid; rw [← hwb]; exact at_new w _
    have HW : Hid (Ext w wb) := by unfold Hid; rw [← hwb]; exact inferInstance
    rw [hwb]
    clear hwb
    have p0 : wb.cell? ⟨w.heap.size, 0, none⟩ = some (.int .i64 code) := at_cell HP.out 0
    have p1 : wb.cell? ⟨w.heap.size, 1, none⟩ = some (.int .i64 id) := at_cell HP.out 1
    have p2 : wb.cell? ⟨w.heap.size, 2, none⟩ = some (.slice A n c) := at_cell HP.out 2
    go_wp2_with fail
    refine (number_no id HD.out _).mono ?_
    rintro e w1 ⟨rfl, rfl⟩
    go_wp2_with fail
    go_ret3
    exact ⟨ra_tells (q := []) HF.out, HW.out.out⟩
  have HD := Lib.hid h1
  by_cases h2 : code = 2
  · subst h2
    clear h1
    rcases xs with _ | ⟨x0, xs⟩
    · have HF : Hid (raF 2 id [] = ((true, []), 0)) := by unfold Hid raF; rw [if_neg HD.out, if_neg (by simp), if_pos rfl]; rfl
      have hnz : ((n : Int) == 0) = true := by have h : n = 0 := Hn.out.symm; rw [h]; rfl
      go_enter Try.func65, Try.ntmps65
      go_upto_region 1 with fail
      obtain ⟨wb, hwb⟩ : ∃ wb, w.alloc (.cells #[.int .i64 2, .int .i64 id, .slice A n c] 43) = wb := ⟨_, rfl⟩
      have HP : Hid (wb.heap[w.heap.size]? = some (.cells #[.int .i64 2, .int .i64 id, .slice A n c] 43 (0, 0))) := by unfold Hid; rw [← hwb]; exact at_new w _
      have HW : Hid (Ext w wb) := by unfold Hid; rw [← hwb]; exact inferInstance
      rw [hwb]
      clear hwb
      have p0 : wb.cell? ⟨w.heap.size, 0, none⟩ = some (.int .i64 2) := at_cell HP.out 0
      have p1 : wb.cell? ⟨w.heap.size, 1, none⟩ = some (.int .i64 id) := at_cell HP.out 1
      have p2 : wb.cell? ⟨w.heap.size, 2, none⟩ = some (.slice A n c) := at_cell HP.out 2
      go_wp2_with fail
      refine (number_yes id HD.out _).mono ?_
      rintro e w1 ⟨rfl, rfl⟩
      go_wp2_with fail
      go_ret3
      exact ⟨ra_tells (q := []) HF.out, HW.out.out⟩
    have HN0 : Hid (0 < n) := by unfold Hid; rw [← Hn.out]; simp
    have hnz : ((n : Int) == 0) = false := by have := HN0.out; simp; omega
    have HF0 : Hid (raF 2 id (x0 :: xs) = match partF (x0 :: xs) with
        | none => ((false, []), 8)
        | some (p, r) => if r ≠ [] ∨ plainF p = false then ((false, []), 3) else ((true, p), 0)) := by unfold Hid raF; rw [if_neg HD.out, if_neg (by simp), if_neg (by simp)]; rfl
    obtain ⟨ys, hys⟩ : ∃ ys, x0 :: xs = ys := ⟨_, rfl⟩
    rw [hys] at Hn HX HB HF0 ⊢
    clear hys xs
    obtain ⟨xs, rfl⟩ : ∃ xs, xs = ys := ⟨ys, rfl⟩
    rcases hp1 : partF xs with _ | ⟨p, r⟩
    · have HF : Hid (raF 2 id xs = ((false, []), 8)) := by have h := HF0.out; rw [hp1] at h; exact h
      have HPF := Lib.hid hp1
      clear hp1
      go_enter Try.func65, Try.ntmps65
      go_upto_region 1 with fail
      obtain ⟨wb, hwb⟩ : ∃ wb, w.alloc (.cells #[.int .i64 2, .int .i64 id, .slice A n c] 43) = wb := ⟨_, rfl⟩
      have HP : Hid (wb.heap[w.heap.size]? = some (.cells #[.int .i64 2, .int .i64 id, .slice A n c] 43 (0, 0))) := by unfold Hid; rw [← hwb]; exact at_new w _
      have HW : Hid (Ext w wb) := by unfold Hid; rw [← hwb]; exact inferInstance
      rw [hwb]
      clear hwb
      have p0 : wb.cell? ⟨w.heap.size, 0, none⟩ = some (.int .i64 2) := at_cell HP.out 0
      have p1 : wb.cell? ⟨w.heap.size, 1, none⟩ = some (.int .i64 id) := at_cell HP.out 1
      have p2 : wb.cell? ⟨w.heap.size, 2, none⟩ = some (.slice A n c) := at_cell HP.out 2
      go_wp2_with fail
      refine (number_yes id HD.out _).mono ?_
      rintro e w1 ⟨rfl, rfl⟩
      go_wp2_with fail
      refine (rtake_any A n c xs Hn.out hn' hnc HB.out _ (by have := HW.out; exact HX.out.ext)).mono ?_
      rintro e w2 ⟨hb2, he2⟩
      rw [HPF.out] at he2
      simp only at he2
      have X2 : Ext wb w2 := ⟨hb2⟩
      have HW2 : Hid (Ext w w2) := Ext.trans_ HW.out X2
      have HP2 : Hid (w2.heap[w.heap.size]? = some (.cells #[.int .i64 2, .int .i64 id, .slice A n c] 43 (0, 0))) := at_ext HP.out
      clear hb2 p0 p1 p2
      subst he2
      go_wp2_with fail
      go_ret3
      exact ⟨ra_tells (q := []) HF.out, HW2.out.out⟩
    have HPF := Lib.hid hp1
    have HPL := Lib.hid (partF_left HB.out hp1)
    have HPS : Hid ((strOfNums p).size ≤ 140737488355328) := by
      unfold Hid
      rw [← strB_len, strB_str _ HPL.out.1]
      have h1 := HPL.out.2
      have h2 := Hn.out
      omega
    clear hp1
    rcases r with _ | ⟨r0, r2⟩
    · rcases hpl : plainF p with _ | _
      · have HF : Hid (raF 2 id xs = ((false, []), 3)) := by have h := HF0.out; rw [HPF.out] at h; exact h.trans (if_pos (.inr hpl))
        have HPP : Hid (plainF (strB (strOfNums p)) = false) := by unfold Hid; rw [strB_str _ HPL.out.1]; exact hpl
        clear hpl
        go_enter Try.func65, Try.ntmps65
        go_upto_region 1 with fail
        obtain ⟨wb, hwb⟩ : ∃ wb, w.alloc (.cells #[.int .i64 2, .int .i64 id, .slice A n c] 43) = wb := ⟨_, rfl⟩
        have HP : Hid (wb.heap[w.heap.size]? = some (.cells #[.int .i64 2, .int .i64 id, .slice A n c] 43 (0, 0))) := by unfold Hid; rw [← hwb]; exact at_new w _
        have HW : Hid (Ext w wb) := by unfold Hid; rw [← hwb]; exact inferInstance
        rw [hwb]
        clear hwb
        have p0 : wb.cell? ⟨w.heap.size, 0, none⟩ = some (.int .i64 2) := at_cell HP.out 0
        have p1 : wb.cell? ⟨w.heap.size, 1, none⟩ = some (.int .i64 id) := at_cell HP.out 1
        have p2 : wb.cell? ⟨w.heap.size, 2, none⟩ = some (.slice A n c) := at_cell HP.out 2
        go_wp2_with fail
        refine (number_yes id HD.out _).mono ?_
        rintro e w1 ⟨rfl, rfl⟩
        go_wp2_with fail
        refine (rtake_any A n c xs Hn.out hn' hnc HB.out _ (by have := HW.out; exact HX.out.ext)).mono ?_
        rintro e w2 ⟨hb2, he2⟩
        rw [HPF.out] at he2
        simp only at he2
        have X2 : Ext wb w2 := ⟨hb2⟩
        have HW2 : Hid (Ext w w2) := Ext.trans_ HW.out X2
        have HP2 : Hid (w2.heap[w.heap.size]? = some (.cells #[.int .i64 2, .int .i64 id, .slice A n c] 43 (0, 0))) := at_ext HP.out
        clear hb2 p0 p1 p2
        obtain ⟨A2, c2, rfl, hrc, hC2⟩ := he2
        clear hC2
        go_wp2_with fail
        refine (rplain_any (strOfNums p) HPS.out _).mono ?_
        rintro e w4 ⟨rfl, rfl⟩
        rw [HPP.out]
        go_wp2_with fail
        go_ret3
        exact ⟨ra_tells (q := []) HF.out, HW2.out.out⟩
      · have HF : Hid (raF 2 id xs = ((true, p), 0)) := by have h := HF0.out; rw [HPF.out] at h; exact h.trans (if_neg (by rintro (h | h); exact h rfl; rw [hpl] at h; cases h))
        have HPP : Hid (plainF (strB (strOfNums p)) = true) := by unfold Hid; rw [strB_str _ HPL.out.1]; exact hpl
        clear hpl
        go_enter Try.func65, Try.ntmps65
        go_upto_region 1 with fail
        obtain ⟨wb, hwb⟩ : ∃ wb, w.alloc (.cells #[.int .i64 2, .int .i64 id, .slice A n c] 43) = wb := ⟨_, rfl⟩
        have HP : Hid (wb.heap[w.heap.size]? = some (.cells #[.int .i64 2, .int .i64 id, .slice A n c] 43 (0, 0))) := by unfold Hid; rw [← hwb]; exact at_new w _
        have HW : Hid (Ext w wb) := by unfold Hid; rw [← hwb]; exact inferInstance
        rw [hwb]
        clear hwb
        have p0 : wb.cell? ⟨w.heap.size, 0, none⟩ = some (.int .i64 2) := at_cell HP.out 0
        have p1 : wb.cell? ⟨w.heap.size, 1, none⟩ = some (.int .i64 id) := at_cell HP.out 1
        have p2 : wb.cell? ⟨w.heap.size, 2, none⟩ = some (.slice A n c) := at_cell HP.out 2
        go_wp2_with fail
        refine (number_yes id HD.out _).mono ?_
        rintro e w1 ⟨rfl, rfl⟩
        go_wp2_with fail
        refine (rtake_any A n c xs Hn.out hn' hnc HB.out _ (by have := HW.out; exact HX.out.ext)).mono ?_
        rintro e w2 ⟨hb2, he2⟩
        rw [HPF.out] at he2
        simp only at he2
        have X2 : Ext wb w2 := ⟨hb2⟩
        have HW2 : Hid (Ext w w2) := Ext.trans_ HW.out X2
        have HP2 : Hid (w2.heap[w.heap.size]? = some (.cells #[.int .i64 2, .int .i64 id, .slice A n c] 43 (0, 0))) := at_ext HP.out
        clear hb2 p0 p1 p2
        obtain ⟨A2, c2, rfl, hrc, hC2⟩ := he2
        clear hC2
        go_wp2_with fail
        refine (rplain_any (strOfNums p) HPS.out _).mono ?_
        rintro e w4 ⟨rfl, rfl⟩
        rw [HPP.out]
        have p0 : w2.cell? ⟨w.heap.size, 0, none⟩ = some (.int .i64 2) := at_cell HP2.out 0
        go_wp2_with fail
        go_ret3
        exact ⟨ra_tells HF.out, HW2.out.out⟩
    · have HF : Hid (raF 2 id xs = ((false, []), 3)) := by have h := HF0.out; rw [HPF.out] at h; exact h.trans (if_pos (.inl (by simp)))
      go_enter Try.func65, Try.ntmps65
      go_upto_region 1 with fail
      obtain ⟨wb, hwb⟩ : ∃ wb, w.alloc (.cells #[.int .i64 2, .int .i64 id, .slice A n c] 43) = wb := ⟨_, rfl⟩
      have HP : Hid (wb.heap[w.heap.size]? = some (.cells #[.int .i64 2, .int .i64 id, .slice A n c] 43 (0, 0))) := by unfold Hid; rw [← hwb]; exact at_new w _
      have HW : Hid (Ext w wb) := by unfold Hid; rw [← hwb]; exact inferInstance
      rw [hwb]
      clear hwb
      have p0 : wb.cell? ⟨w.heap.size, 0, none⟩ = some (.int .i64 2) := at_cell HP.out 0
      have p1 : wb.cell? ⟨w.heap.size, 1, none⟩ = some (.int .i64 id) := at_cell HP.out 1
      have p2 : wb.cell? ⟨w.heap.size, 2, none⟩ = some (.slice A n c) := at_cell HP.out 2
      go_wp2_with fail
      refine (number_yes id HD.out _).mono ?_
      rintro e w1 ⟨rfl, rfl⟩
      go_wp2_with fail
      refine (rtake_any A n c xs Hn.out hn' hnc HB.out _ (by have := HW.out; exact HX.out.ext)).mono ?_
      rintro e w2 ⟨hb2, he2⟩
      rw [HPF.out] at he2
      simp only at he2
      have X2 : Ext wb w2 := ⟨hb2⟩
      have HW2 : Hid (Ext w w2) := Ext.trans_ HW.out X2
      have HP2 : Hid (w2.heap[w.heap.size]? = some (.cells #[.int .i64 2, .int .i64 id, .slice A n c] 43 (0, 0))) := at_ext HP.out
      clear hb2 p0 p1 p2
      obtain ⟨A2, c2, rfl, hrc, hC2⟩ := he2
      clear hC2
      go_wp2_with fail
      go_ret3
      exact ⟨ra_tells (q := []) HF.out, HW2.out.out⟩
  by_cases h3 : code = 3
  · subst h3
    clear h1
    rcases xs with _ | ⟨x0, xs⟩
    · have HF : Hid (raF 3 id [] = ((false, []), 0)) := by unfold Hid raF; rw [if_neg HD.out, if_neg (by simp), if_pos rfl]; rfl
      have hnz : ((n : Int) == 0) = true := by have h : n = 0 := Hn.out.symm; rw [h]; rfl
      go_enter Try.func65, Try.ntmps65
      go_upto_region 1 with fail
      obtain ⟨wb, hwb⟩ : ∃ wb, w.alloc (.cells #[.int .i64 3, .int .i64 id, .slice A n c] 43) = wb := ⟨_, rfl⟩
      have HP : Hid (wb.heap[w.heap.size]? = some (.cells #[.int .i64 3, .int .i64 id, .slice A n c] 43 (0, 0))) := by unfold Hid; rw [← hwb]; exact at_new w _
      have HW : Hid (Ext w wb) := by unfold Hid; rw [← hwb]; exact inferInstance
      rw [hwb]
      clear hwb
      have p0 : wb.cell? ⟨w.heap.size, 0, none⟩ = some (.int .i64 3) := at_cell HP.out 0
      have p1 : wb.cell? ⟨w.heap.size, 1, none⟩ = some (.int .i64 id) := at_cell HP.out 1
      have p2 : wb.cell? ⟨w.heap.size, 2, none⟩ = some (.slice A n c) := at_cell HP.out 2
      go_wp2_with fail
      refine (number_yes id HD.out _).mono ?_
      rintro e w1 ⟨rfl, rfl⟩
      go_wp2_with fail
      go_ret3
      exact ⟨ra_tells (q := []) HF.out, HW.out.out⟩
    have HN0 : Hid (0 < n) := by unfold Hid; rw [← Hn.out]; simp
    have hnz : ((n : Int) == 0) = false := by have := HN0.out; simp; omega
    have HF0 : Hid (raF 3 id (x0 :: xs) = match partF (x0 :: xs) with
        | none => ((false, []), 8)
        | some (p, r) => if r ≠ [] ∨ plainF p = false then ((false, []), 3) else ((false, p), 0)) := by unfold Hid raF; rw [if_neg HD.out, if_neg (by simp), if_neg (by simp)]; rfl
    obtain ⟨ys, hys⟩ : ∃ ys, x0 :: xs = ys := ⟨_, rfl⟩
    rw [hys] at Hn HX HB HF0 ⊢
    clear hys xs
    obtain ⟨xs, rfl⟩ : ∃ xs, xs = ys := ⟨ys, rfl⟩
    rcases hp1 : partF xs with _ | ⟨p, r⟩
    · have HF : Hid (raF 3 id xs = ((false, []), 8)) := by have h := HF0.out; rw [hp1] at h; exact h
      have HPF := Lib.hid hp1
      clear hp1
      go_enter Try.func65, Try.ntmps65
      go_upto_region 1 with fail
      obtain ⟨wb, hwb⟩ : ∃ wb, w.alloc (.cells #[.int .i64 3, .int .i64 id, .slice A n c] 43) = wb := ⟨_, rfl⟩
      have HP : Hid (wb.heap[w.heap.size]? = some (.cells #[.int .i64 3, .int .i64 id, .slice A n c] 43 (0, 0))) := by unfold Hid; rw [← hwb]; exact at_new w _
      have HW : Hid (Ext w wb) := by unfold Hid; rw [← hwb]; exact inferInstance
      rw [hwb]
      clear hwb
      have p0 : wb.cell? ⟨w.heap.size, 0, none⟩ = some (.int .i64 3) := at_cell HP.out 0
      have p1 : wb.cell? ⟨w.heap.size, 1, none⟩ = some (.int .i64 id) := at_cell HP.out 1
      have p2 : wb.cell? ⟨w.heap.size, 2, none⟩ = some (.slice A n c) := at_cell HP.out 2
      go_wp2_with fail
      refine (number_yes id HD.out _).mono ?_
      rintro e w1 ⟨rfl, rfl⟩
      go_wp2_with fail
      refine (rtake_any A n c xs Hn.out hn' hnc HB.out _ (by have := HW.out; exact HX.out.ext)).mono ?_
      rintro e w2 ⟨hb2, he2⟩
      rw [HPF.out] at he2
      simp only at he2
      have X2 : Ext wb w2 := ⟨hb2⟩
      have HW2 : Hid (Ext w w2) := Ext.trans_ HW.out X2
      have HP2 : Hid (w2.heap[w.heap.size]? = some (.cells #[.int .i64 3, .int .i64 id, .slice A n c] 43 (0, 0))) := at_ext HP.out
      clear hb2 p0 p1 p2
      subst he2
      go_wp2_with fail
      go_ret3
      exact ⟨ra_tells (q := []) HF.out, HW2.out.out⟩
    have HPF := Lib.hid hp1
    have HPL := Lib.hid (partF_left HB.out hp1)
    have HPS : Hid ((strOfNums p).size ≤ 140737488355328) := by
      unfold Hid
      rw [← strB_len, strB_str _ HPL.out.1]
      have h1 := HPL.out.2
      have h2 := Hn.out
      omega
    clear hp1
    rcases r with _ | ⟨r0, r2⟩
    · rcases hpl : plainF p with _ | _
      · have HF : Hid (raF 3 id xs = ((false, []), 3)) := by have h := HF0.out; rw [HPF.out] at h; exact h.trans (if_pos (.inr hpl))
        have HPP : Hid (plainF (strB (strOfNums p)) = false) := by unfold Hid; rw [strB_str _ HPL.out.1]; exact hpl
        clear hpl
        go_enter Try.func65, Try.ntmps65
        go_upto_region 1 with fail
        obtain ⟨wb, hwb⟩ : ∃ wb, w.alloc (.cells #[.int .i64 3, .int .i64 id, .slice A n c] 43) = wb := ⟨_, rfl⟩
        have HP : Hid (wb.heap[w.heap.size]? = some (.cells #[.int .i64 3, .int .i64 id, .slice A n c] 43 (0, 0))) := by unfold Hid; rw [← hwb]; exact at_new w _
        have HW : Hid (Ext w wb) := by unfold Hid; rw [← hwb]; exact inferInstance
        rw [hwb]
        clear hwb
        have p0 : wb.cell? ⟨w.heap.size, 0, none⟩ = some (.int .i64 3) := at_cell HP.out 0
        have p1 : wb.cell? ⟨w.heap.size, 1, none⟩ = some (.int .i64 id) := at_cell HP.out 1
        have p2 : wb.cell? ⟨w.heap.size, 2, none⟩ = some (.slice A n c) := at_cell HP.out 2
        go_wp2_with fail
        refine (number_yes id HD.out _).mono ?_
        rintro e w1 ⟨rfl, rfl⟩
        go_wp2_with fail
        refine (rtake_any A n c xs Hn.out hn' hnc HB.out _ (by have := HW.out; exact HX.out.ext)).mono ?_
        rintro e w2 ⟨hb2, he2⟩
        rw [HPF.out] at he2
        simp only at he2
        have X2 : Ext wb w2 := ⟨hb2⟩
        have HW2 : Hid (Ext w w2) := Ext.trans_ HW.out X2
        have HP2 : Hid (w2.heap[w.heap.size]? = some (.cells #[.int .i64 3, .int .i64 id, .slice A n c] 43 (0, 0))) := at_ext HP.out
        clear hb2 p0 p1 p2
        obtain ⟨A2, c2, rfl, hrc, hC2⟩ := he2
        clear hC2
        go_wp2_with fail
        refine (rplain_any (strOfNums p) HPS.out _).mono ?_
        rintro e w4 ⟨rfl, rfl⟩
        rw [HPP.out]
        go_wp2_with fail
        go_ret3
        exact ⟨ra_tells (q := []) HF.out, HW2.out.out⟩
      · have HF : Hid (raF 3 id xs = ((false, p), 0)) := by have h := HF0.out; rw [HPF.out] at h; exact h.trans (if_neg (by rintro (h | h); exact h rfl; rw [hpl] at h; cases h))
        have HPP : Hid (plainF (strB (strOfNums p)) = true) := by unfold Hid; rw [strB_str _ HPL.out.1]; exact hpl
        clear hpl
        go_enter Try.func65, Try.ntmps65
        go_upto_region 1 with fail
        obtain ⟨wb, hwb⟩ : ∃ wb, w.alloc (.cells #[.int .i64 3, .int .i64 id, .slice A n c] 43) = wb := ⟨_, rfl⟩
        have HP : Hid (wb.heap[w.heap.size]? = some (.cells #[.int .i64 3, .int .i64 id, .slice A n c] 43 (0, 0))) := by unfold Hid; rw [← hwb]; exact at_new w _
        have HW : Hid (Ext w wb) := by unfold Hid; rw [← hwb]; exact inferInstance
        rw [hwb]
        clear hwb
        have p0 : wb.cell? ⟨w.heap.size, 0, none⟩ = some (.int .i64 3) := at_cell HP.out 0
        have p1 : wb.cell? ⟨w.heap.size, 1, none⟩ = some (.int .i64 id) := at_cell HP.out 1
        have p2 : wb.cell? ⟨w.heap.size, 2, none⟩ = some (.slice A n c) := at_cell HP.out 2
        go_wp2_with fail
        refine (number_yes id HD.out _).mono ?_
        rintro e w1 ⟨rfl, rfl⟩
        go_wp2_with fail
        refine (rtake_any A n c xs Hn.out hn' hnc HB.out _ (by have := HW.out; exact HX.out.ext)).mono ?_
        rintro e w2 ⟨hb2, he2⟩
        rw [HPF.out] at he2
        simp only at he2
        have X2 : Ext wb w2 := ⟨hb2⟩
        have HW2 : Hid (Ext w w2) := Ext.trans_ HW.out X2
        have HP2 : Hid (w2.heap[w.heap.size]? = some (.cells #[.int .i64 3, .int .i64 id, .slice A n c] 43 (0, 0))) := at_ext HP.out
        clear hb2 p0 p1 p2
        obtain ⟨A2, c2, rfl, hrc, hC2⟩ := he2
        clear hC2
        go_wp2_with fail
        refine (rplain_any (strOfNums p) HPS.out _).mono ?_
        rintro e w4 ⟨rfl, rfl⟩
        rw [HPP.out]
        have p0 : w2.cell? ⟨w.heap.size, 0, none⟩ = some (.int .i64 3) := at_cell HP2.out 0
        go_wp2_with fail
        go_ret3
        exact ⟨ra_tells HF.out, HW2.out.out⟩
    · have HF : Hid (raF 3 id xs = ((false, []), 3)) := by have h := HF0.out; rw [HPF.out] at h; exact h.trans (if_pos (.inl (by simp)))
      go_enter Try.func65, Try.ntmps65
      go_upto_region 1 with fail
      obtain ⟨wb, hwb⟩ : ∃ wb, w.alloc (.cells #[.int .i64 3, .int .i64 id, .slice A n c] 43) = wb := ⟨_, rfl⟩
      have HP : Hid (wb.heap[w.heap.size]? = some (.cells #[.int .i64 3, .int .i64 id, .slice A n c] 43 (0, 0))) := by unfold Hid; rw [← hwb]; exact at_new w _
      have HW : Hid (Ext w wb) := by unfold Hid; rw [← hwb]; exact inferInstance
      rw [hwb]
      clear hwb
      have p0 : wb.cell? ⟨w.heap.size, 0, none⟩ = some (.int .i64 3) := at_cell HP.out 0
      have p1 : wb.cell? ⟨w.heap.size, 1, none⟩ = some (.int .i64 id) := at_cell HP.out 1
      have p2 : wb.cell? ⟨w.heap.size, 2, none⟩ = some (.slice A n c) := at_cell HP.out 2
      go_wp2_with fail
      refine (number_yes id HD.out _).mono ?_
      rintro e w1 ⟨rfl, rfl⟩
      go_wp2_with fail
      refine (rtake_any A n c xs Hn.out hn' hnc HB.out _ (by have := HW.out; exact HX.out.ext)).mono ?_
      rintro e w2 ⟨hb2, he2⟩
      rw [HPF.out] at he2
      simp only at he2
      have X2 : Ext wb w2 := ⟨hb2⟩
      have HW2 : Hid (Ext w w2) := Ext.trans_ HW.out X2
      have HP2 : Hid (w2.heap[w.heap.size]? = some (.cells #[.int .i64 3, .int .i64 id, .slice A n c] 43 (0, 0))) := at_ext HP.out
      clear hb2 p0 p1 p2
      obtain ⟨A2, c2, rfl, hrc, hC2⟩ := he2
      clear hC2
      go_wp2_with fail
      go_ret3
      exact ⟨ra_tells (q := []) HF.out, HW2.out.out⟩
  have HF : Hid (raF code id xs = ((false, []), 90)) := by unfold Hid raF; rw [if_neg h1, if_pos ⟨h2, h3⟩]
  have h2' : (code != 2) = true := by simpa using h2
  have h3' : (code != 3) = true := by simpa using h3
  clear h1 h2 h3
  go_enter Try.func65, Try.ntmps65
  go_upto_region 1 with fail
  obtain ⟨wb, hwb⟩ : ∃ wb, w.alloc (.cells #[.int .i64 code, .int .i64 id, .slice A n c] 43) = wb := ⟨_, rfl⟩
  have HP : Hid (wb.heap[w.heap.size]? = some (.cells #[.int .i64 code, .int .i64 id, .slice A n c] 43 (0, 0))) := by unfold Hid; rw [← hwb]; exact at_new w _
  have HW : Hid (Ext w wb) := by unfold Hid; rw [← hwb]; exact inferInstance
  rw [hwb]
  clear hwb
  have p0 : wb.cell? ⟨w.heap.size, 0, none⟩ = some (.int .i64 code) := at_cell HP.out 0
  have p1 : wb.cell? ⟨w.heap.size, 1, none⟩ = some (.int .i64 id) := at_cell HP.out 1
  have p2 : wb.cell? ⟨w.heap.size, 2, none⟩ = some (.slice A n c) := at_cell HP.out 2
  go_wp2_with fail
  refine (number_yes id HD.out _).mono ?_
  rintro e w1 ⟨rfl, rfl⟩
  go_wp2_with fail
  go_ret3
  exact ⟨ra_tells (q := []) HF.out, HW.out.out⟩
end Go.Proofs.Ytodibldfolognaa
