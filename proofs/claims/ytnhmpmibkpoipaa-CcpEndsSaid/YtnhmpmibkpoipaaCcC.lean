/-
  ccp: own, borne, proto. Conditions: the list is no longer than the model's memory.
-/
import Derived.Test.YtnhmpmibkpoipaaCcB
import Derived.Test.YtnhmpmibkpoipaaR9
namespace Go.Proofs.Ytnhmpmibkpoipaa
open Go.RowKit
set_option linter.unusedVariables false
set_option linter.unusedSimpArgs false

set_option maxRecDepth 100000 in
set_option maxHeartbeats 4000000 in
theorem own22_any (A : Option Addr) (n c : Nat) (vs : List OV) (hn : vs.length = n) (hn' : n ≤ 4398046511104) (w : World) (hx : Cells w A (flat vs)) (gx : Good w vs) :
    Calls Try.prog 80 #[.slice A n c] w (LentTells (vs.map OV.opt) w) := by
  have Hn := Lib.hid hn
  have HX := Lib.hid hx
  have GX := Lib.hid gx
  clear hn hx gx
  go_enter Try.func80, Try.ntmps80
  go_wp2
  go_loopw [3, 8] (fun o i wr => ∃ (k : Nat) (us : List OV), i = .int .i64 k ∧ k ≤ n ∧ us.length ≤ k ∧ Hid (OptsOwn wr w.heap.size o us) ∧ Hid (us.map OV.opt = (vs.map OV.opt).take k) ∧ Hid (Below w.heap.size w wr)) (fun _ i _ => n - (intOf i).toNat)
  case atStart => exact ⟨0, [], rfl, by omega, by simp, OptsOwn.nil_ _ _, rfl, Below.refl _ _⟩
  case round =>
    obtain ⟨k, us, rfl, hk, hu, HO, HE, HB⟩ := hrel
    have X0 : Ext w wr := ⟨HB.out⟩
    obtain ⟨L, cl, rfl, hcl⟩ := own_slice HO.out.1
    by_cases hlt : k < n
    · obtain ⟨v, hv, hvm⟩ := optD (vs := vs) (k := k) (by rw [Hn.out]; exact hlt)
      obtain ⟨ad, rfl, hc0, hc1⟩ := opt_at (HX.out.ext (w' := wr)) hv
      have GV := Lib.hid (GX.out v hvm)
      have HT : Hid ((vs.map OV.opt).take (k + 1) = (vs.map OV.opt).take k ++ [v.opt]) := take_snoc (by rw [List.getElem?_map, hv]; rfl)
      clear hv hvm
      obtain ⟨t, VA, vn, vc, xs⟩ := v
      simp only at hc0 hc1
      have HXL : Hid (xs.length = vn) := GV.out.1
      have HVN : Hid (vn ≤ 140737488355300) := GV.out.2.2.1
      go_wp2
      go_region_law
        (first
         | (refine step_append (wr.heap.size + 1) rfl (.const (.slice none 0 0)) (.tmp 16) 22 5 (.int .u8 0) 1 1 rfl Try.underlying22 info_u8 rfl (by decide) (by decide) (.slice none 0 0) 0 [] VA vn vc (nums .u8 xs) rfl rfl ?d5 ?d1 ?d0 ?d2 ?d3 ?d4 ?_
            (case d5 => rw [nums_length, HXL.out, Nat.mul_one])
            (case d1 => exact nums_one _ _)
            (case d0 => exact own_nil _ _ _ _)
            (case d2 => exact Cells.ext GV.out.2.2.2.2)
            (case d3 => simp)
            (case d4 => have := HVN.out; omega)
            intro v1 w1 ho1 hg1 hat1
            have S1 : Step w1 _ := ⟨below_of_grown hg1 (Nat.le_refl _) (fun k hk => by cases hk)⟩
            rw [List.nil_append, Nat.zero_add] at ho1
            obtain ⟨A1, c1, rfl, hc1'⟩ := own_slice ho1
            have P0 := at_ext (w' := w1) (at_new wr (.cells #[.int .i64 t, .slice VA vn vc] 109))
            have p0 : w1.cell? ⟨wr.heap.size, 0, none⟩ = some (.int .i64 t) := at_cell P0 0
            have X1 : Ext wr w1 := inferInstance
            have HX1 := Lib.hid X1
            have HO1 := Lib.hid (own_weaken (base' := wr.heap.size) ho1 (by omega))
            clear P0 ho1 hg1 hat1 hc1')
         | (refine step_append w.heap.size rfl (.tmp 12) (.tmp 19) 35 109 (.agg #[.int .i64 0, .slice none 0 0]) 2 32 rfl Try.underlying35 info_opt rfl (by decide) (by decide) (.slice L us.length cl) us.length (flat us) _ 1 1 [.int .i64 t, .slice A1 vn c1] rfl rfl rfl ?e1 ?e0 ?e2 ?e3 ?e4 ?_
            (case e1 => exact flat_one [⟨t, A1, vn, c1, []⟩])
            (case e0 => exact own_ext HO.out.1)
            (case e2 => exact cells_box w1 _ rfl [.int .i64 t, .slice A1 vn c1] _)
            (case e3 => exact size_ext)
            (case e4 => omega)
            intro v2 w2 ho2 hg2 hat2
            have HB2 : Hid (Below w.heap.size w w2) := below_grown (Ext.out (w := w)) (size_ext (w := w)) hg2 (own_base HO.out.1)
            obtain ⟨A2, c2, rfl, hc2⟩ := own_slice ho2
            have HO2 := Lib.hid (OptsOwn.push (W := wr) (u := ⟨t, A1, vn, c1, xs⟩) HO.out X0.out.size inferInstance (own_ext HO1.out) ⟨GV.out.1, GV.out.2.2.1, GV.out.2.2.2.1⟩ ho2 hg2 (hat2.imp_right fun h => ⟨_, h, Nat.le_refl _⟩))
            clear ho2 hg2 hat2 hc2))
      all_goals go_wp2
      all_goals go_roundw
      all_goals first
        | (refine ⟨k + 1, us ++ [⟨t, A1, vn, c1, xs⟩], by go_num, by omega, by simp; omega, HO2, ?_, HB2.out⟩
           show _ = _
           rw [HT.out, ← HE.out, List.map_append]
           rfl)
        | (simp [intOf]; omega)
    · go_wp2
      go_ret
      obtain rfl : k = n := by omega
      refine ⟨_, us, rfl, HO.out, ?_, HB.out⟩
      rw [HE.out, List.take_of_length_le (by rw [List.length_map, Hn.out]; omega)]

instance Ext.setpp_ (w w1 w' : World) (j k i : Nat) (u : Value) [q : Ext w w1] [h : Ext w w'] : Ext w (w'.setCell ⟨w1.heap.size + j + k, i, none⟩ u) := ⟨h.out.setCell (p := ⟨w1.heap.size + j + k, i, none⟩) (Nat.le_trans q.out.size (by show _ ≤ w1.heap.size + j + k; omega)) u⟩
def borneF (df bs : Int) (pre : List (Int × List Int)) (o : Int × List Int) : Bool :=
  if hasT pre o.1 then false else if o.1 = 26 then decide (o.2.length = 2) && decide (df ≠ 0) else if o.1 = 21 then decide (o.2.length = 1) && decide (bs ≠ 0) else false
theorem borneF_twice {df bs t : Int} {pre : List (Int × List Int)} {xs : List Int} (h : hasT pre t = true) : borneF df bs pre (t, xs) = false := by unfold borneF; simp [h]
theorem borneF_26 {df bs : Int} {pre : List (Int × List Int)} {xs : List Int} (h : hasT pre 26 = false) : borneF df bs pre (26, xs) = (decide (xs.length = 2) && decide (df ≠ 0)) := by unfold borneF; simp [h]
theorem borneF_21 {df bs : Int} {pre : List (Int × List Int)} {xs : List Int} (h : hasT pre 21 = false) : borneF df bs pre (21, xs) = (decide (xs.length = 1) && decide (bs ≠ 0)) := by unfold borneF; simp [h]
theorem borneF_no {df bs t : Int} {pre : List (Int × List Int)} {xs : List Int} (h1 : t ≠ 26) (h2 : t ≠ 21) : borneF df bs pre (t, xs) = false := by unfold borneF; simp [h1, h2]
theorem flat_take (vs : List OV) (i : Nat) : flat (vs.take i) = (flat vs).take (i * 2) := by
  induction vs generalizing i with
  | nil => simp [flat]
  | cons v vs ih =>
    cases i with
    | zero => simp [flat]
    | succ i =>
      rw [List.take_succ_cons, flat_cons, flat_cons, ih, show (i + 1) * 2 = i * 2 + 2 by omega]
      rfl
theorem Cells.optTake {w : World} {A : Option Addr} {vs : List OV} (h : Cells w A (flat vs)) (i : Nat) : Cells w A (flat (vs.take i)) := by rw [flat_take]; exact h.take _
theorem Good.take {w : World} {vs : List OV} (h : Good w vs) (i : Nat) : Good w (vs.take i) := fun v hv => h v (List.mem_of_mem_take hv)
set_option maxRecDepth 100000 in
set_option maxHeartbeats 4000000 in
theorem borne22_any (cf : Array Value) (df bs : Int) (A : Option Addr) (n c i : Nat) (vs : List OV) (v : OV) (hdf : cf[16]? = some (.int .i64 df)) (hbs : cf[17]? = some (.int .i64 bs)) (hn : vs.length = n) (hn' : n ≤ 4398046511104) (hnc : n ≤ c) (hv : vs[i]? = some v) (w : World) (hx : Cells w A (flat vs)) (gx : Good w vs) :
    Calls Try.prog 79 #[.agg cf, .slice A n c, .int .i64 i] w fun e w' => e = .returned (.bool (borneF df bs ((vs.take i).map OV.opt) v.opt)) ∧ Below w.heap.size w w' := by
  have Hn := Lib.hid hn
  have HX := Lib.hid hx
  have GX := Lib.hid gx
  have HDF := Lib.hid hdf
  have HBS := Lib.hid hbs
  have hi : i < n := by rw [← hn]; exact (List.getElem?_eq_some_iff.1 hv).1
  obtain ⟨ad, rfl, hc0, hc1⟩ := opt_at (HX.out.ext (w' := w.alloc (.cells cf 39))) hv
  have GV := Lib.hid (gx v (List.mem_of_getElem? hv))
  have hic : i ≤ c := by omega
  have hicI : (i : Int) ≤ (c : Int) := by omega
  have hi0 : (0 : Int) ≤ (i : Int) := by omega
  clear hn hx gx hdf hbs hv
  obtain ⟨t, VA, vn, vc, xs⟩ := v
  simp only at hc0 hc1
  have HXL : Hid (xs.length = vn) := GV.out.1
  rcases hT : hasT ((vs.take i).map OV.opt) t with _ | _
  · by_cases h26 : t = 26
    · subst h26
      have HT := Lib.hid hT
      have HR : Hid (borneF df bs ((vs.take i).map OV.opt) (26, xs) = (decide (vn = 2) && decide (df ≠ 0))) := by
        unfold Hid
        rw [borneF_26 hT, HXL.out]
      clear hT
      by_cases h2 : vn = 2
      · subst h2
        by_cases hd0 : df = 0
        · subst hd0
          go_enter Try.func79, Try.ntmps79
          go_wp2
          go_region_law
            (refine step_call ?hg Try.func68 (by kernel_rfl) (by kernel_rfl) #[.tmp 17, .tmp 19] #[35, 3] ?ho #[.slice (some ad) i c, .int .i64 26] ?hv (find_any (some ad) i c (vs.take i) 26 ?l1 ?l2 _ ?c1 ?c2) ?_
             (case hg => rfl)
             (case ho => rfl)
             (case hv => go_simp)
             (case l1 => rw [List.length_take, Hn.out]; omega)
             (case l2 => omega)
             (case c1 => exact (HX.out.optTake i).ext)
             (case c2 => exact (GX.out.take i).ext)
             rintro e w1 ⟨t2, A2, n2, c2, rfl, hb1⟩
             refine ⟨_, rfl, ?_⟩
             rw [HT.out]
             have S1 : Step w1 _ := ⟨hb1⟩
             have P0 := at_ext (w' := w1) (at_new w (.cells cf 39))
             have P1 := at_ext (w' := w1) (at_new1 (w := w.alloc (.cells cf 39)) (o := .cells #[.int .i64 26, .slice VA 2 vc] 109) (g := w.heap.size + 1) (by simp))
             have q0 : ∀ o, (w1.alloc o).cell? ⟨w.heap.size, 16, none⟩ = some (.int .i64 0) := fun o => cell_ext ((at_cell P0 16).trans HDF.out)
             have q1 : ∀ o, (w1.alloc o).cell? ⟨w.heap.size, 17, none⟩ = some (.int .i64 bs) := fun o => cell_ext ((at_cell P0 17).trans HBS.out)
             have q2 : ∀ o, (w1.alloc o).cell? ⟨w.heap.size + 1, 0, none⟩ = some (.int .i64 26) := fun o => cell_ext (at_cell P1 0)
             have q3 : ∀ o, (w1.alloc o).cell? ⟨w.heap.size + 1, 1, none⟩ = some (.slice VA 2 vc) := fun o => cell_ext (at_cell P1 1)
             have r0 : w1.cell? ⟨w.heap.size, 16, none⟩ = some (.int .i64 0) := (at_cell P0 16).trans HDF.out
             have r1 : w1.cell? ⟨w.heap.size, 17, none⟩ = some (.int .i64 bs) := (at_cell P0 17).trans HBS.out
             have r2 : w1.cell? ⟨w.heap.size + 1, 0, none⟩ = some (.int .i64 26) := at_cell P1 0
             have r3 : w1.cell? ⟨w.heap.size + 1, 1, none⟩ = some (.slice VA 2 vc) := at_cell P1 1
             first
               | (have P2 : w1.heap[w.heap.size + 2]? = some (.cells #[.int .i64 0, .slice none 0 0] 109 (0, 0)) := at_ext (w' := w1) (at_new1 (w := (w.alloc (.cells cf 39)).alloc (.cells #[.int .i64 26, .slice VA 2 vc] 109)) (o := .cells #[.int .i64 0, .slice none 0 0] 109) (g := w.heap.size + 2) (by simp))
                  have s0 : w1.cell? ⟨w.heap.size + 2, 0, none⟩ = some (.int .i64 0) := at_cell P2 0
                  have s1 : w1.cell? ⟨w.heap.size + 2, 1, none⟩ = some (.slice none 0 0) := at_cell P2 1
                  have f0 := at_frozen P2 0
                  have f1 := at_frozen P2 1
                  clear P2)
               | skip
             clear P0 P1 hb1)
          all_goals
            go_wp2
            go_ret
          all_goals exact ⟨ret_bool (by rw [show (OV.opt ⟨26, VA, 2, vc, xs⟩) = (26, xs) from rfl, HR.out]; rfl), Ext.out⟩
        · have hd1 : (df != 0) = true := by simpa using hd0
          have HR2 : Hid (borneF df bs ((vs.take i).map OV.opt) (26, xs) = true) := by unfold Hid; rw [HR.out]; simp [hd0]
          clear hd0 HR
          go_enter Try.func79, Try.ntmps79
          go_wp2
          go_region_law
            (refine step_call ?hg Try.func68 (by kernel_rfl) (by kernel_rfl) #[.tmp 17, .tmp 19] #[35, 3] ?ho #[.slice (some ad) i c, .int .i64 26] ?hv (find_any (some ad) i c (vs.take i) 26 ?l1 ?l2 _ ?c1 ?c2) ?_
             (case hg => rfl)
             (case ho => rfl)
             (case hv => go_simp)
             (case l1 => rw [List.length_take, Hn.out]; omega)
             (case l2 => omega)
             (case c1 => exact (HX.out.optTake i).ext)
             (case c2 => exact (GX.out.take i).ext)
             rintro e w1 ⟨t2, A2, n2, c2, rfl, hb1⟩
             refine ⟨_, rfl, ?_⟩
             rw [HT.out]
             have S1 : Step w1 _ := ⟨hb1⟩
             have P0 := at_ext (w' := w1) (at_new w (.cells cf 39))
             have P1 := at_ext (w' := w1) (at_new1 (w := w.alloc (.cells cf 39)) (o := .cells #[.int .i64 26, .slice VA 2 vc] 109) (g := w.heap.size + 1) (by simp))
             have q0 : ∀ o, (w1.alloc o).cell? ⟨w.heap.size, 16, none⟩ = some (.int .i64 df) := fun o => cell_ext ((at_cell P0 16).trans HDF.out)
             have q1 : ∀ o, (w1.alloc o).cell? ⟨w.heap.size, 17, none⟩ = some (.int .i64 bs) := fun o => cell_ext ((at_cell P0 17).trans HBS.out)
             have q2 : ∀ o, (w1.alloc o).cell? ⟨w.heap.size + 1, 0, none⟩ = some (.int .i64 26) := fun o => cell_ext (at_cell P1 0)
             have q3 : ∀ o, (w1.alloc o).cell? ⟨w.heap.size + 1, 1, none⟩ = some (.slice VA 2 vc) := fun o => cell_ext (at_cell P1 1)
             have r0 : w1.cell? ⟨w.heap.size, 16, none⟩ = some (.int .i64 df) := (at_cell P0 16).trans HDF.out
             have r1 : w1.cell? ⟨w.heap.size, 17, none⟩ = some (.int .i64 bs) := (at_cell P0 17).trans HBS.out
             have r2 : w1.cell? ⟨w.heap.size + 1, 0, none⟩ = some (.int .i64 26) := at_cell P1 0
             have r3 : w1.cell? ⟨w.heap.size + 1, 1, none⟩ = some (.slice VA 2 vc) := at_cell P1 1
             first
               | (have P2 : w1.heap[w.heap.size + 2]? = some (.cells #[.int .i64 0, .slice none 0 0] 109 (0, 0)) := at_ext (w' := w1) (at_new1 (w := (w.alloc (.cells cf 39)).alloc (.cells #[.int .i64 26, .slice VA 2 vc] 109)) (o := .cells #[.int .i64 0, .slice none 0 0] 109) (g := w.heap.size + 2) (by simp))
                  have s0 : w1.cell? ⟨w.heap.size + 2, 0, none⟩ = some (.int .i64 0) := at_cell P2 0
                  have s1 : w1.cell? ⟨w.heap.size + 2, 1, none⟩ = some (.slice none 0 0) := at_cell P2 1
                  have f0 := at_frozen P2 0
                  have f1 := at_frozen P2 1
                  clear P2)
               | skip
             clear P0 P1 hb1)
          all_goals
            go_wp2
            go_ret
          all_goals exact ⟨ret_bool HR2.out.symm, Ext.out⟩
      · have h2' : ((vn : Int) == 2) = false := by rw [beq_eq_false_iff_ne]; omega
        have HR2 : Hid (borneF df bs ((vs.take i).map OV.opt) (26, xs) = false) := by unfold Hid; rw [HR.out]; simp [h2]
        clear h2 HR
        go_enter Try.func79, Try.ntmps79
        go_wp2
        go_region_law
          (refine step_call ?hg Try.func68 (by kernel_rfl) (by kernel_rfl) #[.tmp 17, .tmp 19] #[35, 3] ?ho #[.slice (some ad) i c, .int .i64 26] ?hv (find_any (some ad) i c (vs.take i) 26 ?l1 ?l2 _ ?c1 ?c2) ?_
           (case hg => rfl)
           (case ho => rfl)
           (case hv => go_simp)
           (case l1 => rw [List.length_take, Hn.out]; omega)
           (case l2 => omega)
           (case c1 => exact (HX.out.optTake i).ext)
           (case c2 => exact (GX.out.take i).ext)
           rintro e w1 ⟨t2, A2, n2, c2, rfl, hb1⟩
           refine ⟨_, rfl, ?_⟩
           rw [HT.out]
           have S1 : Step w1 _ := ⟨hb1⟩
           have P0 := at_ext (w' := w1) (at_new w (.cells cf 39))
           have P1 := at_ext (w' := w1) (at_new1 (w := w.alloc (.cells cf 39)) (o := .cells #[.int .i64 26, .slice VA vn vc] 109) (g := w.heap.size + 1) (by simp))
           have q0 : ∀ o, (w1.alloc o).cell? ⟨w.heap.size, 16, none⟩ = some (.int .i64 df) := fun o => cell_ext ((at_cell P0 16).trans HDF.out)
           have q1 : ∀ o, (w1.alloc o).cell? ⟨w.heap.size, 17, none⟩ = some (.int .i64 bs) := fun o => cell_ext ((at_cell P0 17).trans HBS.out)
           have q2 : ∀ o, (w1.alloc o).cell? ⟨w.heap.size + 1, 0, none⟩ = some (.int .i64 26) := fun o => cell_ext (at_cell P1 0)
           have q3 : ∀ o, (w1.alloc o).cell? ⟨w.heap.size + 1, 1, none⟩ = some (.slice VA vn vc) := fun o => cell_ext (at_cell P1 1)
           have r0 : w1.cell? ⟨w.heap.size, 16, none⟩ = some (.int .i64 df) := (at_cell P0 16).trans HDF.out
           have r1 : w1.cell? ⟨w.heap.size, 17, none⟩ = some (.int .i64 bs) := (at_cell P0 17).trans HBS.out
           have r2 : w1.cell? ⟨w.heap.size + 1, 0, none⟩ = some (.int .i64 26) := at_cell P1 0
           have r3 : w1.cell? ⟨w.heap.size + 1, 1, none⟩ = some (.slice VA vn vc) := at_cell P1 1
           first
             | (have P2 : w1.heap[w.heap.size + 2]? = some (.cells #[.int .i64 0, .slice none 0 0] 109 (0, 0)) := at_ext (w' := w1) (at_new1 (w := (w.alloc (.cells cf 39)).alloc (.cells #[.int .i64 26, .slice VA vn vc] 109)) (o := .cells #[.int .i64 0, .slice none 0 0] 109) (g := w.heap.size + 2) (by simp))
                have s0 : w1.cell? ⟨w.heap.size + 2, 0, none⟩ = some (.int .i64 0) := at_cell P2 0
                have s1 : w1.cell? ⟨w.heap.size + 2, 1, none⟩ = some (.slice none 0 0) := at_cell P2 1
                have f0 := at_frozen P2 0
                have f1 := at_frozen P2 1
                clear P2)
             | skip
           clear P0 P1 hb1)
        all_goals
          go_wp2
          go_ret
        all_goals exact ⟨ret_bool HR2.out.symm, Ext.out⟩
    have h26' : (t == 26) = false := by simpa using h26
    by_cases h21 : t = 21
    · subst h21
      clear h26 h26'
      have HT := Lib.hid hT
      have HR : Hid (borneF df bs ((vs.take i).map OV.opt) (21, xs) = (decide (vn = 1) && decide (bs ≠ 0))) := by
        unfold Hid
        rw [borneF_21 hT, HXL.out]
      clear hT
      by_cases h2 : vn = 1
      · subst h2
        by_cases hd0 : bs = 0
        · subst hd0
          have HR2 : Hid (borneF df 0 ((vs.take i).map OV.opt) (21, xs) = false) := by unfold Hid; rw [HR.out]; rfl
          go_enter Try.func79, Try.ntmps79
          go_wp2
          go_region_law
            (refine step_call ?hg Try.func68 (by kernel_rfl) (by kernel_rfl) #[.tmp 17, .tmp 19] #[35, 3] ?ho #[.slice (some ad) i c, .int .i64 21] ?hv (find_any (some ad) i c (vs.take i) 21 ?l1 ?l2 _ ?c1 ?c2) ?_
             (case hg => rfl)
             (case ho => rfl)
             (case hv => go_simp)
             (case l1 => rw [List.length_take, Hn.out]; omega)
             (case l2 => omega)
             (case c1 => exact (HX.out.optTake i).ext)
             (case c2 => exact (GX.out.take i).ext)
             rintro e w1 ⟨t2, A2, n2, c2, rfl, hb1⟩
             refine ⟨_, rfl, ?_⟩
             rw [HT.out]
             have S1 : Step w1 _ := ⟨hb1⟩
             have P0 := at_ext (w' := w1) (at_new w (.cells cf 39))
             have P1 := at_ext (w' := w1) (at_new1 (w := w.alloc (.cells cf 39)) (o := .cells #[.int .i64 21, .slice VA 1 vc] 109) (g := w.heap.size + 1) (by simp))
             have q0 : ∀ o, (w1.alloc o).cell? ⟨w.heap.size, 16, none⟩ = some (.int .i64 df) := fun o => cell_ext ((at_cell P0 16).trans HDF.out)
             have q1 : ∀ o, (w1.alloc o).cell? ⟨w.heap.size, 17, none⟩ = some (.int .i64 0) := fun o => cell_ext ((at_cell P0 17).trans HBS.out)
             have q2 : ∀ o, (w1.alloc o).cell? ⟨w.heap.size + 1, 0, none⟩ = some (.int .i64 21) := fun o => cell_ext (at_cell P1 0)
             have q3 : ∀ o, (w1.alloc o).cell? ⟨w.heap.size + 1, 1, none⟩ = some (.slice VA 1 vc) := fun o => cell_ext (at_cell P1 1)
             have r0 : w1.cell? ⟨w.heap.size, 16, none⟩ = some (.int .i64 df) := (at_cell P0 16).trans HDF.out
             have r1 : w1.cell? ⟨w.heap.size, 17, none⟩ = some (.int .i64 0) := (at_cell P0 17).trans HBS.out
             have r2 : w1.cell? ⟨w.heap.size + 1, 0, none⟩ = some (.int .i64 21) := at_cell P1 0
             have r3 : w1.cell? ⟨w.heap.size + 1, 1, none⟩ = some (.slice VA 1 vc) := at_cell P1 1
             first
               | (have P2 : w1.heap[w.heap.size + 2]? = some (.cells #[.int .i64 0, .slice none 0 0] 109 (0, 0)) := at_ext (w' := w1) (at_new1 (w := (w.alloc (.cells cf 39)).alloc (.cells #[.int .i64 21, .slice VA 1 vc] 109)) (o := .cells #[.int .i64 0, .slice none 0 0] 109) (g := w.heap.size + 2) (by simp))
                  have s0 : w1.cell? ⟨w.heap.size + 2, 0, none⟩ = some (.int .i64 0) := at_cell P2 0
                  have s1 : w1.cell? ⟨w.heap.size + 2, 1, none⟩ = some (.slice none 0 0) := at_cell P2 1
                  have f0 := at_frozen P2 0
                  have f1 := at_frozen P2 1
                  clear P2)
               | skip
             clear P0 P1 hb1)
          all_goals
            go_wp2
            go_ret
          all_goals exact ⟨ret_bool HR2.out.symm, Ext.out⟩
        · have hd1 : (bs != 0) = true := by simpa using hd0
          have HR2 : Hid (borneF df bs ((vs.take i).map OV.opt) (21, xs) = true) := by unfold Hid; rw [HR.out]; simp [hd0]
          clear hd0 HR
          go_enter Try.func79, Try.ntmps79
          go_wp2
          go_region_law
            (refine step_call ?hg Try.func68 (by kernel_rfl) (by kernel_rfl) #[.tmp 17, .tmp 19] #[35, 3] ?ho #[.slice (some ad) i c, .int .i64 21] ?hv (find_any (some ad) i c (vs.take i) 21 ?l1 ?l2 _ ?c1 ?c2) ?_
             (case hg => rfl)
             (case ho => rfl)
             (case hv => go_simp)
             (case l1 => rw [List.length_take, Hn.out]; omega)
             (case l2 => omega)
             (case c1 => exact (HX.out.optTake i).ext)
             (case c2 => exact (GX.out.take i).ext)
             rintro e w1 ⟨t2, A2, n2, c2, rfl, hb1⟩
             refine ⟨_, rfl, ?_⟩
             rw [HT.out]
             have S1 : Step w1 _ := ⟨hb1⟩
             have P0 := at_ext (w' := w1) (at_new w (.cells cf 39))
             have P1 := at_ext (w' := w1) (at_new1 (w := w.alloc (.cells cf 39)) (o := .cells #[.int .i64 21, .slice VA 1 vc] 109) (g := w.heap.size + 1) (by simp))
             have q0 : ∀ o, (w1.alloc o).cell? ⟨w.heap.size, 16, none⟩ = some (.int .i64 df) := fun o => cell_ext ((at_cell P0 16).trans HDF.out)
             have q1 : ∀ o, (w1.alloc o).cell? ⟨w.heap.size, 17, none⟩ = some (.int .i64 bs) := fun o => cell_ext ((at_cell P0 17).trans HBS.out)
             have q2 : ∀ o, (w1.alloc o).cell? ⟨w.heap.size + 1, 0, none⟩ = some (.int .i64 21) := fun o => cell_ext (at_cell P1 0)
             have q3 : ∀ o, (w1.alloc o).cell? ⟨w.heap.size + 1, 1, none⟩ = some (.slice VA 1 vc) := fun o => cell_ext (at_cell P1 1)
             have r0 : w1.cell? ⟨w.heap.size, 16, none⟩ = some (.int .i64 df) := (at_cell P0 16).trans HDF.out
             have r1 : w1.cell? ⟨w.heap.size, 17, none⟩ = some (.int .i64 bs) := (at_cell P0 17).trans HBS.out
             have r2 : w1.cell? ⟨w.heap.size + 1, 0, none⟩ = some (.int .i64 21) := at_cell P1 0
             have r3 : w1.cell? ⟨w.heap.size + 1, 1, none⟩ = some (.slice VA 1 vc) := at_cell P1 1
             first
               | (have P2 : w1.heap[w.heap.size + 2]? = some (.cells #[.int .i64 0, .slice none 0 0] 109 (0, 0)) := at_ext (w' := w1) (at_new1 (w := (w.alloc (.cells cf 39)).alloc (.cells #[.int .i64 21, .slice VA 1 vc] 109)) (o := .cells #[.int .i64 0, .slice none 0 0] 109) (g := w.heap.size + 2) (by simp))
                  have s0 : w1.cell? ⟨w.heap.size + 2, 0, none⟩ = some (.int .i64 0) := at_cell P2 0
                  have s1 : w1.cell? ⟨w.heap.size + 2, 1, none⟩ = some (.slice none 0 0) := at_cell P2 1
                  have f0 := at_frozen P2 0
                  have f1 := at_frozen P2 1
                  clear P2)
               | skip
             clear P0 P1 hb1)
          all_goals
            go_wp2
            go_ret
          all_goals exact ⟨ret_bool HR2.out.symm, Ext.out⟩
      · have h2' : ((vn : Int) == 1) = false := by rw [beq_eq_false_iff_ne]; omega
        have HR2 : Hid (borneF df bs ((vs.take i).map OV.opt) (21, xs) = false) := by unfold Hid; rw [HR.out]; simp [h2]
        clear h2 HR
        go_enter Try.func79, Try.ntmps79
        go_wp2
        go_region_law
          (refine step_call ?hg Try.func68 (by kernel_rfl) (by kernel_rfl) #[.tmp 17, .tmp 19] #[35, 3] ?ho #[.slice (some ad) i c, .int .i64 21] ?hv (find_any (some ad) i c (vs.take i) 21 ?l1 ?l2 _ ?c1 ?c2) ?_
           (case hg => rfl)
           (case ho => rfl)
           (case hv => go_simp)
           (case l1 => rw [List.length_take, Hn.out]; omega)
           (case l2 => omega)
           (case c1 => exact (HX.out.optTake i).ext)
           (case c2 => exact (GX.out.take i).ext)
           rintro e w1 ⟨t2, A2, n2, c2, rfl, hb1⟩
           refine ⟨_, rfl, ?_⟩
           rw [HT.out]
           have S1 : Step w1 _ := ⟨hb1⟩
           have P0 := at_ext (w' := w1) (at_new w (.cells cf 39))
           have P1 := at_ext (w' := w1) (at_new1 (w := w.alloc (.cells cf 39)) (o := .cells #[.int .i64 21, .slice VA vn vc] 109) (g := w.heap.size + 1) (by simp))
           have q0 : ∀ o, (w1.alloc o).cell? ⟨w.heap.size, 16, none⟩ = some (.int .i64 df) := fun o => cell_ext ((at_cell P0 16).trans HDF.out)
           have q1 : ∀ o, (w1.alloc o).cell? ⟨w.heap.size, 17, none⟩ = some (.int .i64 bs) := fun o => cell_ext ((at_cell P0 17).trans HBS.out)
           have q2 : ∀ o, (w1.alloc o).cell? ⟨w.heap.size + 1, 0, none⟩ = some (.int .i64 21) := fun o => cell_ext (at_cell P1 0)
           have q3 : ∀ o, (w1.alloc o).cell? ⟨w.heap.size + 1, 1, none⟩ = some (.slice VA vn vc) := fun o => cell_ext (at_cell P1 1)
           have r0 : w1.cell? ⟨w.heap.size, 16, none⟩ = some (.int .i64 df) := (at_cell P0 16).trans HDF.out
           have r1 : w1.cell? ⟨w.heap.size, 17, none⟩ = some (.int .i64 bs) := (at_cell P0 17).trans HBS.out
           have r2 : w1.cell? ⟨w.heap.size + 1, 0, none⟩ = some (.int .i64 21) := at_cell P1 0
           have r3 : w1.cell? ⟨w.heap.size + 1, 1, none⟩ = some (.slice VA vn vc) := at_cell P1 1
           first
             | (have P2 : w1.heap[w.heap.size + 2]? = some (.cells #[.int .i64 0, .slice none 0 0] 109 (0, 0)) := at_ext (w' := w1) (at_new1 (w := (w.alloc (.cells cf 39)).alloc (.cells #[.int .i64 21, .slice VA vn vc] 109)) (o := .cells #[.int .i64 0, .slice none 0 0] 109) (g := w.heap.size + 2) (by simp))
                have s0 : w1.cell? ⟨w.heap.size + 2, 0, none⟩ = some (.int .i64 0) := at_cell P2 0
                have s1 : w1.cell? ⟨w.heap.size + 2, 1, none⟩ = some (.slice none 0 0) := at_cell P2 1
                have f0 := at_frozen P2 0
                have f1 := at_frozen P2 1
                clear P2)
             | skip
           clear P0 P1 hb1)
        all_goals
          go_wp2
          go_ret
        all_goals exact ⟨ret_bool HR2.out.symm, Ext.out⟩
    · have h21' : (t == 21) = false := by simpa using h21
      have HT := Lib.hid hT
      have HR2 := Lib.hid (borneF_no (df := df) (bs := bs) (pre := (vs.take i).map OV.opt) (xs := xs) h26 h21)
      clear hT h26 h21
      go_enter Try.func79, Try.ntmps79
      go_wp2
      go_region_law
        (refine step_call ?hg Try.func68 (by kernel_rfl) (by kernel_rfl) #[.tmp 17, .tmp 19] #[35, 3] ?ho #[.slice (some ad) i c, .int .i64 t] ?hv (find_any (some ad) i c (vs.take i) t ?l1 ?l2 _ ?c1 ?c2) ?_
         (case hg => rfl)
         (case ho => rfl)
         (case hv => go_simp)
         (case l1 => rw [List.length_take, Hn.out]; omega)
         (case l2 => omega)
         (case c1 => exact (HX.out.optTake i).ext)
         (case c2 => exact (GX.out.take i).ext)
         rintro e w1 ⟨t2, A2, n2, c2, rfl, hb1⟩
         refine ⟨_, rfl, ?_⟩
         rw [HT.out]
         have S1 : Step w1 _ := ⟨hb1⟩
         have P0 := at_ext (w' := w1) (at_new w (.cells cf 39))
         have P1 := at_ext (w' := w1) (at_new1 (w := w.alloc (.cells cf 39)) (o := .cells #[.int .i64 t, .slice VA vn vc] 109) (g := w.heap.size + 1) (by simp))
         have q0 : ∀ o, (w1.alloc o).cell? ⟨w.heap.size, 16, none⟩ = some (.int .i64 df) := fun o => cell_ext ((at_cell P0 16).trans HDF.out)
         have q1 : ∀ o, (w1.alloc o).cell? ⟨w.heap.size, 17, none⟩ = some (.int .i64 bs) := fun o => cell_ext ((at_cell P0 17).trans HBS.out)
         have q2 : ∀ o, (w1.alloc o).cell? ⟨w.heap.size + 1, 0, none⟩ = some (.int .i64 t) := fun o => cell_ext (at_cell P1 0)
         have q3 : ∀ o, (w1.alloc o).cell? ⟨w.heap.size + 1, 1, none⟩ = some (.slice VA vn vc) := fun o => cell_ext (at_cell P1 1)
         have r0 : w1.cell? ⟨w.heap.size, 16, none⟩ = some (.int .i64 df) := (at_cell P0 16).trans HDF.out
         have r1 : w1.cell? ⟨w.heap.size, 17, none⟩ = some (.int .i64 bs) := (at_cell P0 17).trans HBS.out
         have r2 : w1.cell? ⟨w.heap.size + 1, 0, none⟩ = some (.int .i64 t) := at_cell P1 0
         have r3 : w1.cell? ⟨w.heap.size + 1, 1, none⟩ = some (.slice VA vn vc) := at_cell P1 1
         first
           | (have P2 : w1.heap[w.heap.size + 2]? = some (.cells #[.int .i64 0, .slice none 0 0] 109 (0, 0)) := at_ext (w' := w1) (at_new1 (w := (w.alloc (.cells cf 39)).alloc (.cells #[.int .i64 t, .slice VA vn vc] 109)) (o := .cells #[.int .i64 0, .slice none 0 0] 109) (g := w.heap.size + 2) (by simp))
              have s0 : w1.cell? ⟨w.heap.size + 2, 0, none⟩ = some (.int .i64 0) := at_cell P2 0
              have s1 : w1.cell? ⟨w.heap.size + 2, 1, none⟩ = some (.slice none 0 0) := at_cell P2 1
              have f0 := at_frozen P2 0
              have f1 := at_frozen P2 1
              clear P2)
           | skip
         clear P0 P1 hb1)
      all_goals
        go_wp2
        go_ret
      all_goals exact ⟨ret_bool HR2.out.symm, Ext.out⟩
  · have HT := Lib.hid hT
    have HR2 := Lib.hid (borneF_twice (df := df) (bs := bs) (xs := xs) hT)
    clear hT
    go_enter Try.func79, Try.ntmps79
    go_wp2
    go_region_law
      (refine step_call ?hg Try.func68 (by kernel_rfl) (by kernel_rfl) #[.tmp 17, .tmp 19] #[35, 3] ?ho #[.slice (some ad) i c, .int .i64 t] ?hv (find_any (some ad) i c (vs.take i) t ?l1 ?l2 _ ?c1 ?c2) ?_
       (case hg => rfl)
       (case ho => rfl)
       (case hv => go_simp)
       (case l1 => rw [List.length_take, Hn.out]; omega)
       (case l2 => omega)
       (case c1 => exact (HX.out.optTake i).ext)
       (case c2 => exact (GX.out.take i).ext)
       rintro e w1 ⟨t2, A2, n2, c2, rfl, hb1⟩
       refine ⟨_, rfl, ?_⟩
       rw [HT.out]
       have S1 : Step w1 _ := ⟨hb1⟩
       have P0 := at_ext (w' := w1) (at_new w (.cells cf 39))
       have P1 := at_ext (w' := w1) (at_new1 (w := w.alloc (.cells cf 39)) (o := .cells #[.int .i64 t, .slice VA vn vc] 109) (g := w.heap.size + 1) (by simp))
       have q0 : ∀ o, (w1.alloc o).cell? ⟨w.heap.size, 16, none⟩ = some (.int .i64 df) := fun o => cell_ext ((at_cell P0 16).trans HDF.out)
       have q1 : ∀ o, (w1.alloc o).cell? ⟨w.heap.size, 17, none⟩ = some (.int .i64 bs) := fun o => cell_ext ((at_cell P0 17).trans HBS.out)
       have q2 : ∀ o, (w1.alloc o).cell? ⟨w.heap.size + 1, 0, none⟩ = some (.int .i64 t) := fun o => cell_ext (at_cell P1 0)
       have q3 : ∀ o, (w1.alloc o).cell? ⟨w.heap.size + 1, 1, none⟩ = some (.slice VA vn vc) := fun o => cell_ext (at_cell P1 1)
       have r0 : w1.cell? ⟨w.heap.size, 16, none⟩ = some (.int .i64 df) := (at_cell P0 16).trans HDF.out
       have r1 : w1.cell? ⟨w.heap.size, 17, none⟩ = some (.int .i64 bs) := (at_cell P0 17).trans HBS.out
       have r2 : w1.cell? ⟨w.heap.size + 1, 0, none⟩ = some (.int .i64 t) := at_cell P1 0
       have r3 : w1.cell? ⟨w.heap.size + 1, 1, none⟩ = some (.slice VA vn vc) := at_cell P1 1
       first
         | (have P2 : w1.heap[w.heap.size + 2]? = some (.cells #[.int .i64 0, .slice none 0 0] 109 (0, 0)) := at_ext (w' := w1) (at_new1 (w := (w.alloc (.cells cf 39)).alloc (.cells #[.int .i64 t, .slice VA vn vc] 109)) (o := .cells #[.int .i64 0, .slice none 0 0] 109) (g := w.heap.size + 2) (by simp))
            have s0 : w1.cell? ⟨w.heap.size + 2, 0, none⟩ = some (.int .i64 0) := at_cell P2 0
            have s1 : w1.cell? ⟨w.heap.size + 2, 1, none⟩ = some (.slice none 0 0) := at_cell P2 1
            have f0 := at_frozen P2 0
            have f1 := at_frozen P2 1
            clear P2)
         | skip
       clear P0 P1 hb1)
    all_goals
      go_wp2
      go_ret
    all_goals exact ⟨ret_bool HR2.out.symm, Ext.out⟩
end Go.Proofs.Ytnhmpmibkpoipaa
