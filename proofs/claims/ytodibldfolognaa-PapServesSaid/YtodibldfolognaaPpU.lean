/-
  law12: lent, kept. Conditions: sizes.
-/
import Derived.Test.YtodibldfolognaaPpP
import Derived.Test.YtodibldfolognaaPpT
namespace Go.Proofs.Ytodibldfolognaa
open Go.RowKit
set_option linter.unusedVariables false
set_option linter.unusedSimpArgs false

theorem results_cell_row1 {P : Program} {fn : Func} {p : Tmp} {ty : TypeId} (h : fn.results = #[.cell p ty]) (tmps : Array Value) (w : World) (g : Nat) (t : TypeId) (cs : Array Value) (fr : Nat × Nat) (d : TypeDesc)
    (hp : tmps.getD p undef = .pointer (some ⟨g, 0, none⟩)) (hg : w.heap[g]? = some (.cells cs t fr))
    (hu : P.underlying ty = some d) (hd : (match d with | .struct _ | .array _ _ => true | _ => false) = true) (hi : (P.info? ty).map (·.size) = some cs.size) :
    (results fn tmps).run P w = .ok (.agg cs) w := by
  have hp' : tmps[p]?.getD undef = .pointer (some ⟨g, 0, none⟩) := by simpa using hp
  simp [results, h, hp', asAddr, run_loadVar_row w g t ty cs fr d hg hu hd hi]
set_option maxRecDepth 100000 in
set_option maxHeartbeats 2000000 in
theorem lent12_any (code id : Int) (A : Option Addr) (n c : Nat) (xs : List Int) (hn : xs.length = n) (hn' : n ≤ 140737488351232) (w : World) (hx : Cells w A (nums .u8 xs)) :
    Calls Try.prog 51 #[.agg #[.int .i64 code, .int .i64 id, .slice A n c]] w fun e w' => ∃ A' c', e = .returned (.agg #[.int .i64 code, .int .i64 id, .slice A' n c']) ∧ n < c' ∧ Cells w' A' (nums .u8 (xs ++ [77])) ∧ Below w.heap.size w w' := by
  have Hn := Lib.hid hn
  have HX := Lib.hid hx
  clear hn hx
  go_enter Try.func51, Try.ntmps51
  go_upto_region 2 with fail
  obtain ⟨wb, hwb⟩ : ∃ wb, (w.alloc (.cells #[.int .i64 code, .int .i64 id, .slice A n c] 43)).alloc zPk = wb := ⟨_, rfl⟩
  have HP : Hid (wb.heap[w.heap.size]? = some (.cells #[.int .i64 code, .int .i64 id, .slice A n c] 43 (0, 0))) := by unfold Hid; rw [← hwb]; exact at_ext (at_new w _)
  have HZ : Hid (wb.heap[w.heap.size + 1]? = some zPk) := by unfold Hid; rw [← hwb]; exact at_new1 (by simp)
  have HW : Hid (Ext w wb) := by unfold Hid; rw [← hwb]; exact inferInstance
  have HS : Hid (w.heap.size + 1 < wb.heap.size) := at_lt HZ.out
  rw [hwb]
  clear hwb
  have p2 : wb.cell? ⟨w.heap.size, 2, none⟩ = some (.slice A n c) := at_cell HP.out 2
  go_upto_region 4 with
    (first
    | (at_builtin
       refine wp_append_cells (w0 := wb) wb.heap.size rfl (.tmp 4) (.tmp 6) 41 5 (.int .u8 0) 1 1 rfl Try.underlying41 info_u8 rfl (by decide) (by decide) (.slice none 0 0) 0 [] A n c (nums .u8 xs) rfl rfl ?_ (nums_one _ _) (own_nil _ _ _ _) (by have := HW.out; exact HX.out.ext) (Below.refl _ _) (Nat.le_refl _) ?_ ?_
       · rw [nums_length, Hn.out, Nat.mul_one]
       · omega
       intro v1 w1 ho1 hb1 hg1 hat1
       rw [List.nil_append, Nat.zero_add] at ho1
       have HO1 := Lib.hid ho1
       have HB1 := Lib.hid hb1
       clear ho1 hg1 hat1 hb1)
    | (at_builtin
       refine wp_append_box (w0 := wb) wb.heap.size rfl (.tmp 8) (.tmp 9) 41 5 (.int .u8 0) 1 1 1 rfl Try.underlying41 info_u8 rfl (by decide) (by decide) v1 n (nums .u8 xs) [.int .u8 77] rfl rfl rfl ?_ HO1.out HB1.out HB1.out.size ?_ ?_
       · intro u hu
         simp at hu
         subst hu
         rfl
       · omega
       intro v2 w2 ho2 hb2 hg2 hat2
       obtain ⟨A2, cap, rfl, hcap⟩ := own_slice ho2
       have HO2 := Lib.hid ho2
       have HB2 := Lib.hid hb2
       clear ho2 hg2 hat2 HO1 HB1 hb2))
  have X2 : Ext wb w2 := ⟨HB2.out⟩
  have HP2 : Hid (w2.heap[w.heap.size]? = some (.cells #[.int .i64 code, .int .i64 id, .slice A n c] 43 (0, 0))) := at_ext HP.out
  have HZ2 : Hid (w2.heap[w.heap.size + 1]? = some zPk) := at_ext HZ.out
  have HC2 := Lib.hid (own_cells HO2.out)
  have q2 : w2.cell? ⟨w.heap.size, 2, none⟩ = some (.slice A n c) := at_cell HP2.out 2
  have f2 : w2.frozen? ⟨w.heap.size, 2, none⟩ = false := at_frozen HP2.out 2
  have b1 : (n : Int) ≤ (cap : Int) := by omega
  have b2 : 0 ≤ (n : Int) := by omega
  have b3 : ¬ (cap : Int) < (n : Int) := by omega
  clear p2
  go_upto_region 5 with fail
  obtain ⟨w3, hw3⟩ : ∃ w3, w2.setCell ⟨w.heap.size, 2, none⟩ (.slice A2 n cap) = w3 := ⟨_, rfl⟩
  have HP3 : Hid (w3.heap[w.heap.size]? = some (.cells #[.int .i64 code, .int .i64 id, .slice A2 n cap] 43 (0, 0))) := by unfold Hid; rw [← hw3]; exact at_set HP2.out 2 _
  have HZ3 : Hid (w3.heap[w.heap.size + 1]? = some zPk) := by unfold Hid; rw [← hw3]; exact (Below.heap_setCell _ _ _ _ (by show w.heap.size + 1 ≠ w.heap.size; omega)).trans HZ2.out
  have HO3 : Hid (w3.ownsRow wb.heap.size 5 1 (.slice A2 (n + 1) cap) (n + 1) (nums .u8 xs ++ [.int .u8 77])) := by unfold Hid; rw [← hw3]; exact own_young HO2.out (by show w.heap.size < wb.heap.size; have := HS.out; omega)
  have HB3 : Hid (Below w.heap.size w w3) := by unfold Hid; rw [← hw3]; exact (Ext.trans_ HW.out X2).out.setCell (p := ⟨w.heap.size, 2, none⟩) (Nat.le_refl _) _
  rw [hw3]
  clear hw3 q2 f2 b1 b2 b3
  go_wp2_with
    (first
     | (refine wpList_load_row rfl 43 (.tmp 1) rfl w.heap.size rfl 43 #[.int .i64 code, .int .i64 id, .slice A2 n cap] (0, 0) _ HP3.out Try.underlying43 rfl (by kernel_rfl) ?_)
     | (refine wpList_store_row_o rfl 43 (.tmp 2) (.tmp 17) rfl (w.heap.size + 1) #[.int .i64 code, .int .i64 id, .slice A2 n cap] rfl rfl 43 #[.int .i64 0, .int .i64 0, .slice none 0 0] HZ3.out (by kernel_rfl) rfl (by simp [Value.oneCell']) ?_
        intro w4 hr4 ho4 hz4 hb4))
  refine bodyPost_ret (results_cell_row1 Try.results51 _ _ (w.heap.size + 1) 43 #[.int .i64 code, .int .i64 id, .slice A2 n cap] (0, 0) _ rfl hr4 Try.underlying43 rfl (by kernel_rfl)) rfl ?_
  have HS0 := HS.out
  exact ⟨A2, cap, rfl, by omega, by rw [nums_append]; exact own_cells (own_heap HO3.out fun j hj => ho4 j (by omega)), hb4 _ _ HB3.out (by omega)⟩
set_option maxRecDepth 100000 in
set_option maxHeartbeats 2000000 in
theorem kept12_any (code id : Int) (A A' : Option Addr) (n c c' : Nat) (xs : List Int) (hn : xs.length = n) (hn' : n ≤ 140737488351232) (hb : Byt xs) (hc' : n < c') (w : World) (hx : Cells w A (nums .u8 xs)) (hx' : Cells w A' (nums .u8 (xs ++ [77]))) :
    Calls Try.prog 55 #[.agg #[.int .i64 code, .int .i64 id, .slice A' n c'], .agg #[.int .i64 code, .int .i64 id, .slice A n c]] w fun e w' => e = .returned (.bool true) ∧ Below w.heap.size w w' := by
  have Hn := Lib.hid hn
  have HX := Lib.hid hx
  have HX' := Lib.hid hx'
  have HT : Hid (Cells w A' (nums .u8 xs)) := by
    have h := hx'.take n
    rw [← nums_take, ← hn, List.take_left' rfl] at h
    exact h
  obtain ⟨ad, rfl, hc⟩ := hx'.num (i := n) (by simp [hn])
  have hc1 : w.cell? (ad.add n) = some (.int .u8 77) := by
    rw [hc, List.getD_eq_getElem?_getD, ← hn, List.getElem?_append_right (Nat.le_refl _)]
    simp
  have HC1 := Lib.hid hc1
  clear hn hx hx' hc hc1
  have b1 : (n : Int) + 1 ≤ (c' : Int) := by omega
  have b2 : 0 ≤ (n : Int) + 1 := by omega
  have b3 : ¬ (c' : Int) < (n : Int) + 1 := by omega
  have b4 : ((n : Int) + 1).toNat = n + 1 := by omega
  have b6 : (n : Int) < (n : Int) + 1 := by omega
  have b5 : IntKind.i64.wrap ((n : Int) + 1) = n + 1 := by rw [IntKind.wrap_i64]; omega
  go_enter Try.func55, Try.ntmps55
  go_upto_region 1 with fail
  obtain ⟨wb, hwb⟩ : ∃ wb, (w.alloc (.cells #[.int .i64 code, .int .i64 id, .slice (some ad) n c'] 43)).alloc (.cells #[.int .i64 code, .int .i64 id, .slice A n c] 43) = wb := ⟨_, rfl⟩
  have HP : Hid (wb.heap[w.heap.size]? = some (.cells #[.int .i64 code, .int .i64 id, .slice (some ad) n c'] 43 (0, 0))) := by unfold Hid; rw [← hwb]; exact at_ext (at_new w _)
  have HQ : Hid (wb.heap[w.heap.size + 1]? = some (.cells #[.int .i64 code, .int .i64 id, .slice A n c] 43 (0, 0))) := by unfold Hid; rw [← hwb]; exact at_new1 (by simp)
  have Sb : Step wb w := ⟨by rw [← hwb]; exact Ext.out⟩
  rw [hwb]
  clear hwb
  have p2 : wb.cell? ⟨w.heap.size, 2, none⟩ = some (.slice (some ad) n c') := at_cell HP.out 2
  have q2 : wb.cell? ⟨w.heap.size + 1, 2, none⟩ = some (.slice A n c) := at_cell HQ.out 2
  have r2 : wb.cell? (ad.add n) = some (.int .u8 77) := cell_ext HC1.out
  refine wp_region_held_drew (S := fun W => Ext wb W) (by kernel_rfl) (by exact inferInstance) (fun hHeld => ?_)
  refine wpAnyH_take (i := 0) (v := .agg #[.int .i64 code, .int .i64 id, .slice (some ad) n c']) rfl (by kernel_rfl) (by kernel_rfl) (by kernel_rfl) (fun _ _ _ h => h) (yields_row_S (by rfl) 43 (.tmp 2) rfl w.heap.size rfl 43 #[.int .i64 code, .int .i64 id, .slice (some ad) n c'] (0, 0) _ Try.underlying43 rfl (by kernel_rfl) (fun W hW => at_ext (h := hW) HP.out)) hHeld ?_
  simp only [List.getElem_toArray, List.getElem_cons_succ, List.getElem_cons_zero, Act.put, List.setIfInBounds_toArray, List.set_cons_zero, List.set_cons_succ]
  refine wpAnyH_take (i := 1) (v := .agg #[.int .i64 code, .int .i64 id, .slice A n c]) rfl (by kernel_rfl) (by kernel_rfl) (by kernel_rfl) (fun _ _ _ h => h) (yields_row_S (by rfl) 43 (.tmp 3) rfl (w.heap.size + 1) rfl 43 #[.int .i64 code, .int .i64 id, .slice A n c] (0, 0) _ Try.underlying43 rfl (by kernel_rfl) (fun W hW => at_ext (h := hW) HQ.out)) hHeld ?_
  simp only [List.getElem_toArray, List.getElem_cons_succ, List.getElem_cons_zero, Act.put, List.setIfInBounds_toArray, List.set_cons_zero, List.set_cons_succ]
  refine wpAnyH_ready (rs := [2]) (by kernel_rfl) (by simp) ?_
  refine AllReadyH.cons rfl (fun K hK => ?_) AllReadyH.nil
  refine step_call_w (by rfl) Try.func54 (by kernel_rfl) (by kernel_rfl) #[.tmp 5, .tmp 6] #[43, 43] rfl #[.agg #[.int .i64 code, .int .i64 id, .slice (some ad) n c'], .agg #[.int .i64 code, .int .i64 id, .slice A n c]] ?hv (same12_any code id code id (some ad) A n n c' c xs xs Hn.out Hn.out hb hb _ (by exact HT.out.ext) (by exact HX.out.ext)) ?_
  case hv => go_simp
  rintro e w4 ⟨rfl, hbb⟩
  refine ⟨_, rfl, ?_⟩
  rw [pkSame_self]
  have S4 : Step w4 _ := ⟨hbb⟩
  clear hbb hHeld
  refine hK.out _ _ (by exact inferInstance) (fun hHeld => ?_)
  clear hK K
  simp only [List.getElem_toArray, List.getElem_cons_succ, List.getElem_cons_zero, Act.put, List.setIfInBounds_toArray, List.set_cons_zero, List.set_cons_succ]
  refine wpAnyH_take (i := 3) (v := ?_) rfl (by kernel_rfl) (by kernel_rfl) (by kernel_rfl) (fun _ _ _ h => h) (Yields.yieldsIf (Or.inl ⟨by rfl, ?_⟩)) hHeld ?_
  rotate_left
  · intro W
    go_simp
    try with_reducible rfl
  simp only [List.getElem_toArray, List.getElem_cons_succ, List.getElem_cons_zero, Act.put, List.setIfInBounds_toArray, List.set_cons_zero, List.set_cons_succ]
  refine wpAnyH_take (i := 4) (v := ?_) rfl (by kernel_rfl) (by kernel_rfl) (by kernel_rfl) (fun _ _ _ h => h) (Yields.yieldsIf (Or.inl ⟨by rfl, ?_⟩)) hHeld ?_
  rotate_left
  · intro W
    go_simp
    try with_reducible rfl
  simp only [List.getElem_toArray, List.getElem_cons_succ, List.getElem_cons_zero, Act.put, List.setIfInBounds_toArray, List.set_cons_zero, List.set_cons_succ]
  refine wpAnyH_take (i := 5) (v := ?_) rfl (by kernel_rfl) (by kernel_rfl) (by kernel_rfl) (fun _ _ _ h => h) (Or.inl ⟨by rfl, ?_⟩) hHeld ?_
  rotate_left
  · intro W hW
    have hcl := (cell_ext (h := hW) p2)
    go_simp
    try with_reducible rfl
  simp only [List.getElem_toArray, List.getElem_cons_succ, List.getElem_cons_zero, Act.put, List.setIfInBounds_toArray, List.set_cons_zero, List.set_cons_succ]
  refine wpAnyH_take (i := 6) (v := ?_) rfl (by kernel_rfl) (by kernel_rfl) (by kernel_rfl) (fun _ _ _ h => h) (Yields.yieldsIf (Or.inl ⟨by rfl, ?_⟩)) hHeld ?_
  rotate_left
  · intro W
    go_simp
    try with_reducible rfl
  simp only [List.getElem_toArray, List.getElem_cons_succ, List.getElem_cons_zero, Act.put, List.setIfInBounds_toArray, List.set_cons_zero, List.set_cons_succ]
  refine wpAnyH_take (i := 7) (v := ?_) rfl (by kernel_rfl) (by kernel_rfl) (by kernel_rfl) (fun _ _ _ h => h) (Or.inl ⟨by rfl, ?_⟩) hHeld ?_
  rotate_left
  · intro W hW
    have hcl := (cell_ext (h := hW) q2)
    go_simp
    try with_reducible rfl
  simp only [List.getElem_toArray, List.getElem_cons_succ, List.getElem_cons_zero, Act.put, List.setIfInBounds_toArray, List.set_cons_zero, List.set_cons_succ]
  refine wpAnyH_take (i := 8) (v := ?_) rfl (by kernel_rfl) (by kernel_rfl) (by kernel_rfl) (fun _ _ _ h => h) (Yields.yieldsIf (Or.inl ⟨by rfl, ?_⟩)) hHeld ?_
  rotate_left
  · intro W
    go_simp
    try with_reducible rfl
  simp only [List.getElem_toArray, List.getElem_cons_succ, List.getElem_cons_zero, Act.put, List.setIfInBounds_toArray, List.set_cons_zero, List.set_cons_succ]
  refine wpAnyH_take (i := 9) (v := ?_) rfl (by kernel_rfl) (by kernel_rfl) (by kernel_rfl) (fun _ _ _ h => h) (Yields.yieldsIf (Or.inl ⟨by rfl, ?_⟩)) hHeld ?_
  rotate_left
  · intro W
    go_simp
    try with_reducible rfl
  simp only [List.getElem_toArray, List.getElem_cons_succ, List.getElem_cons_zero, Act.put, List.setIfInBounds_toArray, List.set_cons_zero, List.set_cons_succ]
  refine wpAnyH_take (i := 10) (v := ?_) rfl (by kernel_rfl) (by kernel_rfl) (by kernel_rfl) (fun _ _ _ h => h) (Yields.yieldsIf (Or.inl ⟨by rfl, ?_⟩)) hHeld ?_
  rotate_left
  · intro W
    go_simp
    try with_reducible rfl
  simp only [List.getElem_toArray, List.getElem_cons_succ, List.getElem_cons_zero, Act.put, List.setIfInBounds_toArray, List.set_cons_zero, List.set_cons_succ]
  refine wpAnyH_take (i := 11) (v := ?_) rfl (by kernel_rfl) (by kernel_rfl) (by kernel_rfl) (fun _ _ _ h => h) (Yields.yieldsIf (Or.inl ⟨by rfl, ?_⟩)) hHeld ?_
  rotate_left
  · intro W
    go_simp
    try with_reducible rfl
  simp only [List.getElem_toArray, List.getElem_cons_succ, List.getElem_cons_zero, Act.put, List.setIfInBounds_toArray, List.set_cons_zero, List.set_cons_succ]
  refine wpAnyH_take (i := 12) (v := ?_) rfl (by kernel_rfl) (by kernel_rfl) (by kernel_rfl) (fun _ _ _ h => h) (Or.inl ⟨by rfl, ?_⟩) hHeld ?_
  rotate_left
  · intro W hW
    have hcl := (cell_ext (h := hW) q2)
    go_simp
    try with_reducible rfl
  simp only [List.getElem_toArray, List.getElem_cons_succ, List.getElem_cons_zero, Act.put, List.setIfInBounds_toArray, List.set_cons_zero, List.set_cons_succ]
  refine wpAnyH_take (i := 13) (v := ?_) rfl (by kernel_rfl) (by kernel_rfl) (by kernel_rfl) (fun _ _ _ h => h) (Yields.yieldsIf (Or.inl ⟨by rfl, ?_⟩)) hHeld ?_
  rotate_left
  · intro W
    go_simp
    try with_reducible rfl
  simp only [List.getElem_toArray, List.getElem_cons_succ, List.getElem_cons_zero, Act.put, List.setIfInBounds_toArray, List.set_cons_zero, List.set_cons_succ]
  refine wpAnyH_take (i := 14) (v := ?_) rfl (by kernel_rfl) (by kernel_rfl) (by kernel_rfl) (fun _ _ _ h => h) (Yields.yieldsIf (Or.inl ⟨by rfl, ?_⟩)) hHeld ?_
  rotate_left
  · intro W
    go_simp
    try with_reducible rfl
  simp only [List.getElem_toArray, List.getElem_cons_succ, List.getElem_cons_zero, Act.put, List.setIfInBounds_toArray, List.set_cons_zero, List.set_cons_succ]
  refine wpAnyH_take (i := 15) (v := ?_) rfl (by kernel_rfl) (by kernel_rfl) (by kernel_rfl) (fun _ _ _ h => h) (Or.inl ⟨by rfl, ?_⟩) hHeld ?_
  rotate_left
  · intro W hW
    have hcl := (cell_ext (h := hW) r2)
    go_simp
    try with_reducible rfl
  simp only [List.getElem_toArray, List.getElem_cons_succ, List.getElem_cons_zero, Act.put, List.setIfInBounds_toArray, List.set_cons_zero, List.set_cons_succ]
  refine wpAnyH_take (i := 16) (v := ?_) rfl (by kernel_rfl) (by kernel_rfl) (by kernel_rfl) (fun _ _ _ h => h) (Yields.yieldsIf (Or.inl ⟨by rfl, ?_⟩)) hHeld ?_
  rotate_left
  · intro W
    go_simp
    try with_reducible rfl
  simp only [List.getElem_toArray, List.getElem_cons_succ, List.getElem_cons_zero, Act.put, List.setIfInBounds_toArray, List.set_cons_zero, List.set_cons_succ]
  refine wpAnyH_take (i := 17) (v := ?_) rfl (by kernel_rfl) (by kernel_rfl) (by kernel_rfl) (fun _ _ _ h => h) (Yields.yieldsIf (Or.inl ⟨by rfl, ?_⟩)) hHeld ?_
  rotate_left
  · intro W
    go_simp
    try with_reducible rfl
  simp only [List.getElem_toArray, List.getElem_cons_succ, List.getElem_cons_zero, Act.put, List.setIfInBounds_toArray, List.set_cons_zero, List.set_cons_succ]
  refine wpAnyH_take (i := 18) (v := ?_) rfl (by kernel_rfl) (by kernel_rfl) (by kernel_rfl) (fun _ _ _ h => h) (Yields.yieldsIf (Or.inl ⟨by rfl, ?_⟩)) hHeld ?_
  rotate_left
  · intro W
    go_simp
    try with_reducible rfl
  simp only [List.getElem_toArray, List.getElem_cons_succ, List.getElem_cons_zero, Act.put, List.setIfInBounds_toArray, List.set_cons_zero, List.set_cons_succ]
  refine wpAnyH_done (by kernel_rfl) ?_ _
  clear hHeld
  go_wp2
  go_ret
  exact ⟨rfl, Ext.out⟩
end Go.Proofs.Ytodibldfolognaa
