/-
  What PapServes needs: a copy of a packet and where it lies; two authenticators that are alike; a store into old memory. No condition.
-/
import Derived.Test.YtodibldfolognaaPqH
import Derived.Test.YtodibldfolognaaPpU
namespace Go.Proofs.Ytodibldfolognaa
open Go.ChangeShapes Go.WideShapes Go.ChangeAt Go.RowKit
set_option linter.unusedVariables false
set_option linter.unusedSimpArgs false

set_option maxRecDepth 100000 in
set_option maxHeartbeats 2000000 in
theorem lent12b_any (code id : Int) (A : Option Addr) (n c : Nat) (xs : List Int) (hn : xs.length = n) (hn' : n ≤ 140737488351232) (w : World) (hx : Cells w A (nums .u8 xs)) :
    Calls Try.prog 51 #[.agg #[.int .i64 code, .int .i64 id, .slice A n c]] w fun e w' => ∃ A' c', e = .returned (.agg #[.int .i64 code, .int .i64 id, .slice A' n c']) ∧ n < c' ∧ w'.ownsRow w.heap.size 5 1 (.slice A' (n + 1) c') (n + 1) (nums .u8 (xs ++ [77])) ∧ Below w.heap.size w w' := by
  have Hn := Lib.hid hn
  have HX := Lib.hid hx
  clear hn hx
  go_enter Try.func51, Try.ntmps51
  go_upto_region 2 with fail
  obtain ⟨wb, hwb⟩ : ∃ wb, (w.alloc (.cells #[.int .i64 code, .int .i64 id, .slice A n c] 43)).alloc zPk = wb := ⟨_, rfl⟩
  have HP : Hid (wb.heap[w.heap.size]? = some (.cells #[.int .i64 code, .int .i64 id, .slice A n c] 43 (0, 0))) := by unfold Hid; rw [← hwb]; exact at_ext (at_new w _)
  have HZ : Hid (wb.heap[w.heap.size + 1]? = some zPk) := by unfold Hid; rw [← hwb]; exact at_new1 (by simp)
  have HW : Hid (Ext w wb) := by unfold Hid; rw [← hwb]; exact inferInstance
  have HS : Hid (w.heap.size + 1 < wb.heap.size) := at_lt HZ.out
  rw [hwb]
  clear hwb
  have p2 : wb.cell? ⟨w.heap.size, 2, none⟩ = some (.slice A n c) := at_cell HP.out 2
  go_upto_region 4 with
    (first
    | (at_builtin
       refine wp_append_cells (w0 := wb) wb.heap.size rfl (.tmp 4) (.tmp 6) 41 5 (.int .u8 0) 1 1 rfl Try.underlying41 info_u8 rfl (by decide) (by decide) (.slice none 0 0) 0 [] A n c (nums .u8 xs) rfl rfl ?_ (nums_one _ _) (own_nil _ _ _ _) (by have := HW.out; exact HX.out.ext) (Below.refl _ _) (Nat.le_refl _) ?_ ?_
       · rw [nums_length, Hn.out, Nat.mul_one]
       · omega
       intro v1 w1 ho1 hb1 hg1 hat1
       rw [List.nil_append, Nat.zero_add] at ho1
       have HO1 := Lib.hid ho1
       have HB1 := Lib.hid hb1
       clear ho1 hg1 hat1 hb1)
    | (at_builtin
       refine wp_append_box (w0 := wb) wb.heap.size rfl (.tmp 8) (.tmp 9) 41 5 (.int .u8 0) 1 1 1 rfl Try.underlying41 info_u8 rfl (by decide) (by decide) v1 n (nums .u8 xs) [.int .u8 77] rfl rfl rfl ?_ HO1.out HB1.out HB1.out.size ?_ ?_
       · intro u hu
         simp at hu
         subst hu
         rfl
       · omega
       intro v2 w2 ho2 hb2 hg2 hat2
       obtain ⟨A2, cap, rfl, hcap⟩ := own_slice ho2
       have HO2 := Lib.hid ho2
       have HB2 := Lib.hid hb2
       clear ho2 hg2 hat2 HO1 HB1 hb2))
  have X2 : Ext wb w2 := ⟨HB2.out⟩
  have HP2 : Hid (w2.heap[w.heap.size]? = some (.cells #[.int .i64 code, .int .i64 id, .slice A n c] 43 (0, 0))) := at_ext HP.out
  have HZ2 : Hid (w2.heap[w.heap.size + 1]? = some zPk) := at_ext HZ.out
  have HC2 := Lib.hid (own_cells HO2.out)
  have q2 : w2.cell? ⟨w.heap.size, 2, none⟩ = some (.slice A n c) := at_cell HP2.out 2
  have f2 : w2.frozen? ⟨w.heap.size, 2, none⟩ = false := at_frozen HP2.out 2
  have b1 : (n : Int) ≤ (cap : Int) := by omega
  have b2 : 0 ≤ (n : Int) := by omega
  have b3 : ¬ (cap : Int) < (n : Int) := by omega
  clear p2
  go_upto_region 5 with fail
  obtain ⟨w3, hw3⟩ : ∃ w3, w2.setCell ⟨w.heap.size, 2, none⟩ (.slice A2 n cap) = w3 := ⟨_, rfl⟩
  have HP3 : Hid (w3.heap[w.heap.size]? = some (.cells #[.int .i64 code, .int .i64 id, .slice A2 n cap] 43 (0, 0))) := by unfold Hid; rw [← hw3]; exact at_set HP2.out 2 _
  have HZ3 : Hid (w3.heap[w.heap.size + 1]? = some zPk) := by unfold Hid; rw [← hw3]; exact (Below.heap_setCell _ _ _ _ (by show w.heap.size + 1 ≠ w.heap.size; omega)).trans HZ2.out
  have HO3 : Hid (w3.ownsRow wb.heap.size 5 1 (.slice A2 (n + 1) cap) (n + 1) (nums .u8 xs ++ [.int .u8 77])) := by unfold Hid; rw [← hw3]; exact own_young HO2.out (by show w.heap.size < wb.heap.size; have := HS.out; omega)
  have HB3 : Hid (Below w.heap.size w w3) := by unfold Hid; rw [← hw3]; exact (Ext.trans_ HW.out X2).out.setCell (p := ⟨w.heap.size, 2, none⟩) (Nat.le_refl _) _
  rw [hw3]
  clear hw3 q2 f2 b1 b2 b3
  go_wp2_with
    (first
     | (refine wpList_load_row rfl 43 (.tmp 1) rfl w.heap.size rfl 43 #[.int .i64 code, .int .i64 id, .slice A2 n cap] (0, 0) _ HP3.out Try.underlying43 rfl (by kernel_rfl) ?_)
     | (refine wpList_store_row_o rfl 43 (.tmp 2) (.tmp 17) rfl (w.heap.size + 1) #[.int .i64 code, .int .i64 id, .slice A2 n cap] rfl rfl 43 #[.int .i64 0, .int .i64 0, .slice none 0 0] HZ3.out (by kernel_rfl) rfl (by simp [Value.oneCell']) ?_
        intro w4 hr4 ho4 hz4 hb4))
  refine bodyPost_ret (results_cell_row1 Try.results51 _ _ (w.heap.size + 1) 43 #[.int .i64 code, .int .i64 id, .slice A2 n cap] (0, 0) _ rfl hr4 Try.underlying43 rfl (by kernel_rfl)) rfl ?_
  have HS0 := HS.out
  exact ⟨A2, cap, rfl, by omega, by rw [nums_append]; exact own_weaken (own_heap HO3.out fun j hj => ho4 j (by omega)) (by omega), hb4 _ _ HB3.out (by omega)⟩
theorem Arg.secs_room {U : Nat} {W : World} {A : Option Addr} {n c : Nat} (h : Arg U Try.prog W 75 (.slice A n c)) : n * 72 ≤ 140737488351232 := by
  obtain ⟨A', n', c', hcs, hnc, hc', hb, hnil, hall⟩ := h.2.slice Try.underlying75
  rw [bytes_sec] at hb
  simp [Value.cells] at hcs
  obtain ⟨rfl, rfl, rfl⟩ := hcs
  exact hb
section
variable {w w2 : World} {B T g : Nat} {name who : ByteArray} {st : Int} {us : List SV}
theorem SrvAt.old (k : SrvAt w B T name st who us) (hw : ∀ j, j ≠ g → w2.heap[j]? = w.heap[j]?) (hg : g < T) (hTB : T < B) : SrvAt w2 B T name st who us := by
  obtain ⟨o, ho⟩ : ∃ o, w.heap[g]? = some o := by
    have h1 := at_lt k.b
    exact ⟨_, Array.getElem?_eq_getElem (by omega)⟩
  have hT : ∃ x, w.heap[T]? = some x := by
    obtain ⟨v, h1, _⟩ := k.t.t
    exact ⟨_, h1⟩
  obtain ⟨x, hT⟩ := hT
  have aux : ∀ w' : World, (∀ j, j < B → w'.heap[j]? = w2.heap[j]?) → TabAt w' T us := by
    intro w' hh
    have hT' : w'.heap[T]? = some x := (hh T hTB).trans ((hw T (by omega)).trans hT)
    have hlt := at_lt hT'
    have h := k.t.kept { w' with heap := w'.heap.setIfInBounds g o } (fun j hj => by
      show (w'.heap.setIfInBounds g o)[j]? = _
      by_cases e : j = g
      · subst e
        rw [Array.getElem?_setIfInBounds_self_of_lt (by omega), ho]
      · rw [Array.getElem?_setIfInBounds_ne (fun h => e h.symm)]
        exact (hh j hj).trans (hw j e))
    obtain ⟨v, h1, h2⟩ := h
    refine ⟨v, ?_, h2.heap fun j hj => ?_⟩
    · have h3 : (w'.heap.setIfInBounds g o)[T]? = some (.cells #[v] 164 (0, 0)) := h1
      rwa [Array.getElem?_setIfInBounds_ne (by omega)] at h3
    · show w'.heap[j]? = (w'.heap.setIfInBounds g o)[j]?
      rw [Array.getElem?_setIfInBounds_ne (by omega)]
  exact ⟨(hw B (by omega)).trans k.b, ⟨aux w2 fun _ _ => rfl, aux⟩⟩
theorem SrvAt.but' {P : Nat} (k : SrvAt w B T name st who us) (h : But w w2 P) (hBP : B < P) : SrvAt w2 B T name st who us :=
  ⟨h.at (by omega) k.b, k.t.move fun j hj => h.block j (Nat.lt_trans hj (at_lt k.b)) (by omega)⟩
end
/-- What a request does. -/
def takeR (nm : ByteArray) (us : List SV) (st : Int) (who : ByteArray) (code id : Int) (xs : List Int) : (Int × ByteArray) × ((Int × Int) × List Int) × Bool × Int :=
  if (rrF code id xs).2 ≠ 0 then ((st, who), ((0, 0), []), false, (rrF code id xs).2)
  else (stepS nm us st who (strOfNums (rrF code id xs).1.1) (strOfNums (rrF code id xs).1.2), ((ansF id ((stepS nm us st who (strOfNums (rrF code id xs).1.1) (strOfNums (rrF code id xs).1.2)).1 == 1) (strB (sayB (stepS nm us st who (strOfNums (rrF code id xs).1.1) (strOfNums (rrF code id xs).1.2)).1))).1,
    (ansF id ((stepS nm us st who (strOfNums (rrF code id xs).1.1) (strOfNums (rrF code id xs).1.2)).1 == 1) (strB (sayB (stepS nm us st who (strOfNums (rrF code id xs).1.1) (strOfNums (rrF code id xs).1.2)).1))).2.1), true, 0)
def TellsR (r : (Int × ByteArray) × ((Int × Int) × List Int) × Bool × Int) (w : World) (e : Ending) (w' : World) : Prop :=
  ∃ A c, e = .returned (.tuple #[.agg #[.int .i64 r.2.1.1.1, .int .i64 r.2.1.1.2, .slice A r.2.1.2.length c], .bool r.2.2.1, .int .i64 r.2.2.2]) ∧ w'.ownsRow w.heap.size 5 1 (.slice A r.2.1.2.length c) r.2.1.2.length (nums .u8 r.2.1.2)
theorem take_tells {B T : Nat} {nm who : ByteArray} {us : List SV} {st code id : Int} {xs : List Int} {w w' : World} {e : Ending} (h : TakeTells B T nm us st who code id xs w e w') :
    But w w' B ∧ SrvAt w' B T nm (takeR nm us st who code id xs).1.1 (takeR nm us st who code id xs).1.2 us ∧ TellsR (takeR nm us st who code id xs) w e w' := by
  obtain ⟨hb, h⟩ := h
  unfold takeR
  split at h
  · rename_i hr
    rw [if_pos hr]
    exact ⟨hb, h.1, none, 0, h.2, own_nil _ _ _ _⟩
  · rename_i hr
    rw [if_neg hr]
    obtain ⟨s', a, A, c, rfl, rfl, hv, he, ho⟩ := h
    exact ⟨hb, hv, A, c, he, ho⟩
theorem rtake_tells {R : Nat} {nm who : ByteArray} {A : Option Addr} {n c : Nat} {us : List SV} {st code id : Int} {xs : List Int} {w w' : World} {e : Ending} (h : RTakeTells R nm A n c us st who code id xs w e w') :
    But w w' R ∧ RSrvAt w' R nm A n c (takeR nm us st who code id xs).1.1 (takeR nm us st who code id xs).1.2 ∧ TellsR (takeR nm us st who code id xs) w e w' := by
  obtain ⟨hb, h⟩ := h
  unfold takeR
  split at h
  · rename_i hr
    rw [if_pos hr]
    exact ⟨hb, h.1, none, 0, h.2, own_nil _ _ _ _⟩
  · rename_i hr
    rw [if_neg hr]
    obtain ⟨s', a, A', c', rfl, rfl, hv, he, ho⟩ := h
    exact ⟨hb, hv, A', c', he, ho⟩
theorem takeR_dat {nm who : ByteArray} {us vs : List SV} {st code id : Int} {xs : List Int} (h : us.map SV.dat = vs.map SV.dat) : takeR nm us st who code id xs = takeR nm vs st who code id xs := by
  have h1 : ∀ nb wb, stepS nm us st who nb wb = stepS nm vs st who nb wb := fun nb wb => by
    unfold stepS accF
    rw [check_dat h]
  unfold takeR
  simp only [h1]
theorem takeR_byt {nm who : ByteArray} {us : List SV} {st code id : Int} {xs : List Int} : Byt (takeR nm us st who code id xs).2.1.2 := by
  unfold takeR
  split
  · exact fun _ h => by cases h
  · exact (ans_byt (a := (ansF id _ _).1.1) (b := (ansF id _ _).1.2) (e := (ansF id _ _).2.2) (strB_byt _) rfl).1
/-- Both authenticators are alike. -/
structure TwoS (w0 w : World) (B T R : Nat) (nm : ByteArray) (vs : List SV) (A : Option Addr) (n c : Nat) (st : Int) (who : ByteArray) : Prop where
  v : SrvAt w B T nm st who vs
  r : RSrvAt w R nm A n c st who
  e : Ext w0 w
  lb : w0.heap.size ≤ T
  tb : T < B
  br : B < R
section
variable {w0 w w1 : World} {B T R : Nat} {nm who : ByteArray} {vs : List SV} {A : Option Addr} {n c : Nat} {st : Int}
theorem TwoS.ext [h : Ext w w1] (k : TwoS w0 w B T R nm vs A n c st who) : TwoS w0 w1 B T R nm vs A n c st who := ⟨k.v.ext, k.r.ext, k.e.trans_ h, k.lb, k.tb, k.br⟩
theorem TwoS.old {p : Addr} {x : Value} (k : TwoS w0 w B T R nm vs A n c st who) (h0 : w0.heap.size ≤ p.block) (hp : p.block < T) : TwoS w0 (w.setCell p x) B T R nm vs A n c st who :=
  ⟨k.v.old (g := p.block) (fun j hj => Below.heap_setCell _ _ _ _ hj) hp k.tb, (Below.heap_setCell _ _ _ _ (by have h1 := k.tb; have h2 := k.br; omega)).trans k.r, ⟨k.e.out.setCell h0 _⟩, k.lb, k.tb, k.br⟩
end
end Go.Proofs.Ytodibldfolognaa
