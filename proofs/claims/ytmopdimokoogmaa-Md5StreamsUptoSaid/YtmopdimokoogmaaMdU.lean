/-
  tetherlaw04.blocks: what an iterator over sixteen bytes tells, up to most. Conditions: at least one is asked for.
-/
import Derived.Test.YtmopdimokoogmaaMdT
import Derived.Deep.WholeRow
namespace Go.Proofs.Ytmopdimokoogmaa
open Go.RowKit Go.Shelf
set_option linter.unusedVariables false
set_option linter.unusedSimpArgs false
attribute [local go_sem] Oper.semAt_some

theorem wpListIn_store_row {F : Fence} {n : Nat} {P : Program} {w : World} {ops : Array Oper} {rest : List Oper} {o : Oper} {a : Act} {Q : Exit → Act → World → Prop} (hgd : o.guard = none) (ty : TypeId) (x y : Operand) (ho : o.op = .store ty x y)
    (g : Nat) (cells : Array Value) (hx : a.eval x = .pointer (some ⟨g, 0, none⟩)) (hy : a.eval y = .agg cells)
    (t : TypeId) (old : Array Value) (hg : w.heap[g]? = some (.cells old t (0, 0))) (hi : (P.info? ty).map (·.size) = some cells.size)
    (hold : old.size = cells.size) (h1 : cells.all (·.oneCell') = true)
    (h : wpListIn F n P ops Q rest (a.put o.dst undef) (w.setRow g cells)) : wpListIn F n P ops Q (o :: rest) a w := by
  refine wpListIn_plain hgd fun K hK => ?_
  unfold Oper.wpIn
  refine ⟨by simp [Oper.about, ho], ?_⟩
  rw [Oper.semAt_plain F _ _ (by rw [ho]; intro c hc'; cases hc')]
  simp only [execOp, ho, hx, hy, Instr.storeAt, Instr.sureAddr, Sem.run_bind, Sem.run_pure, Result.andThen_ok, run_storeVar_row w g t ty old cells hg hi hold h1]
  exact hK _ _ h
theorem wpListIn_load_row {F : Fence} {n : Nat} {P : Program} {w : World} {ops : Array Oper} {rest : List Oper} {o : Oper} {a : Act} {Q : Exit → Act → World → Prop} (hgd : o.guard = none) (ty : TypeId) (x : Operand) (ho : o.op = .load ty x)
    (g : Nat) (hx : a.eval x = .pointer (some ⟨g, 0, none⟩)) (t : TypeId) (cs : Array Value) (fr : Nat × Nat) (d : TypeDesc) (hg : w.heap[g]? = some (.cells cs t fr))
    (hu : P.underlying ty = some d) (hd : (match d with | .struct _ | .array _ _ => true | _ => false) = true) (hi : (P.info? ty).map (·.size) = some cs.size)
    (h : wpListIn F n P ops Q rest (a.put o.dst (.agg cs)) w) : wpListIn F n P ops Q (o :: rest) a w := by
  refine wpListIn_plain hgd fun K hK => ?_
  unfold Oper.wpIn
  refine ⟨by simp [Oper.about, ho], ?_⟩
  rw [Oper.semAt_plain F _ _ (by rw [ho]; intro c hc'; cases hc')]
  simp only [execOp, ho, hx, Instr.loadAt, Instr.sureAddr, Sem.run_bind, Sem.run_pure, Result.andThen_ok, run_loadVar_row w g t ty cs fr d hg hu hd hi]
  exact hK _ _ h
def flat16 (L : List A16) : List Value := L.flatMap fun x => nums .u8 x.1
theorem flat16_snoc (L : List A16) (x : A16) : flat16 (L ++ [x]) = flat16 L ++ nums .u8 x.1 := by simp [flat16]
theorem info_a16 : (Try.prog.info? 44).map (fun i => (i.zero, i.size, i.bytes)) = some (some (.agg (nums .u8 (List.replicate 16 0)).toArray), 16, 16) := by kernel_rfl
theorem foldSet : ∀ (l : List Value) (k : Nat) (z : Array Value), k + l.length ≤ z.size → (List.foldl (fun (cs : Array Value) (x : Value × Nat) => cs.setIfInBounds x.snd x.fst) z (l.zipIdx k)).toList = z.toList.take k ++ l ++ z.toList.drop (k + l.length)
  | [], k, z, _ => by simp
  | a :: l, k, z, h => by
    have hk : k < z.toList.length := by simp at h ⊢; omega
    rw [List.zipIdx_cons, List.foldl_cons, foldSet l (k + 1) _ (by simp at h ⊢; omega)]
    rw [Array.toList_setIfInBounds, List.take_add_one, List.getElem?_set_self hk, List.take_set, List.set_eq_of_length_le (by rw [List.length_take]; omega), List.drop_set_of_lt (by omega), List.length_cons]
    simp only [Option.toList_some, List.append_assoc, List.cons_append, List.nil_append]
    rw [show k + 1 + l.length = k + (l.length + 1) by omega]
theorem fold16 (l : List Value) (h : l.length = 16) : List.foldl (fun (cs : Array Value) (x : Value × Nat) => cs.setIfInBounds x.snd x.fst) #[.int .u8 0, .int .u8 0, .int .u8 0, .int .u8 0, .int .u8 0, .int .u8 0, .int .u8 0, .int .u8 0, .int .u8 0, .int .u8 0, .int .u8 0, .int .u8 0, .int .u8 0, .int .u8 0, .int .u8 0, .int .u8 0] l.zipIdx = l.toArray := by
  apply Array.ext'
  rw [foldSet l 0 _ (by rw [h]; decide), h]
  simp
theorem equalIn_func (d : Nat) (f : Nat) (lb : Array Value) (w : World) : (Op.equalIn (d + 1) 102 (.func (.func f) #[] lb) .nilFunc).run Try.prog w = .ok false w := by
  rw [Op.equalIn]
  simp [run_underlying Try.underlying102]
theorem eql_func (f : Nat) (lb : Array Value) (w : World) : (binOp .eql 102 (.func (.func f) #[] lb) .nilFunc).run Try.prog w = .ok (.bool false) w := by
  have h := equalIn_func 9999 f lb w
  simp only [binOp, Op.equal, Op.maxDepth, Sem.run_bind, h, Result.andThen_ok, Sem.run_pure]
set_option maxRecDepth 100000 in
set_option maxHeartbeats 8000000 in
theorem lblocks4_any (p : Option Addr) (most : Int) (L : List A16) (N : Nat) (hN : N ≤ 4398046511104) (hm : 0 < most) (hm2 : most ≤ 9223372036854775807) (w : World)
    (hseq : SeqStopsK Fence.wide 3 Try.prog 85 #[.pointer (some ⟨w.heap.size + 1 + 1, 0, none⟩)] (fun x : A16 => #[.agg (nums .u8 x.1).toArray]) (Below w.heap.size) (fun ys => ys = L) (fun pre => ∃ k, k ≤ L.length ∧ pre = L.take k) N
      (((w.alloc (.cells #[.int .i64 most] 3)).alloc (.cells #[.slice none 0 0] 64)).alloc (.cells #[.pointer p] 59))) :
    Calls Try.prog 48 #[.pointer p, .int .i64 most] w fun e w' => ∃ v, e = .returned v ∧ w'.ownsRow w.heap.size 44 16 v (L.take most.toNat).length (flat16 (L.take most.toNat)) ∧ Below w.heap.size w w' := by
  have HSEQ := Lib.hid hseq
  clear hseq
  refine (callsIn_wide (n := 4)).1 ?_
  refine callsIn_of_wp_marks Try.func48 rfl trivial ?_ rfl
  simp only [Try.ntmps48, List.size_toArray, List.length_cons, List.length_nil, Nat.reduceAdd, Nat.reduceSub, Array.replicate_succ, Array.replicate_zero, List.push_toArray, List.append_toArray, List.nil_append, List.cons_append]
  have he := eql_func 85
  gi_wp2_with (refine ⟨trivial, ?_⟩; gi_at_call 74; refine (callsIn_wide.2 (blocksF_any p _)).mono ?_; rintro e w' ⟨rfl, rfl⟩)
  have bM := (Boxed.new w 3 (.int .i64 most)).alloc (.cells #[.slice none 0 0] 64)
  have bL := Boxed.new (w.alloc (.cells #[.int .i64 most] 3)) 64 (.slice none 0 0)
  rw [World.size_alloc] at bL
  have hB0 : Below w.heap.size w (((w.alloc (.cells #[.int .i64 most] 3)).alloc (.cells #[.slice none 0 0] 64)).alloc (.cells #[.pointer p] 59)) :=
    (((Below.refl _ w).alloc (Nat.le_refl _) _).alloc (by simp) _).alloc (by simp; omega) _
  have HB0 := Lib.hid hB0
  have hsz : w.heap.size ≤ (((w.alloc (.cells #[.int .i64 most] 3)).alloc (.cells #[.slice none 0 0] 64)).alloc (.cells #[.pointer p] 59)).heap.size := by simp; omega
  refine wpIn_rangeFunc_ownH rfl (by omega) (gf := 85) (lb := #[.pointer (some ⟨w.heap.size + 1 + 1, 0, none⟩)]) rfl trivial (enters_of Try.func85 (by kernel_rfl) rfl)
    HSEQ.out belowK_t (belowK_b hsz) (Below.refl _ _) (fun _ => rfl)
    (fun pre W => ((∃ v, Boxed W (w.heap.size + 1) 64 v ∧ W.ownsRow w.heap.size 44 16 v pre.length (flat16 pre) ∧ True) ∧ Boxed W w.heap.size 3 (.int .i64 most) ∧ (pre.length : Int) < most) ∧ Below w.heap.size w W)
    (fun c pre W => ((∃ v, Boxed W (w.heap.size + 1) 64 v ∧ W.ownsRow w.heap.size 44 16 v pre.length (flat16 pre) ∧ True) ∧ c = .exit 0 ∧ (pre.length : Int) = most) ∧ Below w.heap.size w W)
    ?hI ?hIx ?h0
    (fun x a' W => ∃ Bx, w.heap.size + 1 < Bx ∧ W.heap[Bx]? = some (.cells (nums .u8 x.1).toArray 44 (0, 0)) ∧
      a' = { tmps := #[.pointer p, .int .i64 most, undef, .pointer (some ⟨w.heap.size, 0, none⟩), .slice none 0 0, .pointer (some ⟨w.heap.size + 1, 0, none⟩), .func (.func 85) #[] #[.pointer (some ⟨w.heap.size + 1 + 1, 0, none⟩)], .pointer (some ⟨Bx, 0, none⟩), .pointer p,
        .func (.func 85) #[] #[.pointer (some ⟨w.heap.size + 1 + 1, 0, none⟩)], .func (.func 85) #[] #[.pointer (some ⟨w.heap.size + 1 + 1, 0, none⟩)], .bool false, .func (.func 85) #[] #[.pointer (some ⟨w.heap.size + 1 + 1, 0, none⟩)], .agg (nums .u8 x.1).toArray, undef, undef, undef, undef, undef, undef, undef, undef, undef], defers := [] })
    ?hAx ?assign ?body ?done ?stop
  case hI =>
    refine OwnFrom.and (OwnFrom.and (Own.from (holdsRow_own w.heap.size (w.heap.size + 1) 64 44 16 (fun pre : List A16 => pre.length) (fun pre => flat16 pre) (fun _ _ => True)) _) ?_) (ownFrom_below (Nat.le_refl _) hsz)
    exact OwnFrom.and (Own.from (boxed_own _ _ _) _) (ownFrom_pure _ _)
  case hIx =>
    intro c
    refine OwnFrom.and (OwnFrom.and (Own.from (holdsRow_own w.heap.size (w.heap.size + 1) 64 44 16 (fun pre : List A16 => pre.length) (fun pre => flat16 pre) (fun _ _ => True)) _) ?_) (ownFrom_below (Nat.le_refl _) hsz)
    exact ownFrom_pure _ _
  case h0 => exact ⟨⟨⟨_, bL.alloc _, own_nil _ _ _ _, trivial⟩, bM.alloc _, hm⟩, HB0.out⟩
  case hAx =>
    rintro x a' _ W W' row ⟨Bx, h1, h2, h3⟩ hg hr
    refine ⟨Bx, h1, (hg.block Bx (at_lt h2) (fun e => ?_)).trans h2, h3⟩
    obtain ⟨_, o, ho, hc⟩ := hr Bx e.symm
    rw [h2] at ho
    cases ho
    cases hc
  case assign =>
    rintro l pre x W K hi hK
    have HK := Lib.hid hK
    have hxl := x.2
    have HI := Lib.hid hi
    have HI16 : Hid ((Try.prog.info? 44).map (·.size) = some (nums .u8 x.1).toArray.size) := by
      unfold Hid
      rw [List.size_toArray, nums_length, hxl]
      kernel_rfl
    have HZ16 : Hid ((nums .u8 (List.replicate 16 0)).toArray.size = (nums .u8 x.1).toArray.size) := by
      unfold Hid
      rw [List.size_toArray, List.size_toArray, nums_length, nums_length, hxl]
      rfl
    have HZ : Hid ((W.alloc zB16).heap[W.heap.size]? = some zB16) := at_new W _
    clear hK hi hxl
    gi_wp2_with (refine wpListIn_store_row rfl 44 (.tmp 7) (.tmp 13) rfl W.heap.size (nums .u8 x.1).toArray rfl rfl 44 (nums .u8 (List.replicate 16 0)).toArray HZ.out HI16.out HZ16.out (one_all _ _) ?_)
    have hW : (W.alloc zB16).setRow W.heap.size (nums .u8 x.1).toArray = W.alloc (.cells (nums .u8 x.1).toArray 44) := World.setRow_alloc_new W _ _ _
    obtain ⟨⟨⟨v, hv, hrow, _⟩, hmb, hl⟩, hB⟩ := HI.out
    refine HK.out _ _ ?_ ?_ ?_ ⟨W.heap.size, hv.lt, ?_, rfl⟩
    · exact hW ▸ (KeepsOthers.alloc W _).from _
    · exact hW ▸ (Below.refl w.heap.size W).alloc hB.size _
    · exact hW ▸ ⟨⟨⟨v, hv.alloc _, hrow.alloc _, trivial⟩, hmb.alloc _, hl⟩, hB.alloc hB.size _⟩
    · exact setRow_heap _ _ _ _ _ _ HZ.out
  case body =>
    rintro l pre x a' W hl ⟨r, hr⟩ ⟨⟨⟨v, hv, hrow, _⟩, hmb, hlen⟩, hB⟩ ⟨Bx, hBx, hbx, rfl⟩ hlt
    have hxl := x.2
    obtain ⟨A1, c1, rfl, _⟩ := own_slice hrow
    have HI16 : Hid ((Try.prog.info? 44).map (·.size) = some (nums .u8 x.1).toArray.size) := by
      unfold Hid
      rw [List.size_toArray, nums_length, hxl]
      kernel_rfl
    have HZ16 : Hid ((nums .u8 (List.replicate 16 0)).toArray.size = (nums .u8 x.1).toArray.size) := by
      unfold Hid
      rw [List.size_toArray, List.size_toArray, nums_length, nums_length, hxl]
      rfl
    have HROW := Lib.hid hrow
    have HBX := Lib.hid hbx
    have HV := Lib.hid hv
    have HMB := Lib.hid hmb
    have HB := Lib.hid hB
    have cv := hv.cell
    have fv := hv.frozen
    have cm := hmb.cell
    have HXL := Lib.hid hxl
    obtain ⟨i0, hi, hzz⟩ := Option.map_eq_some_iff.1 info_a16
    simp only [Prod.mk.injEq] at hzz
    have HI0 := Lib.hid hi
    have HZZ := Lib.hid hzz
    have hfo := fold16 (nums .u8 x.1) (by rw [nums_length]; exact hxl)
    have HNB : Hid (pre.length + 1 ≤ 4398046511104) := by unfold Hid; omega
    have HNXL : Hid ((nums .u8 x.1).length = 1 * 16) := by unfold Hid; rw [nums_length, hxl]
    have hnl : (nums .u8 x.1).length = 16 := by rw [nums_length, hxl]
    clear hr hrow hbx hv hmb hB hxl hi hzz
    gi_wp2_with
      (first
       | (gi_at_builtin
          refine wpListIn_append_own _ rfl (.tmp 14) (.tmp 16) 64 rfl w.heap.size 44 i0 (.agg (nums .u8 (List.replicate 16 0)).toArray) 16 16 Try.underlying64 HI0.out HZZ.out.1 HZZ.out.2.1 HZZ.out.2.2 rfl (by decide) (.slice A1 pre.length c1) pre.length (flat16 pre) rfl (HROW.out.alloc _) ⟨W.heap.size, 0, none⟩ 1 1 (nums .u8 x.1) rfl HNXL.out (fun j u hu => by rw [add_plain, at_cell (at_new W _)]; simpa using hu) (nums_one _ _) (by have := HNB.out; simp only [maxLen]; omega) (by have := HNB.out; omega) (by have := HB.out.size; simp; omega) ?_
          intro v' w1 hown' hgrow _
          obtain ⟨g', cap', rfl⟩ := ownsRow_succ hown'
          obtain ⟨hv1, hv2, hr2, hk2, hb2⟩ := HV.out.appended (by decide) HROW.out HB.out.size (Nat.le_succ _) hown' hgrow
          have hm1 : Boxed w1 w.heap.size 3 (.int .i64 most) := (HMB.out.alloc _).kept hgrow (HMB.out.not_row (by decide) HROW.out)
          have cv1 := hv1.cell
          have fv1 := hv1.frozen
          have HM1 := Lib.hid hm1
          have HV2 := Lib.hid hv2
          have HR2 := Lib.hid hr2
          have HK2 := Lib.hid hk2
          have HB2 := Lib.hid hb2
          have cm2 : (w1.setCell ⟨w.heap.size + 1, 0, none⟩ (.slice (some ⟨g', 0, none⟩) (pre.length + 1) cap')).cell? ⟨w.heap.size, 0, none⟩ = some (.int .i64 most) := (HM1.out.other (by omega) _).cell
          have cv2 := HV2.out.cell
          clear hown' hgrow hv1 hv2 hr2 hk2 hb2 hm1 cv fv cm)
       | (refine wpListIn_load_row rfl 44 (.tmp 7) rfl Bx rfl 44 (nums .u8 x.1).toArray (0, 0) _ HBX.out Try.underlying44 rfl HI16.out ?_))
    · have hge : most ≤ (pre.length : Int) + 1 := by assumption
      refine ⟨HK2.out.from _, ⟨⟨_, HV2.out, ?_, trivial⟩, rfl, ?_⟩, HB.out.trans HB2.out⟩
      · rw [flat16_snoc, List.length_append]
        exact HR2.out
      · rw [List.length_append]
        simp
        omega
    · have hge : (pre.length : Int) + 1 < most := by assumption
      refine ⟨HK2.out.from _, HB2.out, ⟨⟨_, HV2.out, ?_, trivial⟩, HM1.out.other (by omega) _, ?_⟩, HB.out.trans HB2.out⟩
      · rw [flat16_snoc, List.length_append]
        exact HR2.out
      · rw [List.length_append]
        simp
        omega
  case done =>
    rintro D ys W hD rfl ⟨⟨⟨v, hv, hrow, _⟩, hmb, hl⟩, hB⟩ hK
    have HK := Lib.hid hK
    have HROW := Lib.hid hrow
    have HB := Lib.hid hB
    have cv := hv.cell
    obtain ⟨A1, c1, rfl, _⟩ := own_slice hrow
    have ht : ys.take most.toNat = ys := List.take_of_length_le (by omega)
    have HT := Lib.hid ht
    clear hK hrow hB hmb hv ht
    gi_wp2
    refine ⟨by simp, .inl ⟨_, _, rfl, run_takeDeferred HK.out, ?_⟩⟩
    refine ⟨_, results_tmp rfl _ _ _, _, rfl, ?_, HB.out.trans (belowK_b (w := w) (Nat.le_refl _) W D _ _ (by simp at hD; omega) HK.out rfl rfl)⟩
    rw [HT.out]
    exact ownsRow_putObj HROW.out _ HK.out rfl
  case stop =>
    rintro D c pre W hD ⟨k, hk, rfl⟩ ⟨⟨⟨v, hv, hrow, _⟩, rfl, hl⟩, hB⟩ hK
    have hlk : (L.take k).length = k := by rw [List.length_take]; omega
    rw [hlk] at hrow
    have HK := Lib.hid hK
    have HROW := Lib.hid hrow
    have HB := Lib.hid hB
    have cv := hv.cell
    obtain ⟨A1, c1, rfl, _⟩ := own_slice hrow
    have ht : L.take most.toNat = L.take k := by
      rw [hlk] at hl
      rw [show most.toNat = k by omega]
    have HT := Lib.hid ht
    clear hK hrow hB hv ht
    have HLK := Lib.hid hlk
    clear hlk
    gi_wp2
    refine ⟨by simp, .inl ⟨_, _, rfl, run_takeDeferred HK.out, ?_⟩⟩
    refine ⟨_, results_tmp rfl _ _ _, _, rfl, ?_, HB.out.trans (belowK_b (w := w) (Nat.le_refl _) W D _ _ (by simp at hD; omega) HK.out rfl rfl)⟩
    rw [HT.out, HLK.out]
    exact ownsRow_putObj HROW.out _ HK.out rfl
end Go.Proofs.Ytmopdimokoogmaa
