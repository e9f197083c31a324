/-
  lcp.Read: what options say; a panic of 'fault' is recovered. Conditions: the list is no longer than the model's memory.
-/
import Derived.Test.YtodibldfolognaaLcV
namespace Go.Proofs.Ytodibldfolognaa
open Go.RowKit
set_option linter.unusedVariables false
set_option linter.unusedSimpArgs false

theorem run_loadVar_int {P : Program} {w : World} {a : Addr} {v : Value} {ty : TypeId} {k : IntKind} (hu : P.underlying ty = some (.int k)) (hc : w.cell? a = some v) : (loadVar ty a).run P w = .ok v w := by
  simp [loadVar, isAgg, Go.underlying, go_sem, hu, hc]
theorem results_rc {P : Program} {fn : Func} {p q : Tmp} {ty t2 : TypeId} {k : IntKind} (h : fn.results = #[.cell p ty, .cell q t2]) (tmps : Array Value) (w : World) (g g2 : Nat) (t : TypeId) (cs : Array Value) (fr : Nat × Nat) (d : TypeDesc) (v : Value)
    (hp : tmps.getD p undef = .pointer (some ⟨g, 0, none⟩)) (hq : tmps.getD q undef = .pointer (some ⟨g2, 0, none⟩)) (hg : w.heap[g]? = some (.cells cs t fr)) (hc : w.cell? ⟨g2, 0, none⟩ = some v)
    (hu : P.underlying ty = some d) (hd : (match d with | .struct _ | .array _ _ => true | _ => false) = true) (hi : (P.info? ty).map (·.size) = some cs.size) (hk : P.underlying t2 = some (.int k)) :
    (results fn tmps).run P w = .ok (.tuple #[.agg cs, v]) w := by
  have hp' : tmps[p]?.getD undef = .pointer (some ⟨g, 0, none⟩) := by simpa using hp
  have hq' : tmps[q]?.getD undef = .pointer (some ⟨g2, 0, none⟩) := by simpa using hq
  simp [results, h, hp', hq', asAddr, run_loadVar_row w g t ty cs fr d hg hu hd hi, run_loadVar_int hk hc]
def LReadTells (r : OS × Int) (e : Ending) : Prop := e = .returned (.tuple #[.agg #[.int .i64 r.1.mru, .int .i64 r.1.accm, .int .i64 r.1.auth, .int .u32 r.1.magic, .bool r.1.pfc, .bool r.1.acfc], .int .i64 r.2])
set_option maxRecDepth 100000 in
set_option maxHeartbeats 8000000 in
theorem lread_any (A : Option Addr) (n c : Nat) (vs : List OV) (hn : vs.length = n) (hn' : n ≤ 4398046511104) (hnc : n ≤ c) (w : World) (hx : Cells w A (flat vs)) (gx : Good w vs) :
    Calls Try.prog 33 #[.slice A n c] w fun e w' => LReadTells (readF (vs.map OV.opt)) e ∧ Below w.heap.size w w' := by
  have Hn := Lib.hid hn
  have HX := Lib.hid hx
  have GX := Lib.hid gx
  clear hn hx gx
  have hmf : ∀ (fn : Fn) (first cap : Array Value) (w : World), (Instr.makeFunc fn first cap).run Try.prog w = .ok (.func fn first cap) w := fun _ _ _ _ => rfl
  go_enter_defers Try.func33, Try.ntmps33
  go_wp2_with fail
  refine (ldefault_any _).mono ?_
  rintro e w1 ⟨rfl, hb1⟩
  have S1 : Step w1 _ := ⟨hb1⟩
  have HB1 : Hid (w1.heap[w.heap.size]? = some (oL OS.zero)) := at_ext (at_new w zOL)
  have HE1 : Hid (w1.heap[w.heap.size + 1]? = some (.cells #[.int .i64 0] 35 (0, 0))) := at_ext (w := (w.alloc zOL).alloc (.cells #[.int .i64 0] 35)) (at_new1 (by simp))
  have HW1 : Hid (Ext w w1) := (inferInstance : Ext w w1)
  clear S1 hb1
  obtain ⟨w2, hw2⟩ : ∃ w2, w1.setRow w.heap.size #[.int .i64 1500, .int .i64 4294967295, .int .i64 0, .int .u32 0, .bool false, .bool false] = w2 := ⟨_, rfl⟩
  have HB2 : Hid (w2.heap[w.heap.size]? = some (oL OS.dflt)) := by unfold Hid; rw [← hw2]; exact setRow_heap _ _ _ _ _ _ HB1.out
  have HE2 : Hid (w2.heap[w.heap.size + 1]? = some (.cells #[.int .i64 0] 35 (0, 0))) := by unfold Hid; rw [← hw2]; exact (setRow_other _ _ _ _ (by omega)).trans HE1.out
  have HW2 : Hid (Ext w w2) := by unfold Hid; rw [← hw2]; exact Ext.setRow_ HW1.out (Nat.le_refl _) _
  go_wp2_with
    (refine wpList_store_row rfl 33 (.tmp 2) (.tmp 7) rfl w.heap.size #[.int .i64 1500, .int .i64 4294967295, .int .i64 0, .int .u32 0, .bool false, .bool false] rfl rfl 33 #[.int .i64 0, .int .i64 0, .int .i64 0, .int .u32 0, .bool false, .bool false] HB1.out (by kernel_rfl) rfl (by simp [Value.oneCell']) ?_)
  try rw [hw2]
  clear hw2 HB1 HE1 HW1
  go_loopw [10] (fun j wr => ∃ (k : Nat) (o : OS), j = .int .i64 k ∧ k ≤ n ∧ Hid (rdF [] (vs.map OV.opt) OS.dflt = rdF ((vs.map OV.opt).take k) ((vs.map OV.opt).drop k) o) ∧ Hid (wr.heap[w.heap.size]? = some (oL o)) ∧ Hid (wr.heap[w.heap.size + 1]? = some (.cells #[.int .i64 0] 35 (0, 0))) ∧ Hid (Ext w wr)) (fun j _ => n - (intOf j).toNat)
  case atStart => exact ⟨0, OS.dflt, rfl, by omega, rfl, HB2.out, HE2.out, HW2.out⟩
  case round =>
    obtain ⟨k, o, rfl, hk, HRD, HO, HE, HW⟩ := hrel
    have Sr : Step wr w := ⟨HW.out.out⟩
    by_cases hlt : k < n
    · obtain ⟨v, hv, hvm⟩ := optD (vs := vs) (k := k) (by rw [Hn.out]; exact hlt)
      obtain ⟨ad, rfl, hc0, hc1⟩ := opt_at (HX.out.ext (w' := wr)) hv
      have HLT := Lib.hid hlt
      have hkn : (k : Int) < (n : Int) := by omega
      have HV : Hid ((vs.map OV.opt)[k]? = some v.opt) := by unfold Hid; rw [List.getElem?_map, hv]; rfl
      have HVT : Hid ((vs.map OV.opt)[k]?.map Prod.fst = some v.t) := by unfold Hid; rw [HV.out]; rfl
      have GW := Lib.hid (GX.out v hvm)
      obtain ⟨t, VA, vn, vc, xs⟩ := v
      simp only [OV.opt] at hc0 hc1 HV HVT
      have HXL : Hid (xs.length = vn) := GW.out.1
      clear hv hvm
      go_wp2_with fail
      refine (ltwice_any ad n c k vs t Hn.out hn' hnc HLT.out _ (by exact HX.out.ext) HVT.out).mono ?_
      rintro e w3 ⟨rfl, hb3⟩
      have S3 : Step w3 _ := ⟨hb3⟩
      have HP := Lib.hid (at_ext (w' := w3) (at_new wr (.cells #[.int .i64 t, .slice VA vn vc] 119)))
      have p0 : w3.cell? ⟨wr.heap.size, 0, none⟩ = some (.int .i64 t) := at_cell HP.out 0
      have p1 : w3.cell? ⟨wr.heap.size, 1, none⟩ = some (.slice VA vn vc) := at_cell HP.out 1
      have HO3 := Lib.hid (at_ext (w' := w3) HO.out)
      have HE3 := Lib.hid (at_ext (w' := w3) HE.out)
      have HW3 : Hid (Below w.heap.size w w3) := (inferInstance : Ext w w3).out
      clear hb3
      rcases hh : hasTy ((vs.map OV.opt).take k) t with _ | _
      · have HH := Lib.hid hh
        clear hh
        go_wp2_with fail
        refine (lset_any o t VA vn vc xs w.heap.size HXL.out (Nat.le_trans GW.out.2.2.1 (by omega)) GW.out.2.2.2.1 _ (by exact GW.out.2.2.2.2.ext) HO3.out).mono ?_
        rintro e w4 ⟨hbut, hst⟩
        have HE4 := Lib.hid (hbut.at (by omega) HE3.out)
        have HW4 : Hid (Ext w w4) := hbut.ext ⟨HW3.out⟩ (Nat.le_refl _)
        clear hbut
        rcases hs : setF o t xs with _ | o'
        · rw [hs] at hst
          obtain ⟨rfl, o', ho'⟩ := hst
          have HB4 := Lib.hid ho'
          have HBAD := Lib.hid (rdF_bad HRD.out HV.out hs)
          clear hs ho' p0 p1
          go_wp2_with fail
          refine leaves_cons (f := 94) (args := #[.pointer (some ⟨w.heap.size, 0, none⟩), .pointer (some ⟨w.heap.size + 1, 0, none⟩)]) (by simp) (by simp [go_sem]) ?_
          refine (rec_panicking o' 0 w.heap.size (w.heap.size + 1) (by omega) _ HB4.out HE4.out).mono ?_
          rintro e u' w'' ⟨rfl, rfl, hB, hE, hb⟩
          show Leaves _ _ _ _ [] .returning _
          exact ⟨_, results_rc Try.results33 _ _ w.heap.size (w.heap.size + 1) 33 #[.int .i64 0, .int .i64 0, .int .i64 0, .int .u32 0, .bool false, .bool false] (0, 0) _ (.int .i64 91) rfl rfl hB (at_cell hE 0) Try.underlying33 rfl (by kernel_rfl) Try.underlying35, by unfold LReadTells readF; rw [HBAD.out]; rfl, HW4.out.out.trans hb⟩
        · rw [hs] at hst
          obtain ⟨rfl, ho'⟩ := hst
          have HB4 := Lib.hid ho'
          have HNX := Lib.hid (rdF_step HRD.out HV.out HH.out hs)
          clear hs ho' p0 p1
          go_wp2_with fail
          go_roundw
          case rel => exact ⟨k + 1, o', by go_num, HLT.out, HNX.out, HB4.out, HE4.out, HW4.out⟩
          case measure => have := HLT.out; simp [intOf]; omega
      · have HBAD := Lib.hid (rdF_twice HRD.out HV.out hh)
        clear hh p0 p1
        go_wp2_with fail
        refine leaves_cons (f := 94) (args := #[.pointer (some ⟨w.heap.size, 0, none⟩), .pointer (some ⟨w.heap.size + 1, 0, none⟩)]) (by simp) (by simp [go_sem]) ?_
        refine (rec_panicking o 0 w.heap.size (w.heap.size + 1) (by omega) _ HO3.out HE3.out).mono ?_
        rintro e u' w'' ⟨rfl, rfl, hB, hE, hb⟩
        show Leaves _ _ _ _ [] .returning _
        exact ⟨_, results_rc Try.results33 _ _ w.heap.size (w.heap.size + 1) 33 #[.int .i64 0, .int .i64 0, .int .i64 0, .int .u32 0, .bool false, .bool false] (0, 0) _ (.int .i64 91) rfl rfl hB (at_cell hE 0) Try.underlying33 rfl (by kernel_rfl) Try.underlying35, by unfold LReadTells readF; rw [HBAD.out]; rfl, HW3.out.trans hb⟩
    · obtain rfl : k = n := by omega
      have HEND := Lib.hid (rdF_end HRD.out (by rw [List.length_map, Hn.out]; exact Nat.le_refl _))
      obtain ⟨w5, hw5⟩ : ∃ w5, wr.setRow w.heap.size #[.int .i64 o.mru, .int .i64 o.accm, .int .i64 o.auth, .int .u32 o.magic, .bool o.pfc, .bool o.acfc] = w5 := ⟨_, rfl⟩
      have HB5 : Hid (w5.heap[w.heap.size]? = some (oL o)) := by unfold Hid; rw [← hw5]; exact setRow_heap _ _ _ _ _ _ HO.out
      have HE5 : Hid (w5.heap[w.heap.size + 1]? = some (.cells #[.int .i64 0] 35 (0, 0))) := by unfold Hid; rw [← hw5]; exact (setRow_other _ _ _ _ (by omega)).trans HE.out
      have HW5 : Hid (Below w.heap.size w w5) := by unfold Hid; rw [← hw5]; exact (Ext.setRow_ HW.out (Nat.le_refl _) _).out
      have f5 := at_frozen HE5.out 0
      have q5 : w5.cell? ⟨w.heap.size + 1, 0, none⟩ = some (.int .i64 0) := at_cell HE5.out 0
      go_wp2_with
        (first
         | (refine wpList_load_row rfl 33 (.tmp 2) rfl w.heap.size rfl 33 #[.int .i64 o.mru, .int .i64 o.accm, .int .i64 o.auth, .int .u32 o.magic, .bool o.pfc, .bool o.acfc] (0, 0) _ HO.out Try.underlying33 rfl (by kernel_rfl) ?_)
         | (refine wpList_store_row rfl 33 (.tmp 2) (.tmp 23) rfl w.heap.size #[.int .i64 o.mru, .int .i64 o.accm, .int .i64 o.auth, .int .u32 o.magic, .bool o.pfc, .bool o.acfc] rfl rfl 33 #[.int .i64 o.mru, .int .i64 o.accm, .int .i64 o.auth, .int .u32 o.magic, .bool o.pfc, .bool o.acfc] HO.out (by kernel_rfl) rfl (by simp [Value.oneCell']) ?_))
      have HB6 : Hid ((w5.setCell ⟨w.heap.size + 1, 0, none⟩ (.int .i64 0)).heap[w.heap.size]? = some (oL o)) := (Below.heap_setCell _ _ _ _ (by show w.heap.size ≠ w.heap.size + 1; omega)).trans HB5.out
      have HE6 : Hid ((w5.setCell ⟨w.heap.size + 1, 0, none⟩ (.int .i64 0)).heap[w.heap.size + 1]? = some (.cells #[.int .i64 0] 35 (0, 0))) := at_set HE5.out 0 _
      have HW6 : Hid (Below w.heap.size w (w5.setCell ⟨w.heap.size + 1, 0, none⟩ (.int .i64 0))) := HW5.out.setCell (p := ⟨w.heap.size + 1, 0, none⟩) (Nat.le_succ _) _
      refine leaves_cons (f := 94) (args := #[.pointer (some ⟨w.heap.size, 0, none⟩), .pointer (some ⟨w.heap.size + 1, 0, none⟩)]) (by simp) (by simp [go_sem]) ?_
      refine (rec_idle w.heap.size (w.heap.size + 1) _).mono ?_
      rintro e u' w'' ⟨rfl, rfl, hb⟩
      show Leaves _ _ _ _ [] .returning _
      have S6 : Ext (w5.setCell ⟨w.heap.size + 1, 0, none⟩ (.int .i64 0)) w'' := ⟨hb⟩
      exact ⟨_, results_rc Try.results33 _ _ w.heap.size (w.heap.size + 1) 33 #[.int .i64 o.mru, .int .i64 o.accm, .int .i64 o.auth, .int .u32 o.magic, .bool o.pfc, .bool o.acfc] (0, 0) _ (.int .i64 0) rfl rfl (at_ext HB6.out) (at_cell (at_ext HE6.out) 0) Try.underlying33 rfl (by kernel_rfl) Try.underlying35, by unfold LReadTells readF; rw [HEND.out], (Ext.trans_ ⟨HW6.out⟩ S6).out⟩
end Go.Proofs.Ytodibldfolognaa
