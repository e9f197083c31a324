/-
  The reference's Read: what options say. Conditions: the list is no longer than the model's memory.
-/
import Derived.Test.YtodibldfolognaaLcM
import Derived.Test.YtodibldfolognaaFits
namespace Go.Proofs.Ytodibldfolognaa
open Go.RowKit
set_option linter.unusedVariables false
set_option linter.unusedSimpArgs false

structure OS where
  mru : Int
  accm : Int
  auth : Int
  magic : Int
  pfc : Bool
  acfc : Bool
def OS.cells (o : OS) : Array Value := #[.int .i64 o.mru, .int .i64 o.accm, .int .i64 o.auth, .int .u32 o.magic, .bool o.pfc, .bool o.acfc]
def OS.dflt : OS := ⟨1500, 4294967295, 0, 0, false, false⟩
def OS.zero : OS := ⟨0, 0, 0, 0, false, false⟩
def setF (o : OS) (t : Int) (xs : List Int) : Option OS :=
  if t = 1 then (if xs.length = 2 ∧ 64 ≤ numF xs ∧ numF xs ≤ 16384 then some { o with mru := numF xs } else none)
  else if t = 2 then (if xs.length = 4 then some { o with accm := numF xs } else none)
  else if t = 3 then (if methF xs ≠ 0 then some { o with auth := methF xs } else none)
  else if t = 5 then (if xs.length = 4 ∧ numF xs ≠ 0 then some { o with magic := numF xs } else none)
  else if t = 7 then (if xs.length = 0 then some { o with pfc := true } else none)
  else if t = 8 then (if xs.length = 0 then some { o with acfc := true } else none)
  else none
def rdF : List (Int × List Int) → List (Int × List Int) → OS → Option OS
  | _, [], o => some o
  | pre, x :: rest, o => if hasTy pre x.1 = true then none else match setF o x.1 x.2 with
    | none => none
    | some o' => rdF (pre ++ [x]) rest o'
def rdR (r : Option OS) : OS × Int := match r with | some o => (o, 0) | none => (OS.zero, 91)
def readF (os : List (Int × List Int)) : OS × Int := rdR (rdF [] os OS.dflt)
section
variable {os : List (Int × List Int)} {k : Nat} {o o' : OS} {x : Int × List Int} {r : Option OS}
theorem rdF_end (h : r = rdF (os.take k) (os.drop k) o) (hk : os.length ≤ k) : rdR r = (o, 0) := by
  rw [h, List.drop_of_length_le hk]
  rfl
theorem rdF_step (h : r = rdF (os.take k) (os.drop k) o) (hx : os[k]? = some x) (ht : hasTy (os.take k) x.1 = false) (hs : setF o x.1 x.2 = some o') : r = rdF (os.take (k + 1)) (os.drop (k + 1)) o' := by
  rw [h, drop_at hx, rdF, if_neg (by simp [ht]), hs, take_snoc hx]
theorem rdF_twice (h : r = rdF (os.take k) (os.drop k) o) (hx : os[k]? = some x) (ht : hasTy (os.take k) x.1 = true) : rdR r = (OS.zero, 91) := by
  rw [h, drop_at hx, rdF, if_pos ht]
  rfl
theorem rdF_bad (h : r = rdF (os.take k) (os.drop k) o) (hx : os[k]? = some x) (hs : setF o x.1 x.2 = none) : rdR r = (OS.zero, 91) := by
  rw [h, drop_at hx, rdF, hs]
  split <;> rfl
end
theorem methF_short {xs : List Int} (h : xs.length < 2) : methF xs = 0 := by
  unfold methF
  rw [if_neg (by rintro rfl; simp at h), if_neg (by rintro rfl; simp at h), if_neg (by rintro rfl; simp at h)]
theorem setF_size {o : OS} {t : Int} {n : Nat} {xs : List Int} (hl : xs.length = n) (h : sizeN t n = false) : setF o t xs = none := by
  subst hl
  unfold sizeN at h
  unfold setF
  by_cases h1 : t = 1
  · rw [if_pos h1] at h ⊢
    rw [if_neg]
    rintro ⟨h2, _⟩
    rw [h2] at h
    cases h
  rw [if_neg h1] at h ⊢
  by_cases h2 : t = 2
  · rw [if_pos (.inl h2)] at h
    rw [if_pos h2, if_neg]
    intro h3
    rw [h3] at h
    cases h
  rw [if_neg h2]
  by_cases h5 : t = 5
  · rw [if_pos (.inr h5)] at h
    rw [if_neg (by omega), if_pos h5, if_neg]
    rintro ⟨h3, _⟩
    rw [h3] at h
    cases h
  rw [if_neg (by omega)] at h
  by_cases h3 : t = 3
  · rw [if_pos h3] at h ⊢
    rw [if_neg]
    rw [ne_eq, Classical.not_not]
    refine methF_short ?_
    simp at h
    omega
  rw [if_neg h3] at h ⊢
  rw [if_neg h5]
  by_cases h7 : t = 7
  · rw [if_pos (.inl h7)] at h
    rw [if_pos h7, if_neg]
    intro h3
    rw [h3] at h
    cases h
  rw [if_neg h7]
  by_cases h8 : t = 8
  · rw [if_pos (.inr h8)] at h
    rw [if_pos h8, if_neg]
    intro h3
    rw [h3] at h
    cases h
  rw [if_neg h8]
theorem size_kind {t : Int} {n : Nat} (h : sizeN t n = true) : (t = 1 ∧ n = 2) ∨ (t = 2 ∧ n = 4) ∨ (t = 3 ∧ 2 ≤ n) ∨ (t = 5 ∧ n = 4) ∨ (t = 7 ∧ n = 0) ∨ (t = 8 ∧ n = 0) := by
  unfold sizeN at h
  repeat' split at h
  all_goals (try simp at h)
  all_goals omega
theorem numF_lt4 {xs : List Int} (hb : Byt xs) (hl : xs.length = 4) : numF xs < 4294967296 := by
  have h1 := numF_getN hb (by rw [hl]; omega) 4 (by rw [hl]; omega)
  have h3 := getN_bound 4 xs hb (by rw [hl]; omega)
  rw [List.take_of_length_le (by rw [hl]; omega)] at h1
  rw [h1]
  exact h3.2
theorem setF_1y {o : OS} {xs : List Int} {N : Int} (hl : xs.length = 2) (hN : numF xs = N) (h1 : ¬ N < 64) (h2 : ¬ 16384 < N) : setF o 1 xs = some { o with mru := N } := by
  unfold setF
  rw [if_pos rfl, hN, if_pos ⟨hl, by omega, by omega⟩]
theorem setF_1n {o : OS} {xs : List Int} {N : Int} (hN : numF xs = N) (h1 : N < 64 ∨ 16384 < N) : setF o 1 xs = none := by
  unfold setF
  rw [if_pos rfl, hN, if_neg (by rintro ⟨_, _, _⟩; omega)]
theorem setF_2y {o : OS} {xs : List Int} {N : Int} (hl : xs.length = 4) (hN : numF xs = N) : setF o 2 xs = some { o with accm := N } := by
  unfold setF
  rw [if_neg (by decide), if_pos rfl, if_pos hl, hN]
theorem setF_3y {o : OS} {xs : List Int} {M : Int} (hM : methF xs = M) (h : ¬ M = 0) : setF o 3 xs = some { o with auth := M } := by
  unfold setF
  rw [if_neg (by decide), if_neg (by decide), if_pos rfl, hM, if_pos h]
theorem setF_3n {o : OS} {xs : List Int} {M : Int} (hM : methF xs = M) (h : M = 0) : setF o 3 xs = none := by
  unfold setF
  rw [if_neg (by decide), if_neg (by decide), if_pos rfl, hM, if_neg (by simp [h])]
theorem setF_5y {o : OS} {xs : List Int} {N : Int} (hl : xs.length = 4) (hN : numF xs = N) (h : ¬ N = 0) : setF o 5 xs = some { o with magic := N } := by
  unfold setF
  rw [if_neg (by decide), if_neg (by decide), if_neg (by decide), if_pos rfl, hN, if_pos ⟨hl, h⟩]
theorem setF_5n {o : OS} {xs : List Int} {N : Int} (hN : numF xs = N) (h : N = 0) : setF o 5 xs = none := by
  unfold setF
  rw [if_neg (by decide), if_neg (by decide), if_neg (by decide), if_pos rfl, hN, if_neg (by rintro ⟨_, q⟩; exact q h)]
theorem setF_7y {o : OS} {xs : List Int} (hl : xs.length = 0) : setF o 7 xs = some { o with pfc := true } := by
  unfold setF
  rw [if_neg (by decide), if_neg (by decide), if_neg (by decide), if_neg (by decide), if_pos rfl, if_pos hl]
theorem setF_8y {o : OS} {xs : List Int} (hl : xs.length = 0) : setF o 8 xs = some { o with acfc := true } := by
  unfold setF
  rw [if_neg (by decide), if_neg (by decide), if_neg (by decide), if_neg (by decide), if_neg (by decide), if_pos rfl, if_pos hl]
abbrev zOT : Obj := .cells #[.int .i64 0, .int .i64 0, .int .i64 0, .int .u32 0, .bool false, .bool false] 28
def ReadTells (r : OS × Int) (e : Ending) : Prop := e = .returned (.tuple #[.agg #[.int .i64 r.1.mru, .int .i64 r.1.accm, .int .i64 r.1.auth, .int .u32 r.1.magic, .bool r.1.pfc, .bool r.1.acfc], .int .i64 r.2])
set_option maxRecDepth 100000 in
set_option maxHeartbeats 8000000 in
theorem rread_any (A : Option Addr) (n c : Nat) (vs : List OV) (hn : vs.length = n) (hn' : n ≤ 4398046511104) (w : World) (hx : Cells w A (flat vs)) (gx : Good w vs) :
    Calls Try.prog 17 #[.slice A n c] w fun e w' => ReadTells (readF (vs.map OV.opt)) e ∧ Below w.heap.size w w' := by
  have Hn := Lib.hid hn
  have HX := Lib.hid hx
  have GX := Lib.hid gx
  clear hn hx gx
  go_enter Try.func17, Try.ntmps17
  go_wp2_with fail
  refine (rdefault_any _).mono ?_
  rintro e w1 ⟨rfl, hb1⟩
  have S1 : Step w1 _ := ⟨hb1⟩
  have HZ1 : Hid (w1.heap[w.heap.size]? = some zOT) := at_ext (at_new w zOT)
  clear hb1
  have HO1 : Hid ((w1.alloc (.cells #[.int .i64 1500, .int .i64 4294967295, .int .i64 0, .int .u32 0, .bool false, .bool false] 28)).heap[w1.heap.size]? = some (.cells #[.int .i64 1500, .int .i64 4294967295, .int .i64 0, .int .u32 0, .bool false, .bool false] 28 (0, 0))) := at_new w1 _
  go_wp2
  go_loopw [5] (fun j wr => ∃ (k : Nat) (o : OS), j = .int .i64 k ∧ k ≤ n ∧ Hid (rdF [] (vs.map OV.opt) OS.dflt = rdF ((vs.map OV.opt).take k) ((vs.map OV.opt).drop k) o) ∧ Hid (wr.heap[w1.heap.size]? = some (.cells #[.int .i64 o.mru, .int .i64 o.accm, .int .i64 o.auth, .int .u32 o.magic, .bool o.pfc, .bool o.acfc] 28 (0, 0))) ∧ Hid (Ext w1 wr)) (fun j _ => n - (intOf j).toNat)
  case atStart => exact ⟨0, OS.dflt, rfl, by omega, rfl, HO1.out, (inferInstance : Ext w1 _)⟩
  case round =>
    obtain ⟨k, o, rfl, hk, HRD, HO, HE⟩ := hrel
    have Sr : Step wr w1 := ⟨HE.out.out⟩
    obtain ⟨o0, o1, o2, o3, o4, o5⟩ := o
    simp only at HO
    by_cases hlt : k < n
    · obtain ⟨v, hv, hvm⟩ := optD (vs := vs) (k := k) (by rw [Hn.out]; exact hlt)
      obtain ⟨ad, rfl, hc0, hc1⟩ := opt_at (HX.out.ext (w' := wr)) hv
      have HLT := Lib.hid hlt
      have hkn : (k : Int) < (n : Int) := by omega
      have HV : Hid ((vs.map OV.opt)[k]? = some v.opt) := by unfold Hid; rw [List.getElem?_map, hv]; rfl
      have HVT : Hid ((vs.map OV.opt)[k]?.map Prod.fst = some v.t) := by unfold Hid; rw [HV.out]; rfl
      have GW := Lib.hid (GX.out v hvm)
      obtain ⟨t, VA, vn, vc, xs⟩ := v
      simp only [OV.opt] at hc0 hc1 HV HVT
      have HXL : Hid (xs.length = vn) := GW.out.1
      clear hv hvm
      rcases hz : sizeN t vn with _ | _
      · have HZ := Lib.hid hz
        have HBAD := Lib.hid (rdF_bad HRD.out HV.out (setF_size HXL.out hz))
        clear hz
        go_wp2_with fail
        refine (rsize_any t VA vn vc _).mono ?_
        rintro e w2 ⟨rfl, hb2⟩
        rw [HZ.out]
        have S2 : Step w2 _ := ⟨hb2⟩
        clear hb2
        go_wp2_with
          (first
           | (refine wpList_store_row rfl 28 (.tmp 2) (.tmp 25) rfl w.heap.size #[.int .i64 0, .int .i64 0, .int .i64 0, .int .u32 0, .bool false, .bool false] rfl rfl 28 #[.int .i64 0, .int .i64 0, .int .i64 0, .int .u32 0, .bool false, .bool false] (at_ext HZ1.out) (by kernel_rfl) rfl (by simp [Value.oneCell']) ?_))
        refine bodyPost_ret (results_cell_row2 Try.results17 _ _ w.heap.size 28 #[.int .i64 0, .int .i64 0, .int .i64 0, .int .u32 0, .bool false, .bool false] (0, 0) _ (.int .i64 91) rfl rfl (setRow_heap _ _ _ _ _ _ (at_ext HZ1.out)) Try.underlying28 rfl (by kernel_rfl)) rfl ?_
        exact ⟨by unfold ReadTells readF; rw [HBAD.out]; rfl, (Ext.setRow_ (inferInstance : Ext w _) (Nat.le_refl _) _).out⟩
      · have HZ := Lib.hid hz
        have hkd := size_kind hz
        clear hz
        rcases hh : hasTy ((vs.map OV.opt).take k) t with _ | _
        · have HH := Lib.hid hh
          clear hh
          rcases hkd with ⟨rfl, rfl⟩ | ⟨rfl, rfl⟩ | ⟨rfl, hv2⟩ | ⟨rfl, rfl⟩ | ⟨rfl, rfl⟩ | ⟨rfl, rfl⟩
          · skip
            go_wp2_with fail
            refine (rsize_any 1 VA 2 vc _).mono ?_
            rintro e w2 ⟨rfl, hb2⟩
            rw [HZ.out]
            have S2 : Step w2 _ := ⟨hb2⟩
            clear hb2
            go_wp2_with fail
            refine (rtwice_any ad n c k vs 1 Hn.out hn' HLT.out _ (by exact HX.out.ext) HVT.out).mono ?_
            rintro e w3 ⟨rfl, hb3⟩
            rw [HH.out]
            have S3 : Step w3 _ := ⟨hb3⟩
            clear hb3
            have d0 := cell_ext (w' := w3) hc0
            have d1 := cell_ext (w' := w3) hc1
            have P3 := at_ext (w' := w3) HO.out
            have f0 := at_frozen P3 0
            have q0 := at_cell P3 0
            simp only [List.getElem?_toArray, List.getElem?_cons_zero, List.getElem?_cons_succ] at q0
            have HP3 := Lib.hid P3
            clear P3
            go_wp2_with fail
            refine (rnumber_any VA 2 vc xs HXL.out (Nat.le_trans GW.out.2.2.1 (by omega)) GW.out.2.2.2.1 _ (by exact GW.out.2.2.2.2.ext)).mono ?_
            rintro e w4 ⟨rfl, rfl⟩
            have hbd := numF_bd xs
            obtain ⟨N, hN⟩ : ∃ N, numF xs = N := ⟨_, rfl⟩
            have HNN := Lib.hid hN
            rw [hN] at hbd ⊢
            obtain ⟨hbd0, hbd1⟩ := hbd
            clear hN
            by_cases ha : N < 64
            · have HBAD := Lib.hid (rdF_bad HRD.out HV.out (setF_1n HNN.out (.inl ha)))
              go_wp2_with
                (first
                 | (refine wpList_store_row rfl 28 (.tmp 2) (.tmp 45) rfl w.heap.size #[.int .i64 0, .int .i64 0, .int .i64 0, .int .u32 0, .bool false, .bool false] rfl rfl 28 #[.int .i64 0, .int .i64 0, .int .i64 0, .int .u32 0, .bool false, .bool false] (at_ext HZ1.out) (by kernel_rfl) rfl (by simp [Value.oneCell']) ?_))
              refine bodyPost_ret (results_cell_row2 Try.results17 _ _ w.heap.size 28 #[.int .i64 0, .int .i64 0, .int .i64 0, .int .u32 0, .bool false, .bool false] (0, 0) _ (.int .i64 91) rfl rfl (setRow_heap _ _ _ _ _ _ (at_ext HZ1.out)) Try.underlying28 rfl (by kernel_rfl)) rfl ?_
              exact ⟨by unfold ReadTells readF; rw [HBAD.out]; rfl, (Ext.setRow_ (inferInstance : Ext w _) (Nat.le_refl _) _).out⟩
            by_cases hb : 16384 < N
            · have HBAD := Lib.hid (rdF_bad HRD.out HV.out (setF_1n HNN.out (.inr hb)))
              go_wp2_with
                (first
                 | (refine wpList_store_row rfl 28 (.tmp 2) (.tmp 45) rfl w.heap.size #[.int .i64 0, .int .i64 0, .int .i64 0, .int .u32 0, .bool false, .bool false] rfl rfl 28 #[.int .i64 0, .int .i64 0, .int .i64 0, .int .u32 0, .bool false, .bool false] (at_ext HZ1.out) (by kernel_rfl) rfl (by simp [Value.oneCell']) ?_))
              refine bodyPost_ret (results_cell_row2 Try.results17 _ _ w.heap.size 28 #[.int .i64 0, .int .i64 0, .int .i64 0, .int .u32 0, .bool false, .bool false] (0, 0) _ (.int .i64 91) rfl rfl (setRow_heap _ _ _ _ _ _ (at_ext HZ1.out)) Try.underlying28 rfl (by kernel_rfl)) rfl ?_
              exact ⟨by unfold ReadTells readF; rw [HBAD.out]; rfl, (Ext.setRow_ (inferInstance : Ext w _) (Nat.le_refl _) _).out⟩
            have hw : IntKind.i64.wrap N = N := by rw [IntKind.wrap_i64]; omega
            have HNX := Lib.hid (rdF_step HRD.out HV.out HH.out (setF_1y HXL.out HNN.out ha hb))
            go_wp2
            go_roundw
            case rel => exact ⟨k + 1, ⟨N, o1, o2, o3, o4, o5⟩, by go_num, HLT.out, HNX.out, at_set (at_ext HO.out) 0 _, (inferInstance : Ext w1 _)⟩
            case measure => have := HLT.out; simp [intOf]; omega
          · skip
            go_wp2_with fail
            refine (rsize_any 2 VA 4 vc _).mono ?_
            rintro e w2 ⟨rfl, hb2⟩
            rw [HZ.out]
            have S2 : Step w2 _ := ⟨hb2⟩
            clear hb2
            go_wp2_with fail
            refine (rtwice_any ad n c k vs 2 Hn.out hn' HLT.out _ (by exact HX.out.ext) HVT.out).mono ?_
            rintro e w3 ⟨rfl, hb3⟩
            rw [HH.out]
            have S3 : Step w3 _ := ⟨hb3⟩
            clear hb3
            have d0 := cell_ext (w' := w3) hc0
            have d1 := cell_ext (w' := w3) hc1
            have P3 := at_ext (w' := w3) HO.out
            have f0 := at_frozen P3 1
            have q0 := at_cell P3 1
            simp only [List.getElem?_toArray, List.getElem?_cons_zero, List.getElem?_cons_succ] at q0
            have HP3 := Lib.hid P3
            clear P3
            go_wp2_with fail
            refine (rnumber_any VA 4 vc xs HXL.out (Nat.le_trans GW.out.2.2.1 (by omega)) GW.out.2.2.2.1 _ (by exact GW.out.2.2.2.2.ext)).mono ?_
            rintro e w4 ⟨rfl, rfl⟩
            have hbd := numF_bd xs
            obtain ⟨N, hN⟩ : ∃ N, numF xs = N := ⟨_, rfl⟩
            have HNN := Lib.hid hN
            rw [hN] at hbd ⊢
            obtain ⟨hbd0, hbd1⟩ := hbd
            have hb4 := numF_lt4 GW.out.2.2.2.1 HXL.out
            rw [hN] at hb4
            clear hN
            have hw : IntKind.i64.wrap N = N := by rw [IntKind.wrap_i64]; omega
            have HNX := Lib.hid (rdF_step HRD.out HV.out HH.out (setF_2y HXL.out HNN.out))
            go_wp2
            go_roundw
            case rel => exact ⟨k + 1, ⟨o0, N, o2, o3, o4, o5⟩, by go_num, HLT.out, HNX.out, at_set (at_ext HO.out) 1 _, (inferInstance : Ext w1 _)⟩
            case measure => have := HLT.out; simp [intOf]; omega
          · skip
            go_wp2_with fail
            refine (rsize_any 3 VA vn vc _).mono ?_
            rintro e w2 ⟨rfl, hb2⟩
            rw [HZ.out]
            have S2 : Step w2 _ := ⟨hb2⟩
            clear hb2
            go_wp2_with fail
            refine (rtwice_any ad n c k vs 3 Hn.out hn' HLT.out _ (by exact HX.out.ext) HVT.out).mono ?_
            rintro e w3 ⟨rfl, hb3⟩
            rw [HH.out]
            have S3 : Step w3 _ := ⟨hb3⟩
            clear hb3
            have d0 := cell_ext (w' := w3) hc0
            have d1 := cell_ext (w' := w3) hc1
            have P3 := at_ext (w' := w3) HO.out
            have f0 := at_frozen P3 2
            have q0 := at_cell P3 2
            simp only [List.getElem?_toArray, List.getElem?_cons_zero, List.getElem?_cons_succ] at q0
            have HP3 := Lib.hid P3
            clear P3
            go_wp2_with fail
            refine (rnumber_any VA vn vc xs HXL.out (Nat.le_trans GW.out.2.2.1 (by omega)) GW.out.2.2.2.1 _ (by exact GW.out.2.2.2.2.ext)).mono ?_
            rintro e w4 ⟨rfl, rfl⟩
            have hbd := numF_bd xs
            obtain ⟨N, hN⟩ : ∃ N, numF xs = N := ⟨_, rfl⟩
            have HNN := Lib.hid hN
            rw [hN] at hbd ⊢
            obtain ⟨hbd0, hbd1⟩ := hbd
            clear hN
            go_wp2_with fail
            refine (rmethod_any VA vn vc xs HXL.out GW.out.2.2.2.1 _ (by exact GW.out.2.2.2.2.ext)).mono ?_
            rintro e w5 ⟨rfl, hb5⟩
            have S5 : Step w5 _ := ⟨hb5⟩
            clear hb5 d0 d1 f0 q0
            obtain ⟨M, hM⟩ : ∃ M, methF xs = M := ⟨_, rfl⟩
            have HMM := Lib.hid hM
            rw [hM]
            clear hM
            by_cases ha : M = 0
            · have HBAD := Lib.hid (rdF_bad HRD.out HV.out (setF_3n HMM.out ha))
              go_wp2_with
                (first
                 | (refine wpList_store_row rfl 28 (.tmp 2) (.tmp 63) rfl w.heap.size #[.int .i64 0, .int .i64 0, .int .i64 0, .int .u32 0, .bool false, .bool false] rfl rfl 28 #[.int .i64 0, .int .i64 0, .int .i64 0, .int .u32 0, .bool false, .bool false] (at_ext HZ1.out) (by kernel_rfl) rfl (by simp [Value.oneCell']) ?_))
              refine bodyPost_ret (results_cell_row2 Try.results17 _ _ w.heap.size 28 #[.int .i64 0, .int .i64 0, .int .i64 0, .int .u32 0, .bool false, .bool false] (0, 0) _ (.int .i64 91) rfl rfl (setRow_heap _ _ _ _ _ _ (at_ext HZ1.out)) Try.underlying28 rfl (by kernel_rfl)) rfl ?_
              exact ⟨by unfold ReadTells readF; rw [HBAD.out]; rfl, (Ext.setRow_ (inferInstance : Ext w _) (Nat.le_refl _) _).out⟩
            have d0 := cell_ext (w' := w5) hc0
            have d1 := cell_ext (w' := w5) hc1
            go_wp2_with fail
            refine (rmethod_any VA vn vc xs HXL.out GW.out.2.2.2.1 _ (by exact GW.out.2.2.2.2.ext)).mono ?_
            rintro e w6 ⟨rfl, hb6⟩
            have S6 : Step w6 _ := ⟨hb6⟩
            rw [HMM.out]
            have P6 := at_ext (w' := w6) HO.out
            have f0 := at_frozen P6 2
            have q0 := at_cell P6 2
            simp only [List.getElem?_toArray, List.getElem?_cons_zero, List.getElem?_cons_succ] at q0
            have HNX := Lib.hid (rdF_step HRD.out HV.out HH.out (setF_3y HMM.out ha))
            clear P6 hb6
            go_wp2
            go_roundw
            case rel => exact ⟨k + 1, ⟨o0, o1, M, o3, o4, o5⟩, by go_num, HLT.out, HNX.out, at_set (at_ext HO.out) 2 _, (inferInstance : Ext w1 _)⟩
            case measure => have := HLT.out; simp [intOf]; omega
          · skip
            go_wp2_with fail
            refine (rsize_any 5 VA 4 vc _).mono ?_
            rintro e w2 ⟨rfl, hb2⟩
            rw [HZ.out]
            have S2 : Step w2 _ := ⟨hb2⟩
            clear hb2
            go_wp2_with fail
            refine (rtwice_any ad n c k vs 5 Hn.out hn' HLT.out _ (by exact HX.out.ext) HVT.out).mono ?_
            rintro e w3 ⟨rfl, hb3⟩
            rw [HH.out]
            have S3 : Step w3 _ := ⟨hb3⟩
            clear hb3
            have d0 := cell_ext (w' := w3) hc0
            have d1 := cell_ext (w' := w3) hc1
            have P3 := at_ext (w' := w3) HO.out
            have f0 := at_frozen P3 3
            have q0 := at_cell P3 3
            simp only [List.getElem?_toArray, List.getElem?_cons_zero, List.getElem?_cons_succ] at q0
            have HP3 := Lib.hid P3
            clear P3
            go_wp2_with fail
            refine (rnumber_any VA 4 vc xs HXL.out (Nat.le_trans GW.out.2.2.1 (by omega)) GW.out.2.2.2.1 _ (by exact GW.out.2.2.2.2.ext)).mono ?_
            rintro e w4 ⟨rfl, rfl⟩
            have hbd := numF_bd xs
            obtain ⟨N, hN⟩ : ∃ N, numF xs = N := ⟨_, rfl⟩
            have HNN := Lib.hid hN
            rw [hN] at hbd ⊢
            obtain ⟨hbd0, hbd1⟩ := hbd
            have hb4 := numF_lt4 GW.out.2.2.2.1 HXL.out
            rw [hN] at hb4
            clear hN
            by_cases ha : N = 0
            · have HBAD := Lib.hid (rdF_bad HRD.out HV.out (setF_5n HNN.out ha))
              subst ha
              go_wp2_with
                (first
                 | (refine wpList_store_row rfl 28 (.tmp 2) (.tmp 75) rfl w.heap.size #[.int .i64 0, .int .i64 0, .int .i64 0, .int .u32 0, .bool false, .bool false] rfl rfl 28 #[.int .i64 0, .int .i64 0, .int .i64 0, .int .u32 0, .bool false, .bool false] (at_ext HZ1.out) (by kernel_rfl) rfl (by simp [Value.oneCell']) ?_))
              refine bodyPost_ret (results_cell_row2 Try.results17 _ _ w.heap.size 28 #[.int .i64 0, .int .i64 0, .int .i64 0, .int .u32 0, .bool false, .bool false] (0, 0) _ (.int .i64 91) rfl rfl (setRow_heap _ _ _ _ _ _ (at_ext HZ1.out)) Try.underlying28 rfl (by kernel_rfl)) rfl ?_
              exact ⟨by unfold ReadTells readF; rw [HBAD.out]; rfl, (Ext.setRow_ (inferInstance : Ext w _) (Nat.le_refl _) _).out⟩
            have hw : IntKind.u32.wrap N = N := by rw [IntKind.wrap_u32]; omega
            have HNX := Lib.hid (rdF_step HRD.out HV.out HH.out (setF_5y HXL.out HNN.out ha))
            go_wp2
            go_roundw
            case rel => exact ⟨k + 1, ⟨o0, o1, o2, N, o4, o5⟩, by go_num, HLT.out, HNX.out, at_set (at_ext HO.out) 3 _, (inferInstance : Ext w1 _)⟩
            case measure => have := HLT.out; simp [intOf]; omega
          · skip
            go_wp2_with fail
            refine (rsize_any 7 VA 0 vc _).mono ?_
            rintro e w2 ⟨rfl, hb2⟩
            rw [HZ.out]
            have S2 : Step w2 _ := ⟨hb2⟩
            clear hb2
            go_wp2_with fail
            refine (rtwice_any ad n c k vs 7 Hn.out hn' HLT.out _ (by exact HX.out.ext) HVT.out).mono ?_
            rintro e w3 ⟨rfl, hb3⟩
            rw [HH.out]
            have S3 : Step w3 _ := ⟨hb3⟩
            clear hb3
            have d0 := cell_ext (w' := w3) hc0
            have d1 := cell_ext (w' := w3) hc1
            have P3 := at_ext (w' := w3) HO.out
            have f0 := at_frozen P3 4
            have q0 := at_cell P3 4
            simp only [List.getElem?_toArray, List.getElem?_cons_zero, List.getElem?_cons_succ] at q0
            have HP3 := Lib.hid P3
            clear P3
            go_wp2_with fail
            refine (rnumber_any VA 0 vc xs HXL.out (Nat.le_trans GW.out.2.2.1 (by omega)) GW.out.2.2.2.1 _ (by exact GW.out.2.2.2.2.ext)).mono ?_
            rintro e w4 ⟨rfl, rfl⟩
            have hbd := numF_bd xs
            obtain ⟨N, hN⟩ : ∃ N, numF xs = N := ⟨_, rfl⟩
            have HNN := Lib.hid hN
            rw [hN] at hbd ⊢
            obtain ⟨hbd0, hbd1⟩ := hbd
            clear hN
            have HNX := Lib.hid (rdF_step HRD.out HV.out HH.out (setF_7y HXL.out))
            go_wp2
            go_roundw
            case rel => exact ⟨k + 1, ⟨o0, o1, o2, o3, true, o5⟩, by go_num, HLT.out, HNX.out, at_set (at_ext HO.out) 4 _, (inferInstance : Ext w1 _)⟩
            case measure => have := HLT.out; simp [intOf]; omega
          · skip
            go_wp2_with fail
            refine (rsize_any 8 VA 0 vc _).mono ?_
            rintro e w2 ⟨rfl, hb2⟩
            rw [HZ.out]
            have S2 : Step w2 _ := ⟨hb2⟩
            clear hb2
            go_wp2_with fail
            refine (rtwice_any ad n c k vs 8 Hn.out hn' HLT.out _ (by exact HX.out.ext) HVT.out).mono ?_
            rintro e w3 ⟨rfl, hb3⟩
            rw [HH.out]
            have S3 : Step w3 _ := ⟨hb3⟩
            clear hb3
            have d0 := cell_ext (w' := w3) hc0
            have d1 := cell_ext (w' := w3) hc1
            have P3 := at_ext (w' := w3) HO.out
            have f0 := at_frozen P3 5
            have q0 := at_cell P3 5
            simp only [List.getElem?_toArray, List.getElem?_cons_zero, List.getElem?_cons_succ] at q0
            have HP3 := Lib.hid P3
            clear P3
            go_wp2_with fail
            refine (rnumber_any VA 0 vc xs HXL.out (Nat.le_trans GW.out.2.2.1 (by omega)) GW.out.2.2.2.1 _ (by exact GW.out.2.2.2.2.ext)).mono ?_
            rintro e w4 ⟨rfl, rfl⟩
            have hbd := numF_bd xs
            obtain ⟨N, hN⟩ : ∃ N, numF xs = N := ⟨_, rfl⟩
            have HNN := Lib.hid hN
            rw [hN] at hbd ⊢
            obtain ⟨hbd0, hbd1⟩ := hbd
            clear hN
            have HNX := Lib.hid (rdF_step HRD.out HV.out HH.out (setF_8y HXL.out))
            go_wp2
            go_roundw
            case rel => exact ⟨k + 1, ⟨o0, o1, o2, o3, o4, true⟩, by go_num, HLT.out, HNX.out, at_set (at_ext HO.out) 5 _, (inferInstance : Ext w1 _)⟩
            case measure => have := HLT.out; simp [intOf]; omega
        · have HH := Lib.hid hh
          have HBAD := Lib.hid (rdF_twice HRD.out HV.out hh)
          clear hh hkd
          go_wp2_with fail
          refine (rsize_any t VA vn vc _).mono ?_
          rintro e w2 ⟨rfl, hb2⟩
          rw [HZ.out]
          have S2 : Step w2 _ := ⟨hb2⟩
          clear hb2
          go_wp2_with fail
          refine (rtwice_any ad n c k vs t Hn.out hn' HLT.out _ (by exact HX.out.ext) HVT.out).mono ?_
          rintro e w3 ⟨rfl, hb3⟩
          rw [HH.out]
          have S3 : Step w3 _ := ⟨hb3⟩
          clear hb3
          go_wp2_with
            (first
             | (refine wpList_store_row rfl 28 (.tmp 2) (.tmp 25) rfl w.heap.size #[.int .i64 0, .int .i64 0, .int .i64 0, .int .u32 0, .bool false, .bool false] rfl rfl 28 #[.int .i64 0, .int .i64 0, .int .i64 0, .int .u32 0, .bool false, .bool false] (at_ext HZ1.out) (by kernel_rfl) rfl (by simp [Value.oneCell']) ?_))
          refine bodyPost_ret (results_cell_row2 Try.results17 _ _ w.heap.size 28 #[.int .i64 0, .int .i64 0, .int .i64 0, .int .u32 0, .bool false, .bool false] (0, 0) _ (.int .i64 91) rfl rfl (setRow_heap _ _ _ _ _ _ (at_ext HZ1.out)) Try.underlying28 rfl (by kernel_rfl)) rfl ?_
          exact ⟨by unfold ReadTells readF; rw [HBAD.out]; rfl, (Ext.setRow_ (inferInstance : Ext w _) (Nat.le_refl _) _).out⟩
    · obtain rfl : k = n := by omega
      have HEND := Lib.hid (rdF_end HRD.out (by rw [List.length_map, Hn.out]; exact Nat.le_refl _))
      go_wp2_with
        (first
         | (refine wpList_load_row rfl 28 (.tmp 4) rfl w1.heap.size rfl 28 #[.int .i64 o0, .int .i64 o1, .int .i64 o2, .int .u32 o3, .bool o4, .bool o5] (0, 0) _ (at_ext HO.out) Try.underlying28 rfl (by kernel_rfl) ?_)
         | (refine wpList_store_row rfl 28 (.tmp 2) (.tmp 85) rfl w.heap.size #[.int .i64 o0, .int .i64 o1, .int .i64 o2, .int .u32 o3, .bool o4, .bool o5] rfl rfl 28 #[.int .i64 0, .int .i64 0, .int .i64 0, .int .u32 0, .bool false, .bool false] (at_ext HZ1.out) (by kernel_rfl) rfl (by simp [Value.oneCell']) ?_))
      refine bodyPost_ret (results_cell_row2 Try.results17 _ _ w.heap.size 28 #[.int .i64 o0, .int .i64 o1, .int .i64 o2, .int .u32 o3, .bool o4, .bool o5] (0, 0) _ (.int .i64 0) rfl rfl (setRow_heap _ _ _ _ _ _ (at_ext HZ1.out)) Try.underlying28 rfl (by kernel_rfl)) rfl ?_
      exact ⟨by unfold ReadTells readF; rw [HEND.out], (Ext.setRow_ (inferInstance : Ext w _) (Nat.le_refl _) _).out⟩
end Go.Proofs.Ytodibldfolognaa
