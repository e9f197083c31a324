/-
  ref12's authenticator: NewServer, Take, Reset; pap.NewServer once more, with where the table lies. Conditions: sizes.
-/
import Derived.Test.YtodibldfolognaaPqE
import Derived.Deep.CutBlock
namespace Go.Proofs.Ytodibldfolognaa
open Go.RowKit
set_option linter.unusedVariables false
set_option linter.unusedSimpArgs false

/-- The reference's authenticator, at block R. -/
def RSrvAt (w : World) (R : Nat) (name : ByteArray) (A : Option Addr) (n c : Nat) (st : Int) (who : ByteArray) : Prop :=
  w.heap[R]? = some (.cells #[.string name, .slice A n c, .int .i64 st, .string who] 93 (0, 0))
section
variable {w w1 w2 : World} {R : Nat} {name who : ByteArray} {A : Option Addr} {n c : Nat} {st : Int}
theorem RSrvAt.ext [h : Ext w w1] (k : RSrvAt w R name A n c st who) : RSrvAt w1 R name A n c st who := at_ext (w := w) k
theorem RSrvAt.p0 (k : RSrvAt w R name A n c st who) : w.cell? ⟨R, 0, none⟩ = some (.string name) := at_cell k 0
theorem RSrvAt.p1 (k : RSrvAt w R name A n c st who) : w.cell? ⟨R, 1, none⟩ = some (.slice A n c) := at_cell k 1
theorem RSrvAt.p2 (k : RSrvAt w R name A n c st who) : w.cell? ⟨R, 2, none⟩ = some (.int .i64 st) := at_cell k 2
theorem RSrvAt.p3 (k : RSrvAt w R name A n c st who) : w.cell? ⟨R, 3, none⟩ = some (.string who) := at_cell k 3
theorem RSrvAt.f (k : RSrvAt w R name A n c st who) (i : Nat) : w.frozen? ⟨R, i, none⟩ = false := at_frozen k i
theorem RSrvAt.set (k : RSrvAt w R name A n c st who) (x : Int) : RSrvAt (w.setCell ⟨R, 2, none⟩ (.int .i64 x)) R name A n c x who := at_set k 2 _
theorem RSrvAt.setw (k : RSrvAt w R name A n c st who) (x : ByteArray) : RSrvAt (w.setCell ⟨R, 3, none⟩ (.string x)) R name A n c st x := at_set k 3 _
theorem RSrvAt.setRow {g : Nat} (k : RSrvAt w R name A n c st who) (hg : R < g) (cs : Array Value) : RSrvAt (w.setRow g cs) R name A n c st who := (setRow_other _ _ _ _ (by omega)).trans k
theorem RSrvAt.but {C : Nat} (k : RSrvAt w R name A n c st who) (h : But w w1 C) (hne : R ≠ C) : RSrvAt w1 R name A n c st who := h.at hne k
end
theorem rreset_any (R : Nat) (name who : ByteArray) (A : Option Addr) (n c : Nat) (st : Int) (w : World) (h : RSrvAt w R name A n c st who) :
    Calls Try.prog 50 #[.pointer (some ⟨R, 0, none⟩)] w fun e w' => e = .returned (.tuple #[]) ∧ RSrvAt w' R name A n c 0 ⟨#[]⟩ ∧ But w w' R := by
  have p2 := h.p2
  have f2 := h.f 2
  have p3 := (h.set 0).p3
  have f3 := (h.set 0).f 3
  have H := Lib.hid h
  clear h
  go_enter Try.func50, Try.ntmps50
  go_wp2
  go_end0
  exact ⟨rfl, (H.out.set 0).setw ⟨#[]⟩, (But.of.set 2 _).set 3 _⟩
/-- What Take tells and leaves. -/
def RTakeTells (R : Nat) (name : ByteArray) (A : Option Addr) (n c : Nat) (us : List SV) (st : Int) (who : ByteArray) (code id : Int) (xs : List Int) (w : World) (e : Ending) (w' : World) : Prop :=
  But w w' R ∧ if (rrF code id xs).2 ≠ 0 then RSrvAt w' R name A n c st who ∧ e = .returned (.tuple #[.agg #[.int .i64 0, .int .i64 0, .slice none 0 0], .bool false, .int .i64 (rrF code id xs).2])
    else ∃ s' a A' c', stepS name us st who (strOfNums (rrF code id xs).1.1) (strOfNums (rrF code id xs).1.2) = s' ∧ ansF id (s'.1 == 1) (strB (sayB s'.1)) = a ∧ RSrvAt w' R name A n c s'.1 s'.2 ∧
      e = .returned (.tuple #[.agg #[.int .i64 a.1.1, .int .i64 a.1.2, .slice A' a.2.1.length c'], .bool true, .int .i64 0]) ∧ w'.ownsRow w.heap.size 5 1 (.slice A' a.2.1.length c') a.2.1.length (nums .u8 a.2.1)
/-- What Take has in memory. -/
structure RTk (w w' : World) (R : Nat) (name : ByteArray) (A : Option Addr) (n c : Nat) (st : Int) (who : ByteArray) (code id : Int) (A0 : Option Addr) (n0 c0 : Nat) : Prop where
  v : RSrvAt w' R name A n c st who
  p : w'.heap[w.heap.size]? = some (.cells #[.int .i64 code, .int .i64 id, .slice A0 n0 c0] 43 (0, 0))
  r : w'.heap[w.heap.size + 1]? = some zPk
  b : But w w' R
  lt : R < w.heap.size
section
variable {w w1 w2 : World} {R : Nat} {name who : ByteArray} {st : Int} {code id : Int} {A A0 : Option Addr} {n c n0 c0 : Nat}
theorem RTk.ext (h : Ext w1 w2) (k : RTk w w1 R name A n c st who code id A0 n0 c0) : RTk w w2 R name A n c st who code id A0 n0 c0 :=
  ⟨k.v.ext, at_ext k.p, at_ext k.r, k.b.trans_ext h, k.lt⟩
theorem RTk.set (k : RTk w w1 R name A n c st who code id A0 n0 c0) (x : Int) : RTk w (w1.setCell ⟨R, 2, none⟩ (.int .i64 x)) R name A n c x who code id A0 n0 c0 :=
  ⟨k.v.set x, (Below.heap_setCell _ _ _ _ (by have := k.lt; show w.heap.size ≠ R; omega)).trans k.p, (Below.heap_setCell _ _ _ _ (by have := k.lt; show w.heap.size + 1 ≠ R; omega)).trans k.r, k.b.set 2 _, k.lt⟩
theorem RTk.setw (k : RTk w w1 R name A n c st who code id A0 n0 c0) (x : ByteArray) : RTk w (w1.setCell ⟨R, 3, none⟩ (.string x)) R name A n c st x code id A0 n0 c0 :=
  ⟨k.v.setw x, (Below.heap_setCell _ _ _ _ (by have := k.lt; show w.heap.size ≠ R; omega)).trans k.p, (Below.heap_setCell _ _ _ _ (by have := k.lt; show w.heap.size + 1 ≠ R; omega)).trans k.r, k.b.set 3 _, k.lt⟩
end
set_option maxRecDepth 100000 in
set_option maxHeartbeats 8000000 in
theorem rtake12_any (R : Nat) (name : ByteArray) (A : Option Addr) (n c : Nat) (us : List SV) (st : Int) (who : ByteArray) (code id : Int) (A0 : Option Addr) (n0 c0 : Nat) (xs : List Int) (hn : xs.length = n0) (hn' : n0 ≤ 140737488355328) (hnc : n0 ≤ c0) (hb : Byt xs) (hl : us.length = n) (hl' : n ≤ 17592186044416) (w0 w : World) (he0 : Ext w0 w) (hR0 : w0.heap.size ≤ R) (hx : Cells w A0 (nums .u8 xs)) (hsx : SecsAt w0 A us) (hv : RSrvAt w R name A n c st who) :
    Calls Try.prog 53 #[.pointer (some ⟨R, 0, none⟩), .agg #[.int .i64 code, .int .i64 id, .slice A0 n0 c0]] w (RTakeTells R name A n c us st who code id xs w) := by
  have Hn := Lib.hid hn
  have HX := Lib.hid hx
  have HB := Lib.hid hb
  have HV := Lib.hid hv
  have HSX := Lib.hid hsx
  have HE0 := Lib.hid he0
  have HUL := Lib.hid hl
  have HLT : Hid (R < w.heap.size) := at_lt hv
  clear hn hx hb hv hsx hl he0
  go_enter Try.func53, Try.ntmps53
  go_upto_region 1 with fail
  obtain ⟨wb, hwb⟩ : ∃ wb, (w.alloc (.cells #[.int .i64 code, .int .i64 id, .slice A0 n0 c0] 43)).alloc zPk = wb := ⟨_, rfl⟩
  have HWB : Hid (Ext w wb) := by unfold Hid; rw [← hwb]; exact inferInstance
  have H3 : Hid (wb.heap[w.heap.size]? = some (.cells #[.int .i64 code, .int .i64 id, .slice A0 n0 c0] 43 (0, 0))) := by unfold Hid; rw [← hwb]; exact at_ext (at_new w _)
  have H4 : Hid (wb.heap[w.heap.size + 1]? = some zPk) := by unfold Hid; rw [← hwb]; exact at_new1 (by simp)
  have SB : Step wb w := ⟨HWB.out.out⟩
  rw [hwb]
  clear hwb
  have p0 : wb.cell? ⟨w.heap.size, 0, none⟩ = some (.int .i64 code) := at_cell H3.out 0
  have p1 : wb.cell? ⟨w.heap.size, 1, none⟩ = some (.int .i64 id) := at_cell H3.out 1
  have p2 : wb.cell? ⟨w.heap.size, 2, none⟩ = some (.slice A0 n0 c0) := at_cell H3.out 2
  go_wp2_with fail
  refine (rreadReq_any code id A0 n0 c0 xs Hn.out hn' hnc HB.out _ HX.out.ext).mono ?_
  rintro e wn ⟨he, hb2⟩
  have S2 : Step wn wb := ⟨hb2⟩
  obtain ⟨⟨⟨p, q⟩, r⟩, hr⟩ : ∃ r, rrF code id xs = r := ⟨_, rfl⟩
  unfold RRTells at he
  rw [hr] at he
  subst he
  have HR := Lib.hid hr
  clear hr hb2
  obtain ⟨nb, hnb⟩ : ∃ nb, strOfNums p = nb := ⟨_, rfl⟩
  obtain ⟨wd, hwd⟩ : ∃ wd, strOfNums q = wd := ⟨_, rfl⟩
  simp only [hnb, hwd]
  have HNB := Lib.hid hnb
  have HNS : Hid (nb.size ≤ 140737488355328) := by
    unfold Hid
    rw [← hnb, ← strB_len, strB_str _ (rrF_all HB.out HR.out).1.1]
    have h1 := (rrF_all HB.out HR.out).1.2
    have h2 := Hn.out
    omega
  have HWD := Lib.hid hwd
  clear hnb hwd p0 p1 p2
  have HWN : Hid (Ext w wn) := (inferInstance : Ext w wn)
  have HTK : Hid (RTk w wn R name A n c st who code id A0 n0 c0) := ⟨HV.out.ext, at_ext H3.out, at_ext H4.out, But.of, HLT.out⟩
  by_cases hr0 : r = 0
  · subst hr0
    obtain ⟨⟨s1, s2⟩, hs⟩ : ∃ s, stepS name us st who nb wd = s := ⟨_, rfl⟩
    have HS := Lib.hid hs
    clear hs
    have k2 := HTK.out.v.p2
    go_upto_if 27 with fail
    go_cut [] (fun wx => Hid (RTk w wx R name A n c s1 s2 code id A0 n0 c0))
    case first =>
      by_cases hst : st = 0
      case neg =>
        have hstb : (st == 0) = false := by simpa using hst
        have HE : Hid ((st, who) = (s1, s2)) := (if_neg hst).symm.trans HS.out
        go_wp2_with fail
        go_meet
        case rel =>
          have h := HE.out
          injection h with h1 h2
          subst h1 h2
          exact HTK.out
      case pos =>
        subst hst
        have f2 := HTK.out.v.f 2
        go_upto_region 6 with fail
        obtain ⟨wq, hwq⟩ : ∃ wq, wn.setCell ⟨R, 2, none⟩ (.int .i64 2) = wq := ⟨_, rfl⟩
        have HTQ : Hid (RTk w wq R name A n c 2 who code id A0 n0 c0) := by unfold Hid; rw [← hwq]; exact HTK.out.set 2
        have HSQ : Hid (SecsAt wq A us) := by
          exact HSX.out.ext (h := HTQ.out.b.ext HE0.out hR0)
        rw [hwq]
        clear hwq k2 f2
        have q2 := HTQ.out.v.p0
        have q3 := HTQ.out.v.p1
        rcases hf : nameF (strB nb) with _ | _
        · have HE : Hid ((2, who) = (s1, s2)) := by
            have h := HS.out
            unfold stepS accF at h
            rw [if_pos rfl, hf] at h
            exact h
          have HF := Lib.hid hf
          clear hf
          refine wp_region_held_drew (S := fun W => Ext wq W) (by kernel_rfl) (by exact inferInstance) (fun hHeld => ?_)
          refine wpAnyH_take (i := 0) (v := ?_) rfl (by kernel_rfl) (by kernel_rfl) (by kernel_rfl) (fun _ _ _ h => h) (Yields.yieldsIf (Or.inl ⟨by rfl, ?_⟩)) hHeld ?_
          rotate_left
          · intro W
            go_simp
            try with_reducible rfl
          simp only [List.getElem_toArray, List.getElem_cons_succ, List.getElem_cons_zero, Act.put, List.setIfInBounds_toArray, List.set_cons_zero, List.set_cons_succ]
          refine wpAnyH_ready (rs := [1]) (by kernel_rfl) (by simp) ?_
          refine AllReadyH.cons rfl (fun K hK => ?_) AllReadyH.nil
          refine step_call_w (by rfl) Try.func99 (by kernel_rfl) (by kernel_rfl) #[.tmp 31] #[9] rfl #[.string nb] ?hv (rname_any nb HNS.out _) ?_
          case hv => go_simp
          rintro e w4 ⟨rfl, rfl⟩
          refine ⟨_, rfl, ?_⟩
          rw [HF.out]
          clear hHeld
          refine hK.out _ _ (by exact inferInstance) (fun hHeld => ?_)
          clear hK K
          simp only [List.getElem_toArray, List.getElem_cons_succ, List.getElem_cons_zero, Act.put, List.setIfInBounds_toArray, List.set_cons_zero, List.set_cons_succ]
          refine wpAnyH_take (i := 2) (v := ?_) rfl (by kernel_rfl) (by kernel_rfl) (by kernel_rfl) (fun _ _ _ h => h) (Yields.yieldsIf (Or.inl ⟨by rfl, ?_⟩)) hHeld ?_
          rotate_left
          · intro W
            go_simp
            try with_reducible rfl
          simp only [List.getElem_toArray, List.getElem_cons_succ, List.getElem_cons_zero, Act.put, List.setIfInBounds_toArray, List.set_cons_zero, List.set_cons_succ]
          refine wpAnyH_take (i := 3) (v := undef) rfl (by kernel_rfl) (by kernel_rfl) (by kernel_rfl) (fun _ _ _ h => h) (Yields.yieldsIf (Or.inr ⟨by rfl, rfl⟩)) hHeld ?_
          simp only [List.getElem_toArray, List.getElem_cons_succ, List.getElem_cons_zero, Act.put, List.setIfInBounds_toArray, List.set_cons_zero, List.set_cons_succ]
          refine wpAnyH_take (i := 4) (v := undef) rfl (by kernel_rfl) (by kernel_rfl) (by kernel_rfl) (fun _ _ _ h => h) (Yields.yieldsIf (Or.inr ⟨by rfl, rfl⟩)) hHeld ?_
          simp only [List.getElem_toArray, List.getElem_cons_succ, List.getElem_cons_zero, Act.put, List.setIfInBounds_toArray, List.set_cons_zero, List.set_cons_succ]
          refine wpAnyH_take (i := 5) (v := undef) rfl (by kernel_rfl) (by kernel_rfl) (by kernel_rfl) (fun _ _ _ h => h) (Yields.yieldsIf (Or.inr ⟨by rfl, rfl⟩)) hHeld ?_
          simp only [List.getElem_toArray, List.getElem_cons_succ, List.getElem_cons_zero, Act.put, List.setIfInBounds_toArray, List.set_cons_zero, List.set_cons_succ]
          refine wpAnyH_take (i := 6) (v := undef) rfl (by kernel_rfl) (by kernel_rfl) (by kernel_rfl) (fun _ _ _ h => h) (Yields.yieldsIf (Or.inr ⟨by rfl, rfl⟩)) hHeld ?_
          simp only [List.getElem_toArray, List.getElem_cons_succ, List.getElem_cons_zero, Act.put, List.setIfInBounds_toArray, List.set_cons_zero, List.set_cons_succ]
          refine wpAnyH_take (i := 7) (v := undef) rfl (by kernel_rfl) (by kernel_rfl) (by kernel_rfl) (fun _ _ _ h => h) (Yields.yieldsIf (Or.inr ⟨by rfl, rfl⟩)) hHeld ?_
          simp only [List.getElem_toArray, List.getElem_cons_succ, List.getElem_cons_zero, Act.put, List.setIfInBounds_toArray, List.set_cons_zero, List.set_cons_succ]
          refine wpAnyH_take (i := 8) (v := undef) rfl (by kernel_rfl) (by kernel_rfl) (by kernel_rfl) (fun _ _ _ h => h) (Yields.yieldsIf (Or.inr ⟨by rfl, rfl⟩)) hHeld ?_
          simp only [List.getElem_toArray, List.getElem_cons_succ, List.getElem_cons_zero, Act.put, List.setIfInBounds_toArray, List.set_cons_zero, List.set_cons_succ]
          refine wpAnyH_take (i := 9) (v := undef) rfl (by kernel_rfl) (by kernel_rfl) (by kernel_rfl) (fun _ _ _ h => h) (Yields.yieldsIf (Or.inr ⟨by rfl, rfl⟩)) hHeld ?_
          simp only [List.getElem_toArray, List.getElem_cons_succ, List.getElem_cons_zero, Act.put, List.setIfInBounds_toArray, List.set_cons_zero, List.set_cons_succ]
          refine wpAnyH_take (i := 10) (v := undef) rfl (by kernel_rfl) (by kernel_rfl) (by kernel_rfl) (fun _ _ _ h => h) (Yields.yieldsIf (Or.inr ⟨by rfl, rfl⟩)) hHeld ?_
          simp only [List.getElem_toArray, List.getElem_cons_succ, List.getElem_cons_zero, Act.put, List.setIfInBounds_toArray, List.set_cons_zero, List.set_cons_succ]
          refine wpAnyH_take (i := 11) (v := undef) rfl (by kernel_rfl) (by kernel_rfl) (by kernel_rfl) (fun _ _ _ h => h) (Yields.yieldsIf (Or.inr ⟨by rfl, rfl⟩)) hHeld ?_
          simp only [List.getElem_toArray, List.getElem_cons_succ, List.getElem_cons_zero, Act.put, List.setIfInBounds_toArray, List.set_cons_zero, List.set_cons_succ]
          refine wpAnyH_take (i := 12) (v := undef) rfl (by kernel_rfl) (by kernel_rfl) (by kernel_rfl) (fun _ _ _ h => h) (Yields.yieldsIf (Or.inr ⟨by rfl, rfl⟩)) hHeld ?_
          simp only [List.getElem_toArray, List.getElem_cons_succ, List.getElem_cons_zero, Act.put, List.setIfInBounds_toArray, List.set_cons_zero, List.set_cons_succ]
          refine wpAnyH_take (i := 13) (v := undef) rfl (by kernel_rfl) (by kernel_rfl) (by kernel_rfl) (fun _ _ _ h => h) (Yields.yieldsIf (Or.inr ⟨by rfl, rfl⟩)) hHeld ?_
          simp only [List.getElem_toArray, List.getElem_cons_succ, List.getElem_cons_zero, Act.put, List.setIfInBounds_toArray, List.set_cons_zero, List.set_cons_succ]
          refine wpAnyH_take (i := 14) (v := undef) rfl (by kernel_rfl) (by kernel_rfl) (by kernel_rfl) (fun _ _ _ h => h) (Yields.yieldsIf (Or.inr ⟨by rfl, rfl⟩)) hHeld ?_
          simp only [List.getElem_toArray, List.getElem_cons_succ, List.getElem_cons_zero, Act.put, List.setIfInBounds_toArray, List.set_cons_zero, List.set_cons_succ]
          refine wpAnyH_take (i := 15) (v := ?_) rfl (by kernel_rfl) (by kernel_rfl) (by kernel_rfl) (fun _ _ _ h => h) (Yields.yieldsIf (Or.inl ⟨by rfl, ?_⟩)) hHeld ?_
          rotate_left
          · intro W
            go_simp
            try with_reducible rfl
          simp only [List.getElem_toArray, List.getElem_cons_succ, List.getElem_cons_zero, Act.put, List.setIfInBounds_toArray, List.set_cons_zero, List.set_cons_succ]
          refine wpAnyH_done (by kernel_rfl) ?_ _
          clear hHeld
          go_wp2_with fail
          go_meet
          case rel =>
            have h := HE.out
            injection h with h1 h2
            subst h1 h2
            exact HTQ.out.ext inferInstance
        · have HF := Lib.hid hf
          refine wp_region_held_drew (S := fun W => Ext wq W) (by kernel_rfl) (by exact inferInstance) (fun hHeld => ?_)
          refine wpAnyH_take (i := 0) (v := ?_) rfl (by kernel_rfl) (by kernel_rfl) (by kernel_rfl) (fun _ _ _ h => h) (Yields.yieldsIf (Or.inl ⟨by rfl, ?_⟩)) hHeld ?_
          rotate_left
          · intro W
            go_simp
            try with_reducible rfl
          simp only [List.getElem_toArray, List.getElem_cons_succ, List.getElem_cons_zero, Act.put, List.setIfInBounds_toArray, List.set_cons_zero, List.set_cons_succ]
          refine wpAnyH_ready (rs := [1]) (by kernel_rfl) (by simp) ?_
          refine AllReadyH.cons rfl (fun K hK => ?_) AllReadyH.nil
          refine step_call_w (by rfl) Try.func99 (by kernel_rfl) (by kernel_rfl) #[.tmp 31] #[9] rfl #[.string nb] ?hv (rname_any nb HNS.out _) ?_
          case hv => go_simp
          rintro e w4 ⟨rfl, rfl⟩
          refine ⟨_, rfl, ?_⟩
          rw [HF.out]
          clear hHeld
          refine hK.out _ _ (by exact inferInstance) (fun hHeld => ?_)
          clear hK K
          simp only [List.getElem_toArray, List.getElem_cons_succ, List.getElem_cons_zero, Act.put, List.setIfInBounds_toArray, List.set_cons_zero, List.set_cons_succ]
          refine wpAnyH_take (i := 2) (v := ?_) rfl (by kernel_rfl) (by kernel_rfl) (by kernel_rfl) (fun _ _ _ h => h) (Yields.yieldsIf (Or.inl ⟨by rfl, ?_⟩)) hHeld ?_
          rotate_left
          · intro W
            go_simp
            try with_reducible rfl
          simp only [List.getElem_toArray, List.getElem_cons_succ, List.getElem_cons_zero, Act.put, List.setIfInBounds_toArray, List.set_cons_zero, List.set_cons_succ]
          refine wpAnyH_take (i := 3) (v := ?_) rfl (by kernel_rfl) (by kernel_rfl) (by kernel_rfl) (fun _ _ _ h => h) (Yields.yieldsIf (Or.inl ⟨by rfl, ?_⟩)) hHeld ?_
          rotate_left
          · intro W
            go_simp
            try with_reducible rfl
          simp only [List.getElem_toArray, List.getElem_cons_succ, List.getElem_cons_zero, Act.put, List.setIfInBounds_toArray, List.set_cons_zero, List.set_cons_succ]
          refine wpAnyH_take (i := 4) (v := ?_) rfl (by kernel_rfl) (by kernel_rfl) (by kernel_rfl) (fun _ _ _ h => h) (Yields.yieldsIf (Or.inl ⟨by rfl, ?_⟩)) hHeld ?_
          rotate_left
          · intro W
            go_simp
            try with_reducible rfl
          simp only [List.getElem_toArray, List.getElem_cons_succ, List.getElem_cons_zero, Act.put, List.setIfInBounds_toArray, List.set_cons_zero, List.set_cons_succ]
          refine wpAnyH_take (i := 5) (v := ?_) rfl (by kernel_rfl) (by kernel_rfl) (by kernel_rfl) (fun _ _ _ h => h) (Yields.yieldsIf (Or.inl ⟨by rfl, ?_⟩)) hHeld ?_
          rotate_left
          · intro W
            go_simp
            try with_reducible rfl
          simp only [List.getElem_toArray, List.getElem_cons_succ, List.getElem_cons_zero, Act.put, List.setIfInBounds_toArray, List.set_cons_zero, List.set_cons_succ]
          refine wpAnyH_take (i := 6) (v := ?_) rfl (by kernel_rfl) (by kernel_rfl) (by kernel_rfl) (fun _ _ _ h => h) (Or.inl ⟨by rfl, ?_⟩) hHeld ?_
          rotate_left
          · intro W hW
            have hcl := (cell_ext (h := hW) q3)
            go_simp
            try with_reducible rfl
          simp only [List.getElem_toArray, List.getElem_cons_succ, List.getElem_cons_zero, Act.put, List.setIfInBounds_toArray, List.set_cons_zero, List.set_cons_succ]
          refine wpAnyH_take (i := 7) (v := ?_) rfl (by kernel_rfl) (by kernel_rfl) (by kernel_rfl) (fun _ _ _ h => h) (Yields.yieldsIf (Or.inl ⟨by rfl, ?_⟩)) hHeld ?_
          rotate_left
          · intro W
            go_simp
            try with_reducible rfl
          simp only [List.getElem_toArray, List.getElem_cons_succ, List.getElem_cons_zero, Act.put, List.setIfInBounds_toArray, List.set_cons_zero, List.set_cons_succ]
          refine wpAnyH_take (i := 8) (v := ?_) rfl (by kernel_rfl) (by kernel_rfl) (by kernel_rfl) (fun _ _ _ h => h) (Yields.yieldsIf (Or.inl ⟨by rfl, ?_⟩)) hHeld ?_
          rotate_left
          · intro W
            go_simp
            try with_reducible rfl
          simp only [List.getElem_toArray, List.getElem_cons_succ, List.getElem_cons_zero, Act.put, List.setIfInBounds_toArray, List.set_cons_zero, List.set_cons_succ]
          refine wpAnyH_take (i := 9) (v := ?_) rfl (by kernel_rfl) (by kernel_rfl) (by kernel_rfl) (fun _ _ _ h => h) (Yields.yieldsIf (Or.inl ⟨by rfl, ?_⟩)) hHeld ?_
          rotate_left
          · intro W
            go_simp
            try with_reducible rfl
          simp only [List.getElem_toArray, List.getElem_cons_succ, List.getElem_cons_zero, Act.put, List.setIfInBounds_toArray, List.set_cons_zero, List.set_cons_succ]
          refine wpAnyH_take (i := 10) (v := ?_) rfl (by kernel_rfl) (by kernel_rfl) (by kernel_rfl) (fun _ _ _ h => h) (Yields.yieldsIf (Or.inl ⟨by rfl, ?_⟩)) hHeld ?_
          rotate_left
          · intro W
            go_simp
            try with_reducible rfl
          simp only [List.getElem_toArray, List.getElem_cons_succ, List.getElem_cons_zero, Act.put, List.setIfInBounds_toArray, List.set_cons_zero, List.set_cons_succ]
          refine wpAnyH_take (i := 11) (v := ?_) rfl (by kernel_rfl) (by kernel_rfl) (by kernel_rfl) (fun _ _ _ h => h) (Or.inl ⟨by rfl, ?_⟩) hHeld ?_
          rotate_left
          · intro W hW
            have hcl := (cell_ext (h := hW) q2)
            go_simp
            try with_reducible rfl
          simp only [List.getElem_toArray, List.getElem_cons_succ, List.getElem_cons_zero, Act.put, List.setIfInBounds_toArray, List.set_cons_zero, List.set_cons_succ]
          refine wpAnyH_take (i := 12) (v := ?_) rfl (by kernel_rfl) (by kernel_rfl) (by kernel_rfl) (fun _ _ _ h => h) (Yields.yieldsIf (Or.inl ⟨by rfl, ?_⟩)) hHeld ?_
          rotate_left
          · intro W
            go_simp
            try with_reducible rfl
          simp only [List.getElem_toArray, List.getElem_cons_succ, List.getElem_cons_zero, Act.put, List.setIfInBounds_toArray, List.set_cons_zero, List.set_cons_succ]
          obtain ⟨ck, hck⟩ : ∃ ck, checkF (strB nb) (strB name) (strB wd) us = ck := ⟨_, rfl⟩
          have HCK := Lib.hid hck
          clear hck
          refine wpAnyH_ready (rs := [13]) (by kernel_rfl) (by simp) ?_
          refine AllReadyH.cons rfl (fun K hK => ?_) AllReadyH.nil
          refine step_call_w (by rfl) Try.func67 (by kernel_rfl) (by kernel_rfl) #[.tmp 37, .tmp 38, .tmp 42, .tmp 43] #[75, 9, 9, 9] rfl #[.slice A n c, .string nb, .string name, .string wd] ?hv (rcheck_any A n c us nb name wd HUL.out hl' _ (by exact HSQ.out.ext)) ?_
          case hv => go_simp
          rintro e w5 ⟨rfl, hbb⟩
          refine ⟨_, rfl, ?_⟩
          rw [HCK.out]
          have S5 : Step w5 _ := ⟨hbb⟩
          clear hbb hHeld
          refine hK.out _ _ (by exact inferInstance) (fun hHeld => ?_)
          clear hK K
          simp only [List.getElem_toArray, List.getElem_cons_succ, List.getElem_cons_zero, Act.put, List.setIfInBounds_toArray, List.set_cons_zero, List.set_cons_succ]
          by_cases hc0 : ck = 0
          · have HE : Hid ((1, nb) = (s1, s2)) := by
              have h := HS.out
              unfold stepS accF at h
              rw [if_pos rfl, hf, HCK.out, hc0] at h
              exact h
            subst hc0
            clear hf
            refine wpAnyH_take (i := 14) (v := ?_) rfl (by kernel_rfl) (by kernel_rfl) (by kernel_rfl) (fun _ _ _ h => h) (Yields.yieldsIf (Or.inl ⟨by rfl, ?_⟩)) hHeld ?_
            rotate_left
            · intro W
              go_simp
              try with_reducible rfl
            simp only [List.getElem_toArray, List.getElem_cons_succ, List.getElem_cons_zero, Act.put, List.setIfInBounds_toArray, List.set_cons_zero, List.set_cons_succ]
            refine wpAnyH_take (i := 15) (v := ?_) rfl (by kernel_rfl) (by kernel_rfl) (by kernel_rfl) (fun _ _ _ h => h) (Yields.yieldsIf (Or.inl ⟨by rfl, ?_⟩)) hHeld ?_
            rotate_left
            · intro W
              go_simp
              try with_reducible rfl
            simp only [List.getElem_toArray, List.getElem_cons_succ, List.getElem_cons_zero, Act.put, List.setIfInBounds_toArray, List.set_cons_zero, List.set_cons_succ]
            refine wpAnyH_done (by kernel_rfl) ?_ _
            clear hHeld
            have HT5 := Lib.hid (HTQ.out.ext (w2 := w5) inferInstance)
            have f2 := HT5.out.v.p2
            have g2 := HT5.out.v.f 2
            have f3 := (HT5.out.set 1).v.p3
            have g3 := (HT5.out.set 1).v.f 3
            go_wp2_with fail
            go_meet
            case rel =>
              have h := HE.out
              injection h with h1 h2
              subst h1 h2
              exact RTk.ext inferInstance ((HT5.out.set 1).setw nb)
          · have HE : Hid ((2, who) = (s1, s2)) := by
              have h := HS.out
              unfold stepS accF at h
              rw [if_pos rfl, hf, HCK.out, decide_eq_false hc0] at h
              exact h
            have hc0b : (ck == 0) = false := by simpa using hc0
            clear hf
            refine wpAnyH_take (i := 14) (v := ?_) rfl (by kernel_rfl) (by kernel_rfl) (by kernel_rfl) (fun _ _ _ h => h) (Yields.yieldsIf (Or.inl ⟨by rfl, ?_⟩)) hHeld ?_
            rotate_left
            · intro W
              go_simp
              try with_reducible rfl
            simp only [List.getElem_toArray, List.getElem_cons_succ, List.getElem_cons_zero, Act.put, List.setIfInBounds_toArray, List.set_cons_zero, List.set_cons_succ]
            refine wpAnyH_take (i := 15) (v := ?_) rfl (by kernel_rfl) (by kernel_rfl) (by kernel_rfl) (fun _ _ _ h => h) (Yields.yieldsIf (Or.inl ⟨by rfl, ?_⟩)) hHeld ?_
            rotate_left
            · intro W
              go_simp
              try with_reducible rfl
            simp only [List.getElem_toArray, List.getElem_cons_succ, List.getElem_cons_zero, Act.put, List.setIfInBounds_toArray, List.set_cons_zero, List.set_cons_succ]
            refine wpAnyH_done (by kernel_rfl) ?_ _
            clear hHeld
            go_wp2_with fail
            go_meet
            case rel =>
              have h := HE.out
              injection h with h1 h2
              subst h1 h2
              exact HTQ.out.ext inferInstance
    case' rest =>
      have HT := Lib.hid hcut.out
      generalize wc = y at *
      clear hcut
      have Hy := Lib.hid HT.out.b.size
      have HLy : Hid (w.heap.size + 1 < y.heap.size) := at_lt HT.out.r
      clear k2
      have q1 : y.cell? ⟨w.heap.size, 1, none⟩ = some (.int .i64 id) := at_cell HT.out.p 1
      by_cases h1 : s1 = 1
      · subst h1
        have HSAY : Hid (ansF id ((1 : Int) == 1) (strB (sayB 1)) = ansF id true (strB bWelcome)) := rfl
        have q2 := HT.out.v.p2
        go_upto_region 12 with fail
        obtain ⟨⟨⟨ra, rb⟩, rd, re⟩, hrr⟩ : ∃ a, ansF id true (strB bWelcome) = a := ⟨_, rfl⟩
        have HRR := Lib.hid hrr
        clear hrr
        refine wp_region_held_drew (S := fun W => Ext y W) (by kernel_rfl) (by exact inferInstance) (fun hHeld => ?_)
        refine wpAnyH_take (i := 0) (v := ?_) rfl (by kernel_rfl) (by kernel_rfl) (by kernel_rfl) (fun _ _ _ h => h) (Yields.yieldsIf (Or.inl ⟨by rfl, ?_⟩)) hHeld ?_
        rotate_left
        · intro W
          go_simp
          try with_reducible rfl
        simp only [List.getElem_toArray, List.getElem_cons_succ, List.getElem_cons_zero, Act.put, List.setIfInBounds_toArray, List.set_cons_zero, List.set_cons_succ]
        refine wpAnyH_take (i := 1) (v := ?_) rfl (by kernel_rfl) (by kernel_rfl) (by kernel_rfl) (fun _ _ _ h => h) (Or.inl ⟨by rfl, ?_⟩) hHeld ?_
        rotate_left
        · intro W hW
          have hcl := (cell_ext (h := hW) q1)
          go_simp
          try with_reducible rfl
        simp only [List.getElem_toArray, List.getElem_cons_succ, List.getElem_cons_zero, Act.put, List.setIfInBounds_toArray, List.set_cons_zero, List.set_cons_succ]
        refine wpAnyH_take (i := 2) (v := ?_) rfl (by kernel_rfl) (by kernel_rfl) (by kernel_rfl) (fun _ _ _ h => h) (Yields.yieldsIf (Or.inl ⟨by rfl, ?_⟩)) hHeld ?_
        rotate_left
        · intro W
          go_simp
          try with_reducible rfl
        simp only [List.getElem_toArray, List.getElem_cons_succ, List.getElem_cons_zero, Act.put, List.setIfInBounds_toArray, List.set_cons_zero, List.set_cons_succ]
        refine wpAnyH_take (i := 3) (v := ?_) rfl (by kernel_rfl) (by kernel_rfl) (by kernel_rfl) (fun _ _ _ h => h) (Yields.yieldsIf (Or.inl ⟨by rfl, ?_⟩)) hHeld ?_
        rotate_left
        · intro W
          go_simp
          try with_reducible rfl
        simp only [List.getElem_toArray, List.getElem_cons_succ, List.getElem_cons_zero, Act.put, List.setIfInBounds_toArray, List.set_cons_zero, List.set_cons_succ]
        refine wpAnyH_take (i := 4) (v := ?_) rfl (by kernel_rfl) (by kernel_rfl) (by kernel_rfl) (fun _ _ _ h => h) (Yields.yieldsIf (Or.inl ⟨by rfl, ?_⟩)) hHeld ?_
        rotate_left
        · intro W
          go_simp
          try with_reducible rfl
        simp only [List.getElem_toArray, List.getElem_cons_succ, List.getElem_cons_zero, Act.put, List.setIfInBounds_toArray, List.set_cons_zero, List.set_cons_succ]
        refine wpAnyH_take (i := 5) (v := ?_) rfl (by kernel_rfl) (by kernel_rfl) (by kernel_rfl) (fun _ _ _ h => h) (Or.inl ⟨by rfl, ?_⟩) hHeld ?_
        rotate_left
        · intro W hW
          have hcl := (cell_ext (h := hW) q2)
          go_simp
          try with_reducible rfl
        simp only [List.getElem_toArray, List.getElem_cons_succ, List.getElem_cons_zero, Act.put, List.setIfInBounds_toArray, List.set_cons_zero, List.set_cons_succ]
        refine wpAnyH_take (i := 6) (v := ?_) rfl (by kernel_rfl) (by kernel_rfl) (by kernel_rfl) (fun _ _ _ h => h) (Yields.yieldsIf (Or.inl ⟨by rfl, ?_⟩)) hHeld ?_
        rotate_left
        · intro W
          go_simp
          try with_reducible rfl
        simp only [List.getElem_toArray, List.getElem_cons_succ, List.getElem_cons_zero, Act.put, List.setIfInBounds_toArray, List.set_cons_zero, List.set_cons_succ]
        refine wpAnyH_take (i := 7) (v := ?_) rfl (by kernel_rfl) (by kernel_rfl) (by kernel_rfl) (fun _ _ _ h => h) (Yields.yieldsIf (Or.inl ⟨by rfl, ?_⟩)) hHeld ?_
        rotate_left
        · intro W
          go_simp
          try with_reducible rfl
        simp only [List.getElem_toArray, List.getElem_cons_succ, List.getElem_cons_zero, Act.put, List.setIfInBounds_toArray, List.set_cons_zero, List.set_cons_succ]
        refine wpAnyH_ready (rs := [8, 12]) (by kernel_rfl) (by simp) ?_
        refine AllReadyH.cons rfl (fun K hK => ?_) (AllReadyH.cons rfl (fun K hK => ?_) AllReadyH.nil)
        · refine step_call_w (by rfl) Try.func61 (by kernel_rfl) (by kernel_rfl) #[.tmp 61, .tmp 66, .tmp 67] #[3, 4, 9] rfl #[.int .i64 id, .bool true, .string bWelcome] ?hv (ranswer_any id true bWelcome (by decide) _) ?_
          case hv => go_simp
          rintro e w3 ⟨A3, c3, rfl, ho3, hb3⟩
          refine ⟨_, rfl, ?_⟩
          rw [HRR.out] at ho3 ⊢
          simp only at ho3 ⊢
          have S3 : Step w3 y.drew := ⟨hb3⟩
          have X3 : Ext y w3 := inferInstance
          have HO3 := Lib.hid ho3
          clear hb3 ho3 hHeld
          refine hK.out _ _ (by exact inferInstance) (fun hHeld => ?_)
          clear hK K
          simp only [List.getElem_toArray, List.getElem_cons_succ, List.getElem_cons_zero, Act.put, List.setIfInBounds_toArray, List.set_cons_zero, List.set_cons_succ]
          refine wpAnyH_take (i := 9) (v := ?_) rfl (by kernel_rfl) (by kernel_rfl) (by kernel_rfl) (fun _ _ _ h => h) (Yields.yieldsIf (Or.inl ⟨by rfl, ?_⟩)) hHeld ?_
          rotate_left
          · intro W
            go_simp
            try with_reducible rfl
          simp only [List.getElem_toArray, List.getElem_cons_succ, List.getElem_cons_zero, Act.put, List.setIfInBounds_toArray, List.set_cons_zero, List.set_cons_succ]
          refine wpAnyH_take (i := 10) (v := ?_) rfl (by kernel_rfl) (by kernel_rfl) (by kernel_rfl) (fun _ _ _ h => h) (Yields.yieldsIf (Or.inl ⟨by rfl, ?_⟩)) hHeld ?_
          rotate_left
          · intro W
            go_simp
            try with_reducible rfl
          simp only [List.getElem_toArray, List.getElem_cons_succ, List.getElem_cons_zero, Act.put, List.setIfInBounds_toArray, List.set_cons_zero, List.set_cons_succ]
          refine wpAnyH_take (i := 11) (v := ?_) rfl (by kernel_rfl) (by kernel_rfl) (by kernel_rfl) (fun _ _ _ h => h) (Yields.yieldsIf (Or.inl ⟨by rfl, ?_⟩)) hHeld ?_
          rotate_left
          · intro W
            go_simp
            try with_reducible rfl
          simp only [List.getElem_toArray, List.getElem_cons_succ, List.getElem_cons_zero, Act.put, List.setIfInBounds_toArray, List.set_cons_zero, List.set_cons_succ]
          refine wpAnyH_ready (rs := [12]) (by kernel_rfl) (by simp) ?_
          refine AllReadyH.cons rfl (fun K hK => ?_) AllReadyH.nil
          rw [if_pos (by rfl)]
          unfold Oper.wp
          go_simp
          clear hHeld
          refine hK.out _ _ (by exact inferInstance) (fun hHeld => ?_)
          clear hK K
          try simp only [List.getElem_toArray, List.getElem_cons_succ, List.getElem_cons_zero, Act.put, List.setIfInBounds_toArray, List.set_cons_zero, List.set_cons_succ]
          refine wpAnyH_ready (rs := [13]) (by kernel_rfl) (by simp) ?_
          refine AllReadyH.cons rfl (fun K hK => ?_) AllReadyH.nil
          refine step_store_row (by rfl) 43 (.tmp 11) (.tmp 69) rfl w3.heap.size #[.int .i64 ra, .int .i64 rb, .slice A3 rd.length c3] rfl rfl 43 #[.int .i64 0, .int .i64 0, .slice none 0 0] (at_new w3 zPk) (by kernel_rfl) rfl (by simp [Value.oneCell']) ?_
          clear hHeld
          refine hK.out _ _ (Ext.setRow_ (inferInstance : Ext y (w3.alloc zPk)) X3.out.size _) (fun hHeld => ?_)
          clear hK K
          simp only [List.getElem_toArray, List.getElem_cons_succ, List.getElem_cons_zero, Act.put, List.setIfInBounds_toArray, List.set_cons_zero, List.set_cons_succ]
          refine wpAnyH_take (i := 14) (v := ?_) rfl (by kernel_rfl) (by kernel_rfl) (by kernel_rfl) (fun _ _ _ h => h) (Yields.yieldsIf (Or.inl ⟨by rfl, ?_⟩)) hHeld ?_
          rotate_left
          · intro W
            go_simp
            try with_reducible rfl
          simp only [List.getElem_toArray, List.getElem_cons_succ, List.getElem_cons_zero, Act.put, List.setIfInBounds_toArray, List.set_cons_zero, List.set_cons_succ]
          refine wpAnyH_done (by kernel_rfl) ?_ _
          clear hHeld
          obtain ⟨wf, hwf⟩ : ∃ wf, (w3.alloc zPk).setRow w3.heap.size #[.int .i64 ra, .int .i64 rb, .slice A3 rd.length c3] = wf := ⟨_, rfl⟩
          obtain ⟨bf, hbf⟩ : ∃ bf, w3.heap.size = bf := ⟨_, rfl⟩
          have hal : wf = w3.alloc (.cells #[.int .i64 ra, .int .i64 rb, .slice A3 rd.length c3] 43) := hwf.symm.trans (World.setRow_alloc_new w3 _ _ _)
          have Xf : Ext y wf := by rw [hal]; exact inferInstance
          have X3f : Ext w3 wf := by rw [hal]; exact inferInstance
          have hbb : wf.heap[bf]? = some (.cells #[.int .i64 ra, .int .i64 rb, .slice A3 rd.length c3] 43 (0, 0)) := by rw [hal, ← hbf]; exact at_new w3 _
          rw [hwf, hbf]
          clear hal hwf hbf
          have HBf : Hid (wf.heap[bf]? = some (.cells #[.int .i64 ra, .int .i64 rb, .slice A3 rd.length c3] 43 (0, 0))) := hbb
          have HOf : Hid (wf.ownsRow w.heap.size 5 1 (.slice A3 rd.length c3) rd.length (nums .u8 rd)) := (own_weaken (own_ext HO3.out) (Nat.le_trans Hy.out (by simp)))
          have HEf : Hid (Ext y wf) := Xf
          have HNf : Hid ((Value.slice A3 rd.length c3).ownBlock ≠ some (w.heap.size + 1)) := (fun e => by have h1 := own_base HO3.out _ e; have h2 := HLy.out; simp at h1; omega)
          have HTf := Lib.hid (HT.out.ext HEf.out)
          have HZf : Hid (wf.heap[w.heap.size + 1]? = some zPk) := HTf.out.r
          go_wp2_with
            (first
             | (refine wpList_load_row rfl 43 (.tmp 11) rfl bf rfl 43 #[.int .i64 ra, .int .i64 rb, .slice A3 rd.length c3] (0, 0) _ HBf.out Try.underlying43 rfl (by kernel_rfl) ?_)
             | (refine wpList_store_row rfl 43 (.tmp 4) (.tmp 71) rfl (w.heap.size + 1) #[.int .i64 ra, .int .i64 rb, .slice A3 rd.length c3] rfl rfl 43 #[.int .i64 0, .int .i64 0, .slice none 0 0] HZf.out (by kernel_rfl) rfl (by simp [Value.oneCell']) ?_))
          refine bodyPost_ret (results_cell_row3 Try.results53 _ _ (w.heap.size + 1) 43 #[.int .i64 ra, .int .i64 rb, .slice A3 rd.length c3] (0, 0) _ (.bool true) (.int .i64 0) rfl rfl rfl (setRow_heap _ _ _ _ _ _ HZf.out) Try.underlying43 rfl (by kernel_rfl)) rfl ?_
          refine ⟨HTf.out.b.setRow (by omega) _, ?_⟩
          rw [HR.out, if_neg (by simp)]
          refine ⟨(1, s2), ((ra, rb), rd, re), A3, c3, ?_, ?_, RSrvAt.setRow (g := w.heap.size + 1) HTf.out.v (by have := HLT.out; omega) _, rfl, own_setRow HOf.out HNf.out _⟩
          · simp only [HNB.out, HWD.out]
            exact HS.out
          · exact HSAY.out.trans HRR.out
        · rw [if_pos (by rfl)]
          unfold Oper.wp
          go_simp
          refine hK.out _ _ (by exact inferInstance) (fun hHeld => ?_)
          clear hK K
          try simp only [List.getElem_toArray, List.getElem_cons_succ, List.getElem_cons_zero, Act.put, List.setIfInBounds_toArray, List.set_cons_zero, List.set_cons_succ]
          refine wpAnyH_ready (rs := [8]) (by kernel_rfl) (by simp) ?_
          refine AllReadyH.cons rfl (fun K hK => ?_) AllReadyH.nil
          refine step_call_w (by rfl) Try.func61 (by kernel_rfl) (by kernel_rfl) #[.tmp 61, .tmp 66, .tmp 67] #[3, 4, 9] rfl #[.int .i64 id, .bool true, .string bWelcome] ?hv (ranswer_any id true bWelcome (by decide) _) ?_
          case hv => go_simp
          rintro e w3 ⟨A3, c3, rfl, ho3, hb3⟩
          refine ⟨_, rfl, ?_⟩
          rw [HRR.out] at ho3 ⊢
          simp only at ho3 ⊢
          have S3 : Step w3 (y.drew.alloc zPk) := ⟨hb3⟩
          have X3 : Ext y w3 := Ext.trans_ (inferInstance : Ext y (y.drew.alloc zPk)) (inferInstance : Ext (y.drew.alloc zPk) w3)
          have HO3 := Lib.hid ho3
          have HZ3 : Hid (w3.heap[y.heap.size]? = some zPk) := at_ext (w := y.drew.alloc zPk) (at_new y.drew zPk)
          clear hb3 ho3 hHeld
          refine hK.out _ _ (by exact inferInstance) (fun hHeld => ?_)
          clear hK K
          simp only [List.getElem_toArray, List.getElem_cons_succ, List.getElem_cons_zero, Act.put, List.setIfInBounds_toArray, List.set_cons_zero, List.set_cons_succ]
          refine wpAnyH_take (i := 9) (v := ?_) rfl (by kernel_rfl) (by kernel_rfl) (by kernel_rfl) (fun _ _ _ h => h) (Yields.yieldsIf (Or.inl ⟨by rfl, ?_⟩)) hHeld ?_
          rotate_left
          · intro W
            go_simp
            try with_reducible rfl
          simp only [List.getElem_toArray, List.getElem_cons_succ, List.getElem_cons_zero, Act.put, List.setIfInBounds_toArray, List.set_cons_zero, List.set_cons_succ]
          refine wpAnyH_take (i := 10) (v := ?_) rfl (by kernel_rfl) (by kernel_rfl) (by kernel_rfl) (fun _ _ _ h => h) (Yields.yieldsIf (Or.inl ⟨by rfl, ?_⟩)) hHeld ?_
          rotate_left
          · intro W
            go_simp
            try with_reducible rfl
          simp only [List.getElem_toArray, List.getElem_cons_succ, List.getElem_cons_zero, Act.put, List.setIfInBounds_toArray, List.set_cons_zero, List.set_cons_succ]
          refine wpAnyH_take (i := 11) (v := ?_) rfl (by kernel_rfl) (by kernel_rfl) (by kernel_rfl) (fun _ _ _ h => h) (Yields.yieldsIf (Or.inl ⟨by rfl, ?_⟩)) hHeld ?_
          rotate_left
          · intro W
            go_simp
            try with_reducible rfl
          simp only [List.getElem_toArray, List.getElem_cons_succ, List.getElem_cons_zero, Act.put, List.setIfInBounds_toArray, List.set_cons_zero, List.set_cons_succ]
          refine wpAnyH_ready (rs := [13]) (by kernel_rfl) (by simp) ?_
          refine AllReadyH.cons rfl (fun K hK => ?_) AllReadyH.nil
          refine step_store_row (by rfl) 43 (.tmp 11) (.tmp 69) rfl y.heap.size #[.int .i64 ra, .int .i64 rb, .slice A3 rd.length c3] rfl rfl 43 #[.int .i64 0, .int .i64 0, .slice none 0 0] HZ3.out (by kernel_rfl) rfl (by simp [Value.oneCell']) ?_
          clear hHeld
          refine hK.out _ _ (Ext.setRow_ X3 (Nat.le_refl _) _) (fun hHeld => ?_)
          clear hK K
          simp only [List.getElem_toArray, List.getElem_cons_succ, List.getElem_cons_zero, Act.put, List.setIfInBounds_toArray, List.set_cons_zero, List.set_cons_succ]
          refine wpAnyH_take (i := 14) (v := ?_) rfl (by kernel_rfl) (by kernel_rfl) (by kernel_rfl) (fun _ _ _ h => h) (Yields.yieldsIf (Or.inl ⟨by rfl, ?_⟩)) hHeld ?_
          rotate_left
          · intro W
            go_simp
            try with_reducible rfl
          simp only [List.getElem_toArray, List.getElem_cons_succ, List.getElem_cons_zero, Act.put, List.setIfInBounds_toArray, List.set_cons_zero, List.set_cons_succ]
          refine wpAnyH_done (by kernel_rfl) ?_ _
          clear hHeld
          have hne3 : (Value.slice A3 rd.length c3).ownBlock ≠ some y.heap.size := fun e => by
            have h1 := own_base HO3.out _ e
            simp at h1
            omega
          have hof : (w3.setRow y.heap.size #[.int .i64 ra, .int .i64 rb, .slice A3 rd.length c3]).ownsRow w.heap.size 5 1 (.slice A3 rd.length c3) rd.length (nums .u8 rd) := own_weaken (own_setRow HO3.out hne3 _) (Nat.le_trans Hy.out (by simp))
          obtain ⟨wf, hwf⟩ : ∃ wf, w3.setRow y.heap.size #[.int .i64 ra, .int .i64 rb, .slice A3 rd.length c3] = wf := ⟨_, rfl⟩
          obtain ⟨bf, hbf⟩ : ∃ bf, y.heap.size = bf := ⟨_, rfl⟩
          have Xf : Ext y wf := by rw [← hwf]; exact Ext.setRow_ X3 (Nat.le_refl _) _
          have hbb : wf.heap[bf]? = some (.cells #[.int .i64 ra, .int .i64 rb, .slice A3 rd.length c3] 43 (0, 0)) := by rw [← hwf, ← hbf]; exact setRow_heap _ _ _ _ _ _ HZ3.out
          have hn2 : (Value.slice A3 rd.length c3).ownBlock ≠ some (w.heap.size + 1) := fun e => by
            have h1 := own_base HO3.out _ e
            have h2 := HLy.out
            simp at h1
            omega
          rw [hwf] at hof ⊢
          rw [hbf]
          clear hwf hbf
          have HBf : Hid (wf.heap[bf]? = some (.cells #[.int .i64 ra, .int .i64 rb, .slice A3 rd.length c3] 43 (0, 0))) := hbb
          have HOf : Hid (wf.ownsRow w.heap.size 5 1 (.slice A3 rd.length c3) rd.length (nums .u8 rd)) := hof
          have HEf : Hid (Ext y wf) := Xf
          have HNf : Hid ((Value.slice A3 rd.length c3).ownBlock ≠ some (w.heap.size + 1)) := hn2
          have HTf := Lib.hid (HT.out.ext HEf.out)
          have HZf : Hid (wf.heap[w.heap.size + 1]? = some zPk) := HTf.out.r
          go_wp2_with
            (first
             | (refine wpList_load_row rfl 43 (.tmp 11) rfl bf rfl 43 #[.int .i64 ra, .int .i64 rb, .slice A3 rd.length c3] (0, 0) _ HBf.out Try.underlying43 rfl (by kernel_rfl) ?_)
             | (refine wpList_store_row rfl 43 (.tmp 4) (.tmp 71) rfl (w.heap.size + 1) #[.int .i64 ra, .int .i64 rb, .slice A3 rd.length c3] rfl rfl 43 #[.int .i64 0, .int .i64 0, .slice none 0 0] HZf.out (by kernel_rfl) rfl (by simp [Value.oneCell']) ?_))
          refine bodyPost_ret (results_cell_row3 Try.results53 _ _ (w.heap.size + 1) 43 #[.int .i64 ra, .int .i64 rb, .slice A3 rd.length c3] (0, 0) _ (.bool true) (.int .i64 0) rfl rfl rfl (setRow_heap _ _ _ _ _ _ HZf.out) Try.underlying43 rfl (by kernel_rfl)) rfl ?_
          refine ⟨HTf.out.b.setRow (by omega) _, ?_⟩
          rw [HR.out, if_neg (by simp)]
          refine ⟨(1, s2), ((ra, rb), rd, re), A3, c3, ?_, ?_, RSrvAt.setRow (g := w.heap.size + 1) HTf.out.v (by have := HLT.out; omega) _, rfl, own_setRow HOf.out HNf.out _⟩
          · simp only [HNB.out, HWD.out]
            exact HS.out
          · exact HSAY.out.trans HRR.out
      · have hs1 : (s1 == 1) = false := by simpa using h1
        have HSAY : Hid (ansF id (s1 == 1) (strB (sayB s1)) = ansF id false (strB bRefused)) := by unfold Hid sayB; rw [hs1, if_neg h1]
        have q2 := HT.out.v.p2
        go_upto_region 12 with fail
        obtain ⟨⟨⟨ra, rb⟩, rd, re⟩, hrr⟩ : ∃ a, ansF id false (strB bRefused) = a := ⟨_, rfl⟩
        have HRR := Lib.hid hrr
        clear hrr
        refine wp_region_held_drew (S := fun W => Ext y W) (by kernel_rfl) (by exact inferInstance) (fun hHeld => ?_)
        refine wpAnyH_take (i := 0) (v := ?_) rfl (by kernel_rfl) (by kernel_rfl) (by kernel_rfl) (fun _ _ _ h => h) (Yields.yieldsIf (Or.inl ⟨by rfl, ?_⟩)) hHeld ?_
        rotate_left
        · intro W
          go_simp
          try with_reducible rfl
        simp only [List.getElem_toArray, List.getElem_cons_succ, List.getElem_cons_zero, Act.put, List.setIfInBounds_toArray, List.set_cons_zero, List.set_cons_succ]
        refine wpAnyH_take (i := 1) (v := ?_) rfl (by kernel_rfl) (by kernel_rfl) (by kernel_rfl) (fun _ _ _ h => h) (Or.inl ⟨by rfl, ?_⟩) hHeld ?_
        rotate_left
        · intro W hW
          have hcl := (cell_ext (h := hW) q1)
          go_simp
          try with_reducible rfl
        simp only [List.getElem_toArray, List.getElem_cons_succ, List.getElem_cons_zero, Act.put, List.setIfInBounds_toArray, List.set_cons_zero, List.set_cons_succ]
        refine wpAnyH_take (i := 2) (v := ?_) rfl (by kernel_rfl) (by kernel_rfl) (by kernel_rfl) (fun _ _ _ h => h) (Yields.yieldsIf (Or.inl ⟨by rfl, ?_⟩)) hHeld ?_
        rotate_left
        · intro W
          go_simp
          try with_reducible rfl
        simp only [List.getElem_toArray, List.getElem_cons_succ, List.getElem_cons_zero, Act.put, List.setIfInBounds_toArray, List.set_cons_zero, List.set_cons_succ]
        refine wpAnyH_take (i := 3) (v := ?_) rfl (by kernel_rfl) (by kernel_rfl) (by kernel_rfl) (fun _ _ _ h => h) (Yields.yieldsIf (Or.inl ⟨by rfl, ?_⟩)) hHeld ?_
        rotate_left
        · intro W
          go_simp
          try with_reducible rfl
        simp only [List.getElem_toArray, List.getElem_cons_succ, List.getElem_cons_zero, Act.put, List.setIfInBounds_toArray, List.set_cons_zero, List.set_cons_succ]
        refine wpAnyH_take (i := 4) (v := ?_) rfl (by kernel_rfl) (by kernel_rfl) (by kernel_rfl) (fun _ _ _ h => h) (Yields.yieldsIf (Or.inl ⟨by rfl, ?_⟩)) hHeld ?_
        rotate_left
        · intro W
          go_simp
          try with_reducible rfl
        simp only [List.getElem_toArray, List.getElem_cons_succ, List.getElem_cons_zero, Act.put, List.setIfInBounds_toArray, List.set_cons_zero, List.set_cons_succ]
        refine wpAnyH_take (i := 5) (v := ?_) rfl (by kernel_rfl) (by kernel_rfl) (by kernel_rfl) (fun _ _ _ h => h) (Or.inl ⟨by rfl, ?_⟩) hHeld ?_
        rotate_left
        · intro W hW
          have hcl := (cell_ext (h := hW) q2)
          go_simp
          try with_reducible rfl
        simp only [List.getElem_toArray, List.getElem_cons_succ, List.getElem_cons_zero, Act.put, List.setIfInBounds_toArray, List.set_cons_zero, List.set_cons_succ]
        refine wpAnyH_take (i := 6) (v := ?_) rfl (by kernel_rfl) (by kernel_rfl) (by kernel_rfl) (fun _ _ _ h => h) (Yields.yieldsIf (Or.inl ⟨by rfl, ?_⟩)) hHeld ?_
        rotate_left
        · intro W
          go_simp
          try with_reducible rfl
        simp only [List.getElem_toArray, List.getElem_cons_succ, List.getElem_cons_zero, Act.put, List.setIfInBounds_toArray, List.set_cons_zero, List.set_cons_succ]
        refine wpAnyH_take (i := 7) (v := ?_) rfl (by kernel_rfl) (by kernel_rfl) (by kernel_rfl) (fun _ _ _ h => h) (Yields.yieldsIf (Or.inl ⟨by rfl, ?_⟩)) hHeld ?_
        rotate_left
        · intro W
          go_simp
          try with_reducible rfl
        simp only [List.getElem_toArray, List.getElem_cons_succ, List.getElem_cons_zero, Act.put, List.setIfInBounds_toArray, List.set_cons_zero, List.set_cons_succ]
        refine wpAnyH_ready (rs := [8, 12]) (by kernel_rfl) (by simp) ?_
        refine AllReadyH.cons rfl (fun K hK => ?_) (AllReadyH.cons rfl (fun K hK => ?_) AllReadyH.nil)
        · refine step_call_w (by rfl) Try.func61 (by kernel_rfl) (by kernel_rfl) #[.tmp 61, .tmp 66, .tmp 67] #[3, 4, 9] rfl #[.int .i64 id, .bool false, .string bRefused] ?hv (ranswer_any id false bRefused (by decide) _) ?_
          case hv => go_simp
          rintro e w3 ⟨A3, c3, rfl, ho3, hb3⟩
          refine ⟨_, rfl, ?_⟩
          rw [HRR.out] at ho3 ⊢
          simp only at ho3 ⊢
          have S3 : Step w3 y.drew := ⟨hb3⟩
          have X3 : Ext y w3 := inferInstance
          have HO3 := Lib.hid ho3
          clear hb3 ho3 hHeld
          refine hK.out _ _ (by exact inferInstance) (fun hHeld => ?_)
          clear hK K
          simp only [List.getElem_toArray, List.getElem_cons_succ, List.getElem_cons_zero, Act.put, List.setIfInBounds_toArray, List.set_cons_zero, List.set_cons_succ]
          refine wpAnyH_take (i := 9) (v := ?_) rfl (by kernel_rfl) (by kernel_rfl) (by kernel_rfl) (fun _ _ _ h => h) (Yields.yieldsIf (Or.inl ⟨by rfl, ?_⟩)) hHeld ?_
          rotate_left
          · intro W
            go_simp
            try with_reducible rfl
          simp only [List.getElem_toArray, List.getElem_cons_succ, List.getElem_cons_zero, Act.put, List.setIfInBounds_toArray, List.set_cons_zero, List.set_cons_succ]
          refine wpAnyH_take (i := 10) (v := ?_) rfl (by kernel_rfl) (by kernel_rfl) (by kernel_rfl) (fun _ _ _ h => h) (Yields.yieldsIf (Or.inl ⟨by rfl, ?_⟩)) hHeld ?_
          rotate_left
          · intro W
            go_simp
            try with_reducible rfl
          simp only [List.getElem_toArray, List.getElem_cons_succ, List.getElem_cons_zero, Act.put, List.setIfInBounds_toArray, List.set_cons_zero, List.set_cons_succ]
          refine wpAnyH_take (i := 11) (v := ?_) rfl (by kernel_rfl) (by kernel_rfl) (by kernel_rfl) (fun _ _ _ h => h) (Yields.yieldsIf (Or.inl ⟨by rfl, ?_⟩)) hHeld ?_
          rotate_left
          · intro W
            go_simp
            try with_reducible rfl
          simp only [List.getElem_toArray, List.getElem_cons_succ, List.getElem_cons_zero, Act.put, List.setIfInBounds_toArray, List.set_cons_zero, List.set_cons_succ]
          refine wpAnyH_ready (rs := [12]) (by kernel_rfl) (by simp) ?_
          refine AllReadyH.cons rfl (fun K hK => ?_) AllReadyH.nil
          rw [if_pos (by rfl)]
          unfold Oper.wp
          go_simp
          clear hHeld
          refine hK.out _ _ (by exact inferInstance) (fun hHeld => ?_)
          clear hK K
          try simp only [List.getElem_toArray, List.getElem_cons_succ, List.getElem_cons_zero, Act.put, List.setIfInBounds_toArray, List.set_cons_zero, List.set_cons_succ]
          refine wpAnyH_ready (rs := [13]) (by kernel_rfl) (by simp) ?_
          refine AllReadyH.cons rfl (fun K hK => ?_) AllReadyH.nil
          refine step_store_row (by rfl) 43 (.tmp 11) (.tmp 69) rfl w3.heap.size #[.int .i64 ra, .int .i64 rb, .slice A3 rd.length c3] rfl rfl 43 #[.int .i64 0, .int .i64 0, .slice none 0 0] (at_new w3 zPk) (by kernel_rfl) rfl (by simp [Value.oneCell']) ?_
          clear hHeld
          refine hK.out _ _ (Ext.setRow_ (inferInstance : Ext y (w3.alloc zPk)) X3.out.size _) (fun hHeld => ?_)
          clear hK K
          simp only [List.getElem_toArray, List.getElem_cons_succ, List.getElem_cons_zero, Act.put, List.setIfInBounds_toArray, List.set_cons_zero, List.set_cons_succ]
          refine wpAnyH_take (i := 14) (v := ?_) rfl (by kernel_rfl) (by kernel_rfl) (by kernel_rfl) (fun _ _ _ h => h) (Yields.yieldsIf (Or.inl ⟨by rfl, ?_⟩)) hHeld ?_
          rotate_left
          · intro W
            go_simp
            try with_reducible rfl
          simp only [List.getElem_toArray, List.getElem_cons_succ, List.getElem_cons_zero, Act.put, List.setIfInBounds_toArray, List.set_cons_zero, List.set_cons_succ]
          refine wpAnyH_done (by kernel_rfl) ?_ _
          clear hHeld
          obtain ⟨wf, hwf⟩ : ∃ wf, (w3.alloc zPk).setRow w3.heap.size #[.int .i64 ra, .int .i64 rb, .slice A3 rd.length c3] = wf := ⟨_, rfl⟩
          obtain ⟨bf, hbf⟩ : ∃ bf, w3.heap.size = bf := ⟨_, rfl⟩
          have hal : wf = w3.alloc (.cells #[.int .i64 ra, .int .i64 rb, .slice A3 rd.length c3] 43) := hwf.symm.trans (World.setRow_alloc_new w3 _ _ _)
          have Xf : Ext y wf := by rw [hal]; exact inferInstance
          have X3f : Ext w3 wf := by rw [hal]; exact inferInstance
          have hbb : wf.heap[bf]? = some (.cells #[.int .i64 ra, .int .i64 rb, .slice A3 rd.length c3] 43 (0, 0)) := by rw [hal, ← hbf]; exact at_new w3 _
          rw [hwf, hbf]
          clear hal hwf hbf
          have HBf : Hid (wf.heap[bf]? = some (.cells #[.int .i64 ra, .int .i64 rb, .slice A3 rd.length c3] 43 (0, 0))) := hbb
          have HOf : Hid (wf.ownsRow w.heap.size 5 1 (.slice A3 rd.length c3) rd.length (nums .u8 rd)) := (own_weaken (own_ext HO3.out) (Nat.le_trans Hy.out (by simp)))
          have HEf : Hid (Ext y wf) := Xf
          have HNf : Hid ((Value.slice A3 rd.length c3).ownBlock ≠ some (w.heap.size + 1)) := (fun e => by have h1 := own_base HO3.out _ e; have h2 := HLy.out; simp at h1; omega)
          have HTf := Lib.hid (HT.out.ext HEf.out)
          have HZf : Hid (wf.heap[w.heap.size + 1]? = some zPk) := HTf.out.r
          go_wp2_with
            (first
             | (refine wpList_load_row rfl 43 (.tmp 11) rfl bf rfl 43 #[.int .i64 ra, .int .i64 rb, .slice A3 rd.length c3] (0, 0) _ HBf.out Try.underlying43 rfl (by kernel_rfl) ?_)
             | (refine wpList_store_row rfl 43 (.tmp 4) (.tmp 71) rfl (w.heap.size + 1) #[.int .i64 ra, .int .i64 rb, .slice A3 rd.length c3] rfl rfl 43 #[.int .i64 0, .int .i64 0, .slice none 0 0] HZf.out (by kernel_rfl) rfl (by simp [Value.oneCell']) ?_))
          refine bodyPost_ret (results_cell_row3 Try.results53 _ _ (w.heap.size + 1) 43 #[.int .i64 ra, .int .i64 rb, .slice A3 rd.length c3] (0, 0) _ (.bool true) (.int .i64 0) rfl rfl rfl (setRow_heap _ _ _ _ _ _ HZf.out) Try.underlying43 rfl (by kernel_rfl)) rfl ?_
          refine ⟨HTf.out.b.setRow (by omega) _, ?_⟩
          rw [HR.out, if_neg (by simp)]
          refine ⟨(s1, s2), ((ra, rb), rd, re), A3, c3, ?_, ?_, RSrvAt.setRow (g := w.heap.size + 1) HTf.out.v (by have := HLT.out; omega) _, rfl, own_setRow HOf.out HNf.out _⟩
          · simp only [HNB.out, HWD.out]
            exact HS.out
          · exact HSAY.out.trans HRR.out
        · rw [if_pos (by rfl)]
          unfold Oper.wp
          go_simp
          refine hK.out _ _ (by exact inferInstance) (fun hHeld => ?_)
          clear hK K
          try simp only [List.getElem_toArray, List.getElem_cons_succ, List.getElem_cons_zero, Act.put, List.setIfInBounds_toArray, List.set_cons_zero, List.set_cons_succ]
          refine wpAnyH_ready (rs := [8]) (by kernel_rfl) (by simp) ?_
          refine AllReadyH.cons rfl (fun K hK => ?_) AllReadyH.nil
          refine step_call_w (by rfl) Try.func61 (by kernel_rfl) (by kernel_rfl) #[.tmp 61, .tmp 66, .tmp 67] #[3, 4, 9] rfl #[.int .i64 id, .bool false, .string bRefused] ?hv (ranswer_any id false bRefused (by decide) _) ?_
          case hv => go_simp
          rintro e w3 ⟨A3, c3, rfl, ho3, hb3⟩
          refine ⟨_, rfl, ?_⟩
          rw [HRR.out] at ho3 ⊢
          simp only at ho3 ⊢
          have S3 : Step w3 (y.drew.alloc zPk) := ⟨hb3⟩
          have X3 : Ext y w3 := Ext.trans_ (inferInstance : Ext y (y.drew.alloc zPk)) (inferInstance : Ext (y.drew.alloc zPk) w3)
          have HO3 := Lib.hid ho3
          have HZ3 : Hid (w3.heap[y.heap.size]? = some zPk) := at_ext (w := y.drew.alloc zPk) (at_new y.drew zPk)
          clear hb3 ho3 hHeld
          refine hK.out _ _ (by exact inferInstance) (fun hHeld => ?_)
          clear hK K
          simp only [List.getElem_toArray, List.getElem_cons_succ, List.getElem_cons_zero, Act.put, List.setIfInBounds_toArray, List.set_cons_zero, List.set_cons_succ]
          refine wpAnyH_take (i := 9) (v := ?_) rfl (by kernel_rfl) (by kernel_rfl) (by kernel_rfl) (fun _ _ _ h => h) (Yields.yieldsIf (Or.inl ⟨by rfl, ?_⟩)) hHeld ?_
          rotate_left
          · intro W
            go_simp
            try with_reducible rfl
          simp only [List.getElem_toArray, List.getElem_cons_succ, List.getElem_cons_zero, Act.put, List.setIfInBounds_toArray, List.set_cons_zero, List.set_cons_succ]
          refine wpAnyH_take (i := 10) (v := ?_) rfl (by kernel_rfl) (by kernel_rfl) (by kernel_rfl) (fun _ _ _ h => h) (Yields.yieldsIf (Or.inl ⟨by rfl, ?_⟩)) hHeld ?_
          rotate_left
          · intro W
            go_simp
            try with_reducible rfl
          simp only [List.getElem_toArray, List.getElem_cons_succ, List.getElem_cons_zero, Act.put, List.setIfInBounds_toArray, List.set_cons_zero, List.set_cons_succ]
          refine wpAnyH_take (i := 11) (v := ?_) rfl (by kernel_rfl) (by kernel_rfl) (by kernel_rfl) (fun _ _ _ h => h) (Yields.yieldsIf (Or.inl ⟨by rfl, ?_⟩)) hHeld ?_
          rotate_left
          · intro W
            go_simp
            try with_reducible rfl
          simp only [List.getElem_toArray, List.getElem_cons_succ, List.getElem_cons_zero, Act.put, List.setIfInBounds_toArray, List.set_cons_zero, List.set_cons_succ]
          refine wpAnyH_ready (rs := [13]) (by kernel_rfl) (by simp) ?_
          refine AllReadyH.cons rfl (fun K hK => ?_) AllReadyH.nil
          refine step_store_row (by rfl) 43 (.tmp 11) (.tmp 69) rfl y.heap.size #[.int .i64 ra, .int .i64 rb, .slice A3 rd.length c3] rfl rfl 43 #[.int .i64 0, .int .i64 0, .slice none 0 0] HZ3.out (by kernel_rfl) rfl (by simp [Value.oneCell']) ?_
          clear hHeld
          refine hK.out _ _ (Ext.setRow_ X3 (Nat.le_refl _) _) (fun hHeld => ?_)
          clear hK K
          simp only [List.getElem_toArray, List.getElem_cons_succ, List.getElem_cons_zero, Act.put, List.setIfInBounds_toArray, List.set_cons_zero, List.set_cons_succ]
          refine wpAnyH_take (i := 14) (v := ?_) rfl (by kernel_rfl) (by kernel_rfl) (by kernel_rfl) (fun _ _ _ h => h) (Yields.yieldsIf (Or.inl ⟨by rfl, ?_⟩)) hHeld ?_
          rotate_left
          · intro W
            go_simp
            try with_reducible rfl
          simp only [List.getElem_toArray, List.getElem_cons_succ, List.getElem_cons_zero, Act.put, List.setIfInBounds_toArray, List.set_cons_zero, List.set_cons_succ]
          refine wpAnyH_done (by kernel_rfl) ?_ _
          clear hHeld
          have hne3 : (Value.slice A3 rd.length c3).ownBlock ≠ some y.heap.size := fun e => by
            have h1 := own_base HO3.out _ e
            simp at h1
            omega
          have hof : (w3.setRow y.heap.size #[.int .i64 ra, .int .i64 rb, .slice A3 rd.length c3]).ownsRow w.heap.size 5 1 (.slice A3 rd.length c3) rd.length (nums .u8 rd) := own_weaken (own_setRow HO3.out hne3 _) (Nat.le_trans Hy.out (by simp))
          obtain ⟨wf, hwf⟩ : ∃ wf, w3.setRow y.heap.size #[.int .i64 ra, .int .i64 rb, .slice A3 rd.length c3] = wf := ⟨_, rfl⟩
          obtain ⟨bf, hbf⟩ : ∃ bf, y.heap.size = bf := ⟨_, rfl⟩
          have Xf : Ext y wf := by rw [← hwf]; exact Ext.setRow_ X3 (Nat.le_refl _) _
          have hbb : wf.heap[bf]? = some (.cells #[.int .i64 ra, .int .i64 rb, .slice A3 rd.length c3] 43 (0, 0)) := by rw [← hwf, ← hbf]; exact setRow_heap _ _ _ _ _ _ HZ3.out
          have hn2 : (Value.slice A3 rd.length c3).ownBlock ≠ some (w.heap.size + 1) := fun e => by
            have h1 := own_base HO3.out _ e
            have h2 := HLy.out
            simp at h1
            omega
          rw [hwf] at hof ⊢
          rw [hbf]
          clear hwf hbf
          have HBf : Hid (wf.heap[bf]? = some (.cells #[.int .i64 ra, .int .i64 rb, .slice A3 rd.length c3] 43 (0, 0))) := hbb
          have HOf : Hid (wf.ownsRow w.heap.size 5 1 (.slice A3 rd.length c3) rd.length (nums .u8 rd)) := hof
          have HEf : Hid (Ext y wf) := Xf
          have HNf : Hid ((Value.slice A3 rd.length c3).ownBlock ≠ some (w.heap.size + 1)) := hn2
          have HTf := Lib.hid (HT.out.ext HEf.out)
          have HZf : Hid (wf.heap[w.heap.size + 1]? = some zPk) := HTf.out.r
          go_wp2_with
            (first
             | (refine wpList_load_row rfl 43 (.tmp 11) rfl bf rfl 43 #[.int .i64 ra, .int .i64 rb, .slice A3 rd.length c3] (0, 0) _ HBf.out Try.underlying43 rfl (by kernel_rfl) ?_)
             | (refine wpList_store_row rfl 43 (.tmp 4) (.tmp 71) rfl (w.heap.size + 1) #[.int .i64 ra, .int .i64 rb, .slice A3 rd.length c3] rfl rfl 43 #[.int .i64 0, .int .i64 0, .slice none 0 0] HZf.out (by kernel_rfl) rfl (by simp [Value.oneCell']) ?_))
          refine bodyPost_ret (results_cell_row3 Try.results53 _ _ (w.heap.size + 1) 43 #[.int .i64 ra, .int .i64 rb, .slice A3 rd.length c3] (0, 0) _ (.bool true) (.int .i64 0) rfl rfl rfl (setRow_heap _ _ _ _ _ _ HZf.out) Try.underlying43 rfl (by kernel_rfl)) rfl ?_
          refine ⟨HTf.out.b.setRow (by omega) _, ?_⟩
          rw [HR.out, if_neg (by simp)]
          refine ⟨(s1, s2), ((ra, rb), rd, re), A3, c3, ?_, ?_, RSrvAt.setRow (g := w.heap.size + 1) HTf.out.v (by have := HLT.out; omega) _, rfl, own_setRow HOf.out HNf.out _⟩
          · simp only [HNB.out, HWD.out]
            exact HS.out
          · exact HSAY.out.trans HRR.out
  · have hrb : (r != 0) = true := by simpa using hr0
    have HZ := Lib.hid HTK.out.r
    go_wp2_with
      (refine wpList_store_row rfl 43 (.tmp 4) (.tmp 21) rfl (w.heap.size + 1) #[.int .i64 0, .int .i64 0, .slice none 0 0] rfl rfl 43 #[.int .i64 0, .int .i64 0, .slice none 0 0] HZ.out (by kernel_rfl) rfl (by simp [Value.oneCell']) ?_)
    refine bodyPost_ret (results_cell_row3 Try.results53 _ _ (w.heap.size + 1) 43 #[.int .i64 0, .int .i64 0, .slice none 0 0] (0, 0) _ (.bool false) (.int .i64 r) rfl rfl rfl (setRow_heap _ _ _ _ _ _ HZ.out) Try.underlying43 rfl (by kernel_rfl)) rfl ?_
    refine ⟨HTK.out.b.setRow (by omega) _, ?_⟩
    rw [HR.out, if_pos hr0]
    exact ⟨RSrvAt.setRow (g := w.heap.size + 1) HTK.out.v (by have := HLT.out; omega) _, rfl⟩
end Go.Proofs.Ytodibldfolognaa
