/-
  pap.Server.Take: a request. Conditions: sizes.
-/
import Derived.Test.YtodibldfolognaaPpM
import Derived.Test.YtodibldfolognaaPpE
import Derived.Test.YtodibldfolognaaPpB
namespace Go.Proofs.Ytodibldfolognaa
open Go.RowKit
set_option linter.unusedVariables false
set_option linter.unusedSimpArgs false

abbrev bWelcome : ByteArray := ⟨#[119, 101, 108, 99, 111, 109, 101]⟩
abbrev bRefused : ByteArray := ⟨#[114, 101, 102, 117, 115, 101, 100]⟩
def accF (name : ByteArray) (us : List SV) (nb wb : ByteArray) : Bool := nameF (strB nb) && decide (checkF (strB nb) (strB name) (strB wb) us = 0)
def stepS (name : ByteArray) (us : List SV) (st : Int) (who nb wb : ByteArray) : Int × ByteArray := if st = 0 then (if accF name us nb wb then (1, nb) else (2, who)) else (st, who)
def sayB (st : Int) : ByteArray := if st = 1 then bWelcome else bRefused
/-- What Take tells and leaves. -/
def TakeTells (B T : Nat) (name : ByteArray) (us : List SV) (st : Int) (who : ByteArray) (code id : Int) (xs : List Int) (w : World) (e : Ending) (w' : World) : Prop :=
  But w w' B ∧ if (rrF code id xs).2 ≠ 0 then SrvAt w' B T name st who us ∧ e = .returned (.tuple #[.agg #[.int .i64 0, .int .i64 0, .slice none 0 0], .bool false, .int .i64 (rrF code id xs).2])
    else ∃ s' a A c, stepS name us st who (strOfNums (rrF code id xs).1.1) (strOfNums (rrF code id xs).1.2) = s' ∧ ansF id (s'.1 == 1) (strB (sayB s'.1)) = a ∧ SrvAt w' B T name s'.1 s'.2 us ∧
      e = .returned (.tuple #[.agg #[.int .i64 a.1.1, .int .i64 a.1.2, .slice A a.2.1.length c], .bool true, .int .i64 0]) ∧ w'.ownsRow w.heap.size 5 1 (.slice A a.2.1.length c) a.2.1.length (nums .u8 a.2.1)
theorem partF_left {xs p r : List Int} (hb : Byt xs) (h : partF xs = some (p, r)) : Byt p ∧ p.length ≤ xs.length := by
  cases xs with
  | nil => cases h
  | cons x xs =>
    rw [(partF_cons h).1]
    refine ⟨fun y hy => hb y (List.mem_cons_of_mem _ (List.mem_of_mem_take hy)), ?_⟩
    rw [List.length_take, List.length_cons]
    omega
theorem rrF_all {code id r : Int} {xs p q : List Int} (hb : Byt xs) (h : rrF code id xs = ((p, q), r)) : (Byt p ∧ p.length ≤ xs.length) ∧ Byt q ∧ q.length ≤ xs.length := by
  have nl : ∀ k : Int, (([], []), k) = ((p, q), r) → (Byt p ∧ p.length ≤ xs.length) ∧ Byt q ∧ q.length ≤ xs.length := by
    intro k e
    injection e with e _
    injection e with e1 e2
    subst e1 e2
    exact ⟨⟨fun _ h => (by cases h), Nat.zero_le _⟩, fun _ h => (by cases h), Nat.zero_le _⟩
  unfold rrF at h
  split at h
  · exact nl _ h
  split at h
  · exact nl _ h
  split at h
  · exact nl _ h
  · rename_i p1 r1 h1
    split at h
    · exact nl _ h
    · rename_i q1 r2 h2
      split at h
      · exact nl _ h
      · injection h with e _
        injection e with e1 e2
        subst e1 e2
        have a1 := partF_left hb h1
        have a2 := partF_left (partF_byt hb h1) h2
        have a3 := partF_len h1
        exact ⟨a1, a2.1, by omega⟩
theorem take_nil (code id : Int) (A : Option Addr) (n c : Nat) (w : World) : Calls Try.prog 52 #[.pointer none, .agg #[.int .i64 code, .int .i64 id, .slice A n c]] w fun e w' =>
    e = .returned (.tuple #[.agg #[.int .i64 0, .int .i64 0, .slice none 0 0], .bool false, .int .i64 2]) ∧ Below w.heap.size w w' := by
  go_enter Try.func52, Try.ntmps52
  go_wp2
  refine bodyPost_ret (results_cell_row3 Try.results52 _ _ (w.heap.size + 2) 43 #[.int .i64 0, .int .i64 0, .slice none 0 0] (0, 0) _ (.bool false) (.int .i64 2) rfl rfl rfl (at_new1 (by simp)) Try.underlying43 rfl (by kernel_rfl)) rfl ?_
  exact ⟨rfl, Ext.out⟩
/-- What Take has in memory. -/
structure TkAt (w w' : World) (B T N : Nat) (name : ByteArray) (us : List SV) (st : Int) (who nb : ByteArray) (code id : Int) (A : Option Addr) (n c : Nat) : Prop where
  v : SrvAt w' B T name st who us
  s : w'.heap[w.heap.size]? = some (.cells #[.pointer (some ⟨B, 0, none⟩)] 80 (0, 0))
  p : w'.heap[w.heap.size + 1]? = some (.cells #[.int .i64 code, .int .i64 id, .slice A n c] 43 (0, 0))
  r : w'.heap[w.heap.size + 1 + 1]? = some zPk
  n : w'.heap[N]? = some (.cells #[.string nb] 9 (0, 0))
  b : But w w' B
  ne : N ≠ B
  lt : B < w.heap.size
section
variable {w w1 w2 : World} {B T N : Nat} {name who nb : ByteArray} {us : List SV} {st : Int} {code id : Int} {A : Option Addr} {n c : Nat}
theorem But.trans_ext (h : But w w1 B) (e : Ext w1 w2) : But w w2 B := by
  exact ⟨e.out.os.trans h.os, e.out.tape.trans h.tape, e.out.output.trans h.output, Nat.le_trans h.size e.out.size, fun j hj hB => (e.out.block j (Nat.lt_of_lt_of_le hj h.size)).trans (h.block j hj hB)⟩
theorem But.trans_ (h : But w w1 B) (k : But w1 w2 B) : But w w2 B :=
  ⟨k.os.trans h.os, k.tape.trans h.tape, k.output.trans h.output, Nat.le_trans h.size k.size, fun j hj hB => (k.block j (Nat.lt_of_lt_of_le hj h.size) hB).trans (h.block j hj hB)⟩
theorem But.setRow {g : Nat} (h : But w w1 B) (hg : w.heap.size ≤ g) (cs : Array Value) : But w (w1.setRow g cs) B :=
  ⟨h.os, h.tape, h.output, by have := h.size; simpa using this, fun k hk hB => (setRow_other _ _ _ _ (by omega)).trans (h.block k hk hB)⟩
theorem SrvAt.setRow {g : Nat} (k : SrvAt w1 B T name st who us) (hg : B < g) (cs : Array Value) : SrvAt (w1.setRow g cs) B T name st who us :=
  ⟨(setRow_other _ _ _ _ (by omega)).trans k.b, k.t.move fun j hj => setRow_other _ _ _ _ (by omega)⟩
theorem TkAt.ext (h : Ext w1 w2) (k : TkAt w w1 B T N name us st who nb code id A n c) : TkAt w w2 B T N name us st who nb code id A n c :=
  ⟨k.v.ext, at_ext k.s, at_ext k.p, at_ext k.r, at_ext k.n, k.b.trans_ext h, k.ne, k.lt⟩
theorem TkAt.set (k : TkAt w w1 B T N name us st who nb code id A n c) (x : Int) : TkAt w (w1.setCell ⟨B, 2, none⟩ (.int .i64 x)) B T N name us x who nb code id A n c :=
  ⟨k.v.set x, (Below.heap_setCell _ _ _ _ (by have := k.lt; show w.heap.size ≠ B; omega)).trans k.s, (Below.heap_setCell _ _ _ _ (by have := k.lt; show w.heap.size + 1 ≠ B; omega)).trans k.p, (Below.heap_setCell _ _ _ _ (by have := k.lt; show w.heap.size + 1 + 1 ≠ B; omega)).trans k.r, (Below.heap_setCell _ _ _ _ k.ne).trans k.n, k.b.set 2 _, k.ne, k.lt⟩
theorem TkAt.but {st' : Int} {who' : ByteArray} (k : TkAt w w1 B T N name us st who nb code id A n c) (h : But w1 w2 B) (hv : SrvAt w2 B T name st' who' us) : TkAt w w2 B T N name us st' who' nb code id A n c :=
  ⟨hv, h.at (by have := k.lt; omega) k.s, h.at (by have := k.lt; omega) k.p, h.at (by have := k.lt; omega) k.r, h.at k.ne k.n, k.b.trans_ h, k.ne, k.lt⟩
end
set_option maxRecDepth 100000 in
set_option maxHeartbeats 8000000 in
theorem take_any (B T : Nat) (name : ByteArray) (us : List SV) (st : Int) (who : ByteArray) (code id : Int) (A : Option Addr) (n c : Nat) (xs : List Int) (hn : xs.length = n) (hn' : n ≤ 140737488355328) (hnc : n ≤ c) (hb : Byt xs) (hl : us.length ≤ 64) (w : World) (hx : Cells w A (nums .u8 xs)) (hv : SrvAt w B T name st who us) :
    Calls Try.prog 52 #[.pointer (some ⟨B, 0, none⟩), .agg #[.int .i64 code, .int .i64 id, .slice A n c]] w (TakeTells B T name us st who code id xs w) := by
  have Hn := Lib.hid hn
  have HX := Lib.hid hx
  have HB := Lib.hid hb
  have HV := Lib.hid hv
  have HLT : Hid (B < w.heap.size) := at_lt hv.b
  clear hn hx hb hv
  go_enter Try.func52, Try.ntmps52
  go_upto_region 3 with fail
  obtain ⟨wb, hwb⟩ : ∃ wb, ((w.alloc (.cells #[.pointer (some ⟨B, 0, none⟩)] 80)).alloc (.cells #[.int .i64 code, .int .i64 id, .slice A n c] 43)).alloc zPk = wb := ⟨_, rfl⟩
  have HWB : Hid (Ext w wb) := by unfold Hid; rw [← hwb]; exact inferInstance
  have H2 : Hid (wb.heap[w.heap.size]? = some (.cells #[.pointer (some ⟨B, 0, none⟩)] 80 (0, 0))) := by unfold Hid; rw [← hwb]; exact at_ext (at_new w _)
  have H3 : Hid (wb.heap[w.heap.size + 1]? = some (.cells #[.int .i64 code, .int .i64 id, .slice A n c] 43 (0, 0))) := by unfold Hid; rw [← hwb]; exact at_ext (w := (w.alloc (.cells #[.pointer (some ⟨B, 0, none⟩)] 80)).alloc (.cells #[.int .i64 code, .int .i64 id, .slice A n c] 43)) (at_new1 (by simp))
  have H4 : Hid (wb.heap[w.heap.size + 1 + 1]? = some zPk) := by unfold Hid; rw [← hwb]; exact at_new1 (by simp)
  have SB : Step wb w := ⟨HWB.out.out⟩
  rw [hwb]
  clear hwb
  have p0 : wb.cell? ⟨w.heap.size + 1, 0, none⟩ = some (.int .i64 code) := at_cell H3.out 0
  have p1 : wb.cell? ⟨w.heap.size + 1, 1, none⟩ = some (.int .i64 id) := at_cell H3.out 1
  have p2 : wb.cell? ⟨w.heap.size + 1, 2, none⟩ = some (.slice A n c) := at_cell H3.out 2
  go_wp2_with fail
  refine (readReq_any code id A n c xs Hn.out hn' hnc HB.out _ HX.out.ext).mono ?_
  rintro e w2 ⟨he, hb2⟩
  have S2 : Step w2 wb := ⟨hb2⟩
  obtain ⟨⟨⟨p, q⟩, r⟩, hr⟩ : ∃ r, rrF code id xs = r := ⟨_, rfl⟩
  unfold RRTells at he
  rw [hr] at he
  subst he
  have HR := Lib.hid hr
  clear hr hb2
  obtain ⟨nb, hnb⟩ : ∃ nb, strOfNums p = nb := ⟨_, rfl⟩
  obtain ⟨wd, hwd⟩ : ∃ wd, strOfNums q = wd := ⟨_, rfl⟩
  simp only [hnb, hwd]
  have HNB := Lib.hid hnb
  have HNS : Hid (nb.size ≤ 140737488355328) := by
    unfold Hid
    rw [← hnb, ← strB_len, strB_str _ (rrF_all HB.out HR.out).1.1]
    have h1 := (rrF_all HB.out HR.out).1.2
    have h2 := Hn.out
    omega
  have HWD := Lib.hid hwd
  clear hnb hwd p0 p1 p2
  go_upto_region 4 with fail
  obtain ⟨N, hN⟩ : ∃ N, w2.heap.size = N := ⟨_, rfl⟩
  obtain ⟨wn, hwn⟩ : ∃ wn, w2.alloc (.cells #[.string nb] 9) = wn := ⟨_, rfl⟩
  have HWN : Hid (Ext w wn) := by unfold Hid; rw [← hwn]; exact inferInstance
  have HBN : Hid (Ext wb wn) := by unfold Hid; rw [← hwn]; exact inferInstance
  have HTK : Hid (TkAt w wn B T N name us st who nb code id A n c) := by
    have e1 := HWN.out
    have e2 := HBN.out
    refine ⟨HV.out.ext, at_ext H2.out, at_ext H3.out, at_ext H4.out, by rw [← hwn]; exact at_new1 hN, But.of, ?_, HLT.out⟩
    have h1 := HLT.out
    have h2 := (inferInstance : Ext w w2).out.size
    omega
  have Sn : Step wn w := ⟨HWN.out.out⟩
  rw [hwn, hN]
  clear hwn hN S2
  by_cases hr0 : r = 0
  · subst hr0
    obtain ⟨⟨s1, s2⟩, hs⟩ : ∃ s, stepS name us st who nb wd = s := ⟨_, rfl⟩
    have HS := Lib.hid hs
    clear hs
    have k0 : wn.cell? ⟨w.heap.size, 0, none⟩ = some (.pointer (some ⟨B, 0, none⟩)) := at_cell HTK.out.s 0
    have k2 := HTK.out.v.p2
    have hmf : ∀ (fn : Fn) (first cap : Array Value) (w : World), (Instr.makeFunc fn first cap).run Try.prog w = .ok (.func fn first cap) w := fun _ _ _ _ => rfl
    go_upto_if 32 with fail
    go_cut [] (fun wx => Hid (TkAt w wx B T N name us s1 s2 nb code id A n c))
    case first =>
      by_cases hst : st = 0
      case neg =>
        have hstb : (st == 0) = false := by simpa using hst
        have HE : Hid ((st, who) = (s1, s2)) := (if_neg hst).symm.trans HS.out
        go_wp2_with fail
        go_meet
        case rel =>
          have h := HE.out
          injection h with h1 h2
          subst h1 h2
          exact HTK.out
      case pos =>
        subst hst
        have f2 := HTK.out.v.f 2
        go_upto_region 9 with fail
        obtain ⟨wq, hwq⟩ : ∃ wq, wn.setCell ⟨B, 2, none⟩ (.int .i64 2) = wq := ⟨_, rfl⟩
        have HTQ : Hid (TkAt w wq B T N name us 2 who nb code id A n c) := by unfold Hid; rw [← hwq]; exact HTK.out.set 2
        rw [hwq]
        clear hwq k0 k2 f2
        have q0 : wq.cell? ⟨w.heap.size, 0, none⟩ = some (.pointer (some ⟨B, 0, none⟩)) := at_cell HTQ.out.s 0
        have q1 : wq.cell? ⟨N, 0, none⟩ = some (.string nb) := at_cell HTQ.out.n 0
        have q2 := HTQ.out.v.p0
        have q3 := HTQ.out.v.p1
        rcases hf : nameF (strB nb) with _ | _
        · have HE : Hid ((2, who) = (s1, s2)) := by
            have h := HS.out
            unfold stepS accF at h
            rw [if_pos rfl, hf] at h
            exact h
          have HF := Lib.hid hf
          clear hf
          refine wp_region_held_drew (S := fun W => Ext wq W) (by kernel_rfl) (by exact inferInstance) (fun hHeld => ?_)
          refine wpAnyH_take (i := 0) (v := ?_) rfl (by kernel_rfl) (by kernel_rfl) (by kernel_rfl) (fun _ _ _ h => h) (Or.inl ⟨by rfl, ?_⟩) hHeld ?_
          rotate_left
          · intro W hW
            have hcl := (cell_ext (h := hW) q1)
            go_simp
            try with_reducible rfl
          simp only [List.getElem_toArray, List.getElem_cons_succ, List.getElem_cons_zero, Act.put, List.setIfInBounds_toArray, List.set_cons_zero, List.set_cons_succ]
          refine wpAnyH_ready (rs := [1]) (by kernel_rfl) (by simp) ?_
          refine AllReadyH.cons rfl (fun K hK => ?_) AllReadyH.nil
          refine step_call_w (by rfl) Try.func97 (by kernel_rfl) (by kernel_rfl) #[.tmp 36] #[9] rfl #[.string nb] ?hv (pright_any nb HNS.out _) ?_
          case hv => go_simp
          rintro e w4 ⟨rfl, hbb⟩
          refine ⟨_, rfl, ?_⟩
          rw [HF.out]
          have S4 : Step w4 _ := ⟨hbb⟩
          clear hbb hHeld
          refine hK.out _ _ (by exact inferInstance) (fun hHeld => ?_)
          clear hK K
          simp only [List.getElem_toArray, List.getElem_cons_succ, List.getElem_cons_zero, Act.put, List.setIfInBounds_toArray, List.set_cons_zero, List.set_cons_succ]
          refine wpAnyH_take (i := 2) (v := ?_) rfl (by kernel_rfl) (by kernel_rfl) (by kernel_rfl) (fun _ _ _ h => h) (Yields.yieldsIf (Or.inl ⟨by rfl, ?_⟩)) hHeld ?_
          rotate_left
          · intro W
            go_simp
            try with_reducible rfl
          simp only [List.getElem_toArray, List.getElem_cons_succ, List.getElem_cons_zero, Act.put, List.setIfInBounds_toArray, List.set_cons_zero, List.set_cons_succ]
          refine wpAnyH_take (i := 3) (v := undef) rfl (by kernel_rfl) (by kernel_rfl) (by kernel_rfl) (fun _ _ _ h => h) (Yields.yieldsIf (Or.inr ⟨by rfl, rfl⟩)) hHeld ?_
          simp only [List.getElem_toArray, List.getElem_cons_succ, List.getElem_cons_zero, Act.put, List.setIfInBounds_toArray, List.set_cons_zero, List.set_cons_succ]
          refine wpAnyH_take (i := 4) (v := undef) rfl (by kernel_rfl) (by kernel_rfl) (by kernel_rfl) (fun _ _ _ h => h) (Yields.yieldsIf (Or.inr ⟨by rfl, rfl⟩)) hHeld ?_
          simp only [List.getElem_toArray, List.getElem_cons_succ, List.getElem_cons_zero, Act.put, List.setIfInBounds_toArray, List.set_cons_zero, List.set_cons_succ]
          refine wpAnyH_take (i := 5) (v := undef) rfl (by kernel_rfl) (by kernel_rfl) (by kernel_rfl) (fun _ _ _ h => h) (Yields.yieldsIf (Or.inr ⟨by rfl, rfl⟩)) hHeld ?_
          simp only [List.getElem_toArray, List.getElem_cons_succ, List.getElem_cons_zero, Act.put, List.setIfInBounds_toArray, List.set_cons_zero, List.set_cons_succ]
          refine wpAnyH_take (i := 6) (v := undef) rfl (by kernel_rfl) (by kernel_rfl) (by kernel_rfl) (fun _ _ _ h => h) (Yields.yieldsIf (Or.inr ⟨by rfl, rfl⟩)) hHeld ?_
          simp only [List.getElem_toArray, List.getElem_cons_succ, List.getElem_cons_zero, Act.put, List.setIfInBounds_toArray, List.set_cons_zero, List.set_cons_succ]
          refine wpAnyH_take (i := 7) (v := undef) rfl (by kernel_rfl) (by kernel_rfl) (by kernel_rfl) (fun _ _ _ h => h) (Yields.yieldsIf (Or.inr ⟨by rfl, rfl⟩)) hHeld ?_
          simp only [List.getElem_toArray, List.getElem_cons_succ, List.getElem_cons_zero, Act.put, List.setIfInBounds_toArray, List.set_cons_zero, List.set_cons_succ]
          refine wpAnyH_take (i := 8) (v := undef) rfl (by kernel_rfl) (by kernel_rfl) (by kernel_rfl) (fun _ _ _ h => h) (Yields.yieldsIf (Or.inr ⟨by rfl, rfl⟩)) hHeld ?_
          simp only [List.getElem_toArray, List.getElem_cons_succ, List.getElem_cons_zero, Act.put, List.setIfInBounds_toArray, List.set_cons_zero, List.set_cons_succ]
          refine wpAnyH_take (i := 9) (v := undef) rfl (by kernel_rfl) (by kernel_rfl) (by kernel_rfl) (fun _ _ _ h => h) (Yields.yieldsIf (Or.inr ⟨by rfl, rfl⟩)) hHeld ?_
          simp only [List.getElem_toArray, List.getElem_cons_succ, List.getElem_cons_zero, Act.put, List.setIfInBounds_toArray, List.set_cons_zero, List.set_cons_succ]
          refine wpAnyH_take (i := 10) (v := undef) rfl (by kernel_rfl) (by kernel_rfl) (by kernel_rfl) (fun _ _ _ h => h) (Yields.yieldsIf (Or.inr ⟨by rfl, rfl⟩)) hHeld ?_
          simp only [List.getElem_toArray, List.getElem_cons_succ, List.getElem_cons_zero, Act.put, List.setIfInBounds_toArray, List.set_cons_zero, List.set_cons_succ]
          refine wpAnyH_take (i := 11) (v := undef) rfl (by kernel_rfl) (by kernel_rfl) (by kernel_rfl) (fun _ _ _ h => h) (Yields.yieldsIf (Or.inr ⟨by rfl, rfl⟩)) hHeld ?_
          simp only [List.getElem_toArray, List.getElem_cons_succ, List.getElem_cons_zero, Act.put, List.setIfInBounds_toArray, List.set_cons_zero, List.set_cons_succ]
          refine wpAnyH_take (i := 12) (v := undef) rfl (by kernel_rfl) (by kernel_rfl) (by kernel_rfl) (fun _ _ _ h => h) (Yields.yieldsIf (Or.inr ⟨by rfl, rfl⟩)) hHeld ?_
          simp only [List.getElem_toArray, List.getElem_cons_succ, List.getElem_cons_zero, Act.put, List.setIfInBounds_toArray, List.set_cons_zero, List.set_cons_succ]
          refine wpAnyH_take (i := 13) (v := undef) rfl (by kernel_rfl) (by kernel_rfl) (by kernel_rfl) (fun _ _ _ h => h) (Yields.yieldsIf (Or.inr ⟨by rfl, rfl⟩)) hHeld ?_
          simp only [List.getElem_toArray, List.getElem_cons_succ, List.getElem_cons_zero, Act.put, List.setIfInBounds_toArray, List.set_cons_zero, List.set_cons_succ]
          refine wpAnyH_take (i := 14) (v := undef) rfl (by kernel_rfl) (by kernel_rfl) (by kernel_rfl) (fun _ _ _ h => h) (Yields.yieldsIf (Or.inr ⟨by rfl, rfl⟩)) hHeld ?_
          simp only [List.getElem_toArray, List.getElem_cons_succ, List.getElem_cons_zero, Act.put, List.setIfInBounds_toArray, List.set_cons_zero, List.set_cons_succ]
          refine wpAnyH_take (i := 15) (v := ?_) rfl (by kernel_rfl) (by kernel_rfl) (by kernel_rfl) (fun _ _ _ h => h) (Yields.yieldsIf (Or.inl ⟨by rfl, ?_⟩)) hHeld ?_
          rotate_left
          · intro W
            go_simp
            try with_reducible rfl
          simp only [List.getElem_toArray, List.getElem_cons_succ, List.getElem_cons_zero, Act.put, List.setIfInBounds_toArray, List.set_cons_zero, List.set_cons_succ]
          refine wpAnyH_done (by kernel_rfl) ?_ _
          clear hHeld
          go_wp2_with fail
          go_meet
          case rel =>
            have h := HE.out
            injection h with h1 h2
            subst h1 h2
            exact HTQ.out.ext inferInstance
        · have HF := Lib.hid hf
          have HTB : Hid (TabAt wq T us) := HTQ.out.v.t.t
          refine wp_region_held_drew (S := fun W => Ext wq W) (by kernel_rfl) (by exact inferInstance) (fun hHeld => ?_)
          refine wpAnyH_take (i := 0) (v := ?_) rfl (by kernel_rfl) (by kernel_rfl) (by kernel_rfl) (fun _ _ _ h => h) (Or.inl ⟨by rfl, ?_⟩) hHeld ?_
          rotate_left
          · intro W hW
            have hcl := (cell_ext (h := hW) q1)
            go_simp
            try with_reducible rfl
          simp only [List.getElem_toArray, List.getElem_cons_succ, List.getElem_cons_zero, Act.put, List.setIfInBounds_toArray, List.set_cons_zero, List.set_cons_succ]
          refine wpAnyH_ready (rs := [1]) (by kernel_rfl) (by simp) ?_
          refine AllReadyH.cons rfl (fun K hK => ?_) AllReadyH.nil
          refine step_call_w (by rfl) Try.func97 (by kernel_rfl) (by kernel_rfl) #[.tmp 36] #[9] rfl #[.string nb] ?hv (pright_any nb HNS.out _) ?_
          case hv => go_simp
          rintro e w4 ⟨rfl, hbb⟩
          refine ⟨_, rfl, ?_⟩
          rw [HF.out]
          have S4 : Step w4 _ := ⟨hbb⟩
          clear hbb hHeld
          refine hK.out _ _ (by exact inferInstance) (fun hHeld => ?_)
          clear hK K
          simp only [List.getElem_toArray, List.getElem_cons_succ, List.getElem_cons_zero, Act.put, List.setIfInBounds_toArray, List.set_cons_zero, List.set_cons_succ]
          refine wpAnyH_take (i := 2) (v := ?_) rfl (by kernel_rfl) (by kernel_rfl) (by kernel_rfl) (fun _ _ _ h => h) (Yields.yieldsIf (Or.inl ⟨by rfl, ?_⟩)) hHeld ?_
          rotate_left
          · intro W
            go_simp
            try with_reducible rfl
          simp only [List.getElem_toArray, List.getElem_cons_succ, List.getElem_cons_zero, Act.put, List.setIfInBounds_toArray, List.set_cons_zero, List.set_cons_succ]
          refine wpAnyH_take (i := 3) (v := ?_) rfl (by kernel_rfl) (by kernel_rfl) (by kernel_rfl) (fun _ _ _ h => h) (Or.inl ⟨by rfl, ?_⟩) hHeld ?_
          rotate_left
          · intro W hW
            have hcl := (cell_ext (h := hW) q0)
            go_simp
            try with_reducible rfl
          simp only [List.getElem_toArray, List.getElem_cons_succ, List.getElem_cons_zero, Act.put, List.setIfInBounds_toArray, List.set_cons_zero, List.set_cons_succ]
          refine wpAnyH_take (i := 4) (v := ?_) rfl (by kernel_rfl) (by kernel_rfl) (by kernel_rfl) (fun _ _ _ h => h) (Yields.yieldsIf (Or.inl ⟨by rfl, ?_⟩)) hHeld ?_
          rotate_left
          · intro W
            go_simp
            try with_reducible rfl
          simp only [List.getElem_toArray, List.getElem_cons_succ, List.getElem_cons_zero, Act.put, List.setIfInBounds_toArray, List.set_cons_zero, List.set_cons_succ]
          refine wpAnyH_take (i := 5) (v := ?_) rfl (by kernel_rfl) (by kernel_rfl) (by kernel_rfl) (fun _ _ _ h => h) (Yields.yieldsIf (Or.inl ⟨by rfl, ?_⟩)) hHeld ?_
          rotate_left
          · intro W
            go_simp
            try with_reducible rfl
          simp only [List.getElem_toArray, List.getElem_cons_succ, List.getElem_cons_zero, Act.put, List.setIfInBounds_toArray, List.set_cons_zero, List.set_cons_succ]
          refine wpAnyH_take (i := 6) (v := ?_) rfl (by kernel_rfl) (by kernel_rfl) (by kernel_rfl) (fun _ _ _ h => h) (Or.inl ⟨by rfl, ?_⟩) hHeld ?_
          rotate_left
          · intro W hW
            have hcl := (cell_ext (h := hW) q3)
            go_simp
            try with_reducible rfl
          simp only [List.getElem_toArray, List.getElem_cons_succ, List.getElem_cons_zero, Act.put, List.setIfInBounds_toArray, List.set_cons_zero, List.set_cons_succ]
          refine wpAnyH_take (i := 7) (v := ?_) rfl (by kernel_rfl) (by kernel_rfl) (by kernel_rfl) (fun _ _ _ h => h) (Or.inl ⟨by rfl, ?_⟩) hHeld ?_
          rotate_left
          · intro W hW
            have hcl := (cell_ext (h := hW) q1)
            go_simp
            try with_reducible rfl
          simp only [List.getElem_toArray, List.getElem_cons_succ, List.getElem_cons_zero, Act.put, List.setIfInBounds_toArray, List.set_cons_zero, List.set_cons_succ]
          refine wpAnyH_take (i := 8) (v := ?_) rfl (by kernel_rfl) (by kernel_rfl) (by kernel_rfl) (fun _ _ _ h => h) (Or.inl ⟨by rfl, ?_⟩) hHeld ?_
          rotate_left
          · intro W hW
            have hcl := (cell_ext (h := hW) q0)
            go_simp
            try with_reducible rfl
          simp only [List.getElem_toArray, List.getElem_cons_succ, List.getElem_cons_zero, Act.put, List.setIfInBounds_toArray, List.set_cons_zero, List.set_cons_succ]
          refine wpAnyH_take (i := 9) (v := ?_) rfl (by kernel_rfl) (by kernel_rfl) (by kernel_rfl) (fun _ _ _ h => h) (Yields.yieldsIf (Or.inl ⟨by rfl, ?_⟩)) hHeld ?_
          rotate_left
          · intro W
            go_simp
            try with_reducible rfl
          simp only [List.getElem_toArray, List.getElem_cons_succ, List.getElem_cons_zero, Act.put, List.setIfInBounds_toArray, List.set_cons_zero, List.set_cons_succ]
          refine wpAnyH_take (i := 10) (v := ?_) rfl (by kernel_rfl) (by kernel_rfl) (by kernel_rfl) (fun _ _ _ h => h) (Yields.yieldsIf (Or.inl ⟨by rfl, ?_⟩)) hHeld ?_
          rotate_left
          · intro W
            go_simp
            try with_reducible rfl
          simp only [List.getElem_toArray, List.getElem_cons_succ, List.getElem_cons_zero, Act.put, List.setIfInBounds_toArray, List.set_cons_zero, List.set_cons_succ]
          refine wpAnyH_take (i := 11) (v := ?_) rfl (by kernel_rfl) (by kernel_rfl) (by kernel_rfl) (fun _ _ _ h => h) (Or.inl ⟨by rfl, ?_⟩) hHeld ?_
          rotate_left
          · intro W hW
            have hcl := (cell_ext (h := hW) q2)
            go_simp
            try with_reducible rfl
          simp only [List.getElem_toArray, List.getElem_cons_succ, List.getElem_cons_zero, Act.put, List.setIfInBounds_toArray, List.set_cons_zero, List.set_cons_succ]
          refine wpAnyH_take (i := 12) (v := ?_) rfl (by kernel_rfl) (by kernel_rfl) (by kernel_rfl) (fun _ _ _ h => h) (Yields.yieldsIf (Or.inl ⟨by rfl, ?_⟩)) hHeld ?_
          rotate_left
          · intro W
            go_simp
            try with_reducible rfl
          simp only [List.getElem_toArray, List.getElem_cons_succ, List.getElem_cons_zero, Act.put, List.setIfInBounds_toArray, List.set_cons_zero, List.set_cons_succ]
          obtain ⟨ck, hck⟩ : ∃ ck, checkF (strB nb) (strB name) (strB wd) us = ck := ⟨_, rfl⟩
          have HCK := Lib.hid hck
          clear hck
          refine wpAnyH_ready (rs := [13]) (by kernel_rfl) (by simp) ?_
          refine AllReadyH.cons rfl (fun K hK => ?_) AllReadyH.nil
          refine step_call_w (by rfl) Try.func103 (by kernel_rfl) (by kernel_rfl) #[.tmp 42, .tmp 43, .tmp 47, .tmp 48] #[136, 9, 9, 9] rfl #[.pointer (some ⟨T, 0, none⟩), .string nb, .string name, .string wd] ?hv (check_any T us nb name wd _ hl (by exact HTB.out.ext)) ?_
          case hv => go_simp
          rintro e w5 ⟨rfl, hbb⟩
          refine ⟨_, rfl, ?_⟩
          rw [HCK.out]
          have S5 : Step w5 _ := ⟨hbb⟩
          clear hbb hHeld
          refine hK.out _ _ (by exact inferInstance) (fun hHeld => ?_)
          clear hK K
          simp only [List.getElem_toArray, List.getElem_cons_succ, List.getElem_cons_zero, Act.put, List.setIfInBounds_toArray, List.set_cons_zero, List.set_cons_succ]
          by_cases hc0 : ck = 0
          · have HE : Hid ((1, nb) = (s1, s2)) := by
              have h := HS.out
              unfold stepS accF at h
              rw [if_pos rfl, hf, HCK.out, hc0] at h
              exact h
            subst hc0
            clear hf
            refine wpAnyH_take (i := 14) (v := ?_) rfl (by kernel_rfl) (by kernel_rfl) (by kernel_rfl) (fun _ _ _ h => h) (Yields.yieldsIf (Or.inl ⟨by rfl, ?_⟩)) hHeld ?_
            rotate_left
            · intro W
              go_simp
              try with_reducible rfl
            simp only [List.getElem_toArray, List.getElem_cons_succ, List.getElem_cons_zero, Act.put, List.setIfInBounds_toArray, List.set_cons_zero, List.set_cons_succ]
            refine wpAnyH_take (i := 15) (v := ?_) rfl (by kernel_rfl) (by kernel_rfl) (by kernel_rfl) (fun _ _ _ h => h) (Yields.yieldsIf (Or.inl ⟨by rfl, ?_⟩)) hHeld ?_
            rotate_left
            · intro W
              go_simp
              try with_reducible rfl
            simp only [List.getElem_toArray, List.getElem_cons_succ, List.getElem_cons_zero, Act.put, List.setIfInBounds_toArray, List.set_cons_zero, List.set_cons_succ]
            refine wpAnyH_done (by kernel_rfl) ?_ _
            clear hHeld
            have HT5 := Lib.hid (HTQ.out.ext (w2 := w5) inferInstance)
            go_wp2_with fail
            refine (accept_any N w.heap.size B T name who nb 2 us _ HT5.out.v (by exact at_ext HT5.out.n) (by exact at_ext HT5.out.s) HT5.out.ne (by have := HT5.out.lt; omega)).mono ?_
            rintro e w6 ⟨rfl, hv6, hb6⟩
            have HT6 := Lib.hid (HT5.out.but hb6 hv6)
            clear hv6 hb6
            go_wp2_with fail
            go_meet
            case rel =>
              have h := HE.out
              injection h with h1 h2
              subst h1 h2
              exact HT6.out
          · have HE : Hid ((2, who) = (s1, s2)) := by
              have h := HS.out
              unfold stepS accF at h
              rw [if_pos rfl, hf, HCK.out, decide_eq_false hc0] at h
              exact h
            have hc0b : (ck == 0) = false := by simpa using hc0
            clear hf
            refine wpAnyH_take (i := 14) (v := ?_) rfl (by kernel_rfl) (by kernel_rfl) (by kernel_rfl) (fun _ _ _ h => h) (Yields.yieldsIf (Or.inl ⟨by rfl, ?_⟩)) hHeld ?_
            rotate_left
            · intro W
              go_simp
              try with_reducible rfl
            simp only [List.getElem_toArray, List.getElem_cons_succ, List.getElem_cons_zero, Act.put, List.setIfInBounds_toArray, List.set_cons_zero, List.set_cons_succ]
            refine wpAnyH_take (i := 15) (v := ?_) rfl (by kernel_rfl) (by kernel_rfl) (by kernel_rfl) (fun _ _ _ h => h) (Yields.yieldsIf (Or.inl ⟨by rfl, ?_⟩)) hHeld ?_
            rotate_left
            · intro W
              go_simp
              try with_reducible rfl
            simp only [List.getElem_toArray, List.getElem_cons_succ, List.getElem_cons_zero, Act.put, List.setIfInBounds_toArray, List.set_cons_zero, List.set_cons_succ]
            refine wpAnyH_done (by kernel_rfl) ?_ _
            clear hHeld
            go_wp2_with fail
            go_meet
            case rel =>
              have h := HE.out
              injection h with h1 h2
              subst h1 h2
              exact HTQ.out.ext inferInstance
    case' rest =>
      have HT := Lib.hid hcut.out
      generalize wc = y at *
      clear hcut
      have Hy := Lib.hid HT.out.b.size
      have HLy : Hid (w.heap.size + 1 + 1 < y.heap.size) := at_lt HT.out.r
      clear k0 k2
      have q0 : y.cell? ⟨w.heap.size, 0, none⟩ = some (.pointer (some ⟨B, 0, none⟩)) := at_cell HT.out.s 0
      have q1 : y.cell? ⟨w.heap.size + 1, 1, none⟩ = some (.int .i64 id) := at_cell HT.out.p 1
      by_cases h1 : s1 = 1
      · subst h1
        have HSAY : Hid (ansF id ((1 : Int) == 1) (strB (sayB 1)) = ansF id true (strB bWelcome)) := rfl
        have q2 := HT.out.v.p2
        go_upto_region 14 with fail
        obtain ⟨⟨⟨ra, rb⟩, rd, re⟩, hrr⟩ : ∃ a, ansF id true (strB bWelcome) = a := ⟨_, rfl⟩
        have HRR := Lib.hid hrr
        clear hrr
        refine wp_region_held_drew (S := fun W => Ext y W) (by kernel_rfl) (by exact inferInstance) (fun hHeld => ?_)
        refine wpAnyH_take (i := 0) (v := ?_) rfl (by kernel_rfl) (by kernel_rfl) (by kernel_rfl) (fun _ _ _ h => h) (Yields.yieldsIf (Or.inl ⟨by rfl, ?_⟩)) hHeld ?_
        rotate_left
        · intro W
          go_simp
          try with_reducible rfl
        simp only [List.getElem_toArray, List.getElem_cons_succ, List.getElem_cons_zero, Act.put, List.setIfInBounds_toArray, List.set_cons_zero, List.set_cons_succ]
        refine wpAnyH_take (i := 1) (v := ?_) rfl (by kernel_rfl) (by kernel_rfl) (by kernel_rfl) (fun _ _ _ h => h) (Or.inl ⟨by rfl, ?_⟩) hHeld ?_
        rotate_left
        · intro W hW
          have hcl := (cell_ext (h := hW) q1)
          go_simp
          try with_reducible rfl
        simp only [List.getElem_toArray, List.getElem_cons_succ, List.getElem_cons_zero, Act.put, List.setIfInBounds_toArray, List.set_cons_zero, List.set_cons_succ]
        refine wpAnyH_take (i := 2) (v := ?_) rfl (by kernel_rfl) (by kernel_rfl) (by kernel_rfl) (fun _ _ _ h => h) (Or.inl ⟨by rfl, ?_⟩) hHeld ?_
        rotate_left
        · intro W hW
          have hcl := (cell_ext (h := hW) q0)
          go_simp
          try with_reducible rfl
        simp only [List.getElem_toArray, List.getElem_cons_succ, List.getElem_cons_zero, Act.put, List.setIfInBounds_toArray, List.set_cons_zero, List.set_cons_succ]
        refine wpAnyH_take (i := 3) (v := ?_) rfl (by kernel_rfl) (by kernel_rfl) (by kernel_rfl) (fun _ _ _ h => h) (Yields.yieldsIf (Or.inl ⟨by rfl, ?_⟩)) hHeld ?_
        rotate_left
        · intro W
          go_simp
          try with_reducible rfl
        simp only [List.getElem_toArray, List.getElem_cons_succ, List.getElem_cons_zero, Act.put, List.setIfInBounds_toArray, List.set_cons_zero, List.set_cons_succ]
        refine wpAnyH_take (i := 4) (v := ?_) rfl (by kernel_rfl) (by kernel_rfl) (by kernel_rfl) (fun _ _ _ h => h) (Yields.yieldsIf (Or.inl ⟨by rfl, ?_⟩)) hHeld ?_
        rotate_left
        · intro W
          go_simp
          try with_reducible rfl
        simp only [List.getElem_toArray, List.getElem_cons_succ, List.getElem_cons_zero, Act.put, List.setIfInBounds_toArray, List.set_cons_zero, List.set_cons_succ]
        refine wpAnyH_take (i := 5) (v := ?_) rfl (by kernel_rfl) (by kernel_rfl) (by kernel_rfl) (fun _ _ _ h => h) (Or.inl ⟨by rfl, ?_⟩) hHeld ?_
        rotate_left
        · intro W hW
          have hcl := (cell_ext (h := hW) q2)
          go_simp
          try with_reducible rfl
        simp only [List.getElem_toArray, List.getElem_cons_succ, List.getElem_cons_zero, Act.put, List.setIfInBounds_toArray, List.set_cons_zero, List.set_cons_succ]
        refine wpAnyH_take (i := 6) (v := ?_) rfl (by kernel_rfl) (by kernel_rfl) (by kernel_rfl) (fun _ _ _ h => h) (Yields.yieldsIf (Or.inl ⟨by rfl, ?_⟩)) hHeld ?_
        rotate_left
        · intro W
          go_simp
          try with_reducible rfl
        simp only [List.getElem_toArray, List.getElem_cons_succ, List.getElem_cons_zero, Act.put, List.setIfInBounds_toArray, List.set_cons_zero, List.set_cons_succ]
        refine wpAnyH_take (i := 7) (v := ?_) rfl (by kernel_rfl) (by kernel_rfl) (by kernel_rfl) (fun _ _ _ h => h) (Yields.yieldsIf (Or.inl ⟨by rfl, ?_⟩)) hHeld ?_
        rotate_left
        · intro W
          go_simp
          try with_reducible rfl
        simp only [List.getElem_toArray, List.getElem_cons_succ, List.getElem_cons_zero, Act.put, List.setIfInBounds_toArray, List.set_cons_zero, List.set_cons_succ]
        refine wpAnyH_ready (rs := [8, 12]) (by kernel_rfl) (by simp) ?_
        refine AllReadyH.cons rfl (fun K hK => ?_) (AllReadyH.cons rfl (fun K hK => ?_) AllReadyH.nil)
        · refine step_call_w (by rfl) Try.func60 (by kernel_rfl) (by kernel_rfl) #[.tmp 61, .tmp 66, .tmp 67] #[3, 4, 9] rfl #[.int .i64 id, .bool true, .string bWelcome] ?hv (answer_any id true bWelcome (by decide) _) ?_
          case hv => go_simp
          rintro e w3 ⟨A3, c3, rfl, ho3, hb3⟩
          refine ⟨_, rfl, ?_⟩
          rw [HRR.out] at ho3 ⊢
          simp only at ho3 ⊢
          have S3 : Step w3 y.drew := ⟨hb3⟩
          have X3 : Ext y w3 := inferInstance
          have HO3 := Lib.hid ho3
          clear hb3 ho3 hHeld
          refine hK.out _ _ (by exact inferInstance) (fun hHeld => ?_)
          clear hK K
          simp only [List.getElem_toArray, List.getElem_cons_succ, List.getElem_cons_zero, Act.put, List.setIfInBounds_toArray, List.set_cons_zero, List.set_cons_succ]
          refine wpAnyH_take (i := 9) (v := ?_) rfl (by kernel_rfl) (by kernel_rfl) (by kernel_rfl) (fun _ _ _ h => h) (Yields.yieldsIf (Or.inl ⟨by rfl, ?_⟩)) hHeld ?_
          rotate_left
          · intro W
            go_simp
            try with_reducible rfl
          simp only [List.getElem_toArray, List.getElem_cons_succ, List.getElem_cons_zero, Act.put, List.setIfInBounds_toArray, List.set_cons_zero, List.set_cons_succ]
          refine wpAnyH_take (i := 10) (v := ?_) rfl (by kernel_rfl) (by kernel_rfl) (by kernel_rfl) (fun _ _ _ h => h) (Yields.yieldsIf (Or.inl ⟨by rfl, ?_⟩)) hHeld ?_
          rotate_left
          · intro W
            go_simp
            try with_reducible rfl
          simp only [List.getElem_toArray, List.getElem_cons_succ, List.getElem_cons_zero, Act.put, List.setIfInBounds_toArray, List.set_cons_zero, List.set_cons_succ]
          refine wpAnyH_take (i := 11) (v := ?_) rfl (by kernel_rfl) (by kernel_rfl) (by kernel_rfl) (fun _ _ _ h => h) (Yields.yieldsIf (Or.inl ⟨by rfl, ?_⟩)) hHeld ?_
          rotate_left
          · intro W
            go_simp
            try with_reducible rfl
          simp only [List.getElem_toArray, List.getElem_cons_succ, List.getElem_cons_zero, Act.put, List.setIfInBounds_toArray, List.set_cons_zero, List.set_cons_succ]
          refine wpAnyH_ready (rs := [12]) (by kernel_rfl) (by simp) ?_
          refine AllReadyH.cons rfl (fun K hK => ?_) AllReadyH.nil
          rw [if_pos (by rfl)]
          unfold Oper.wp
          go_simp
          clear hHeld
          refine hK.out _ _ (by exact inferInstance) (fun hHeld => ?_)
          clear hK K
          try simp only [List.getElem_toArray, List.getElem_cons_succ, List.getElem_cons_zero, Act.put, List.setIfInBounds_toArray, List.set_cons_zero, List.set_cons_succ]
          refine wpAnyH_ready (rs := [13]) (by kernel_rfl) (by simp) ?_
          refine AllReadyH.cons rfl (fun K hK => ?_) AllReadyH.nil
          refine step_store_row (by rfl) 43 (.tmp 12) (.tmp 69) rfl w3.heap.size #[.int .i64 ra, .int .i64 rb, .slice A3 rd.length c3] rfl rfl 43 #[.int .i64 0, .int .i64 0, .slice none 0 0] (at_new w3 zPk) (by kernel_rfl) rfl (by simp [Value.oneCell']) ?_
          clear hHeld
          refine hK.out _ _ (Ext.setRow_ (inferInstance : Ext y (w3.alloc zPk)) X3.out.size _) (fun hHeld => ?_)
          clear hK K
          simp only [List.getElem_toArray, List.getElem_cons_succ, List.getElem_cons_zero, Act.put, List.setIfInBounds_toArray, List.set_cons_zero, List.set_cons_succ]
          refine wpAnyH_take (i := 14) (v := ?_) rfl (by kernel_rfl) (by kernel_rfl) (by kernel_rfl) (fun _ _ _ h => h) (Yields.yieldsIf (Or.inl ⟨by rfl, ?_⟩)) hHeld ?_
          rotate_left
          · intro W
            go_simp
            try with_reducible rfl
          simp only [List.getElem_toArray, List.getElem_cons_succ, List.getElem_cons_zero, Act.put, List.setIfInBounds_toArray, List.set_cons_zero, List.set_cons_succ]
          refine wpAnyH_done (by kernel_rfl) ?_ _
          clear hHeld
          obtain ⟨wf, hwf⟩ : ∃ wf, (w3.alloc zPk).setRow w3.heap.size #[.int .i64 ra, .int .i64 rb, .slice A3 rd.length c3] = wf := ⟨_, rfl⟩
          obtain ⟨bf, hbf⟩ : ∃ bf, w3.heap.size = bf := ⟨_, rfl⟩
          have hal : wf = w3.alloc (.cells #[.int .i64 ra, .int .i64 rb, .slice A3 rd.length c3] 43) := hwf.symm.trans (World.setRow_alloc_new w3 _ _ _)
          have Xf : Ext y wf := by rw [hal]; exact inferInstance
          have X3f : Ext w3 wf := by rw [hal]; exact inferInstance
          have hbb : wf.heap[bf]? = some (.cells #[.int .i64 ra, .int .i64 rb, .slice A3 rd.length c3] 43 (0, 0)) := by rw [hal, ← hbf]; exact at_new w3 _
          rw [hwf, hbf]
          clear hal hwf hbf
          have HBf : Hid (wf.heap[bf]? = some (.cells #[.int .i64 ra, .int .i64 rb, .slice A3 rd.length c3] 43 (0, 0))) := hbb
          have HOf : Hid (wf.ownsRow w.heap.size 5 1 (.slice A3 rd.length c3) rd.length (nums .u8 rd)) := (own_weaken (own_ext HO3.out) (Nat.le_trans Hy.out (by simp)))
          have HEf : Hid (Ext y wf) := Xf
          have HNf : Hid ((Value.slice A3 rd.length c3).ownBlock ≠ some (w.heap.size + 1 + 1)) := (fun e => by have h1 := own_base HO3.out _ e; have h2 := HLy.out; simp at h1; omega)
          have HTf := Lib.hid (HT.out.ext HEf.out)
          have HZf : Hid (wf.heap[w.heap.size + 1 + 1]? = some zPk) := HTf.out.r
          go_wp2_with
            (first
             | (refine wpList_load_row rfl 43 (.tmp 12) rfl bf rfl 43 #[.int .i64 ra, .int .i64 rb, .slice A3 rd.length c3] (0, 0) _ HBf.out Try.underlying43 rfl (by kernel_rfl) ?_)
             | (refine wpList_store_row rfl 43 (.tmp 4) (.tmp 71) rfl (w.heap.size + 1 + 1) #[.int .i64 ra, .int .i64 rb, .slice A3 rd.length c3] rfl rfl 43 #[.int .i64 0, .int .i64 0, .slice none 0 0] HZf.out (by kernel_rfl) rfl (by simp [Value.oneCell']) ?_))
          refine bodyPost_ret (results_cell_row3 Try.results52 _ _ (w.heap.size + 1 + 1) 43 #[.int .i64 ra, .int .i64 rb, .slice A3 rd.length c3] (0, 0) _ (.bool true) (.int .i64 0) rfl rfl rfl (setRow_heap _ _ _ _ _ _ HZf.out) Try.underlying43 rfl (by kernel_rfl)) rfl ?_
          refine ⟨HTf.out.b.setRow (by omega) _, ?_⟩
          rw [HR.out, if_neg (by simp)]
          refine ⟨(1, s2), ((ra, rb), rd, re), A3, c3, ?_, ?_, SrvAt.setRow (g := w.heap.size + 1 + 1) HTf.out.v (by have := HLT.out; omega) _, rfl, own_setRow HOf.out HNf.out _⟩
          · simp only [HNB.out, HWD.out]
            exact HS.out
          · exact HSAY.out.trans HRR.out
        · rw [if_pos (by rfl)]
          unfold Oper.wp
          go_simp
          refine hK.out _ _ (by exact inferInstance) (fun hHeld => ?_)
          clear hK K
          try simp only [List.getElem_toArray, List.getElem_cons_succ, List.getElem_cons_zero, Act.put, List.setIfInBounds_toArray, List.set_cons_zero, List.set_cons_succ]
          refine wpAnyH_ready (rs := [8]) (by kernel_rfl) (by simp) ?_
          refine AllReadyH.cons rfl (fun K hK => ?_) AllReadyH.nil
          refine step_call_w (by rfl) Try.func60 (by kernel_rfl) (by kernel_rfl) #[.tmp 61, .tmp 66, .tmp 67] #[3, 4, 9] rfl #[.int .i64 id, .bool true, .string bWelcome] ?hv (answer_any id true bWelcome (by decide) _) ?_
          case hv => go_simp
          rintro e w3 ⟨A3, c3, rfl, ho3, hb3⟩
          refine ⟨_, rfl, ?_⟩
          rw [HRR.out] at ho3 ⊢
          simp only at ho3 ⊢
          have S3 : Step w3 (y.drew.alloc zPk) := ⟨hb3⟩
          have X3 : Ext y w3 := Ext.trans_ (inferInstance : Ext y (y.drew.alloc zPk)) (inferInstance : Ext (y.drew.alloc zPk) w3)
          have HO3 := Lib.hid ho3
          have HZ3 : Hid (w3.heap[y.heap.size]? = some zPk) := at_ext (w := y.drew.alloc zPk) (at_new y.drew zPk)
          clear hb3 ho3 hHeld
          refine hK.out _ _ (by exact inferInstance) (fun hHeld => ?_)
          clear hK K
          simp only [List.getElem_toArray, List.getElem_cons_succ, List.getElem_cons_zero, Act.put, List.setIfInBounds_toArray, List.set_cons_zero, List.set_cons_succ]
          refine wpAnyH_take (i := 9) (v := ?_) rfl (by kernel_rfl) (by kernel_rfl) (by kernel_rfl) (fun _ _ _ h => h) (Yields.yieldsIf (Or.inl ⟨by rfl, ?_⟩)) hHeld ?_
          rotate_left
          · intro W
            go_simp
            try with_reducible rfl
          simp only [List.getElem_toArray, List.getElem_cons_succ, List.getElem_cons_zero, Act.put, List.setIfInBounds_toArray, List.set_cons_zero, List.set_cons_succ]
          refine wpAnyH_take (i := 10) (v := ?_) rfl (by kernel_rfl) (by kernel_rfl) (by kernel_rfl) (fun _ _ _ h => h) (Yields.yieldsIf (Or.inl ⟨by rfl, ?_⟩)) hHeld ?_
          rotate_left
          · intro W
            go_simp
            try with_reducible rfl
          simp only [List.getElem_toArray, List.getElem_cons_succ, List.getElem_cons_zero, Act.put, List.setIfInBounds_toArray, List.set_cons_zero, List.set_cons_succ]
          refine wpAnyH_take (i := 11) (v := ?_) rfl (by kernel_rfl) (by kernel_rfl) (by kernel_rfl) (fun _ _ _ h => h) (Yields.yieldsIf (Or.inl ⟨by rfl, ?_⟩)) hHeld ?_
          rotate_left
          · intro W
            go_simp
            try with_reducible rfl
          simp only [List.getElem_toArray, List.getElem_cons_succ, List.getElem_cons_zero, Act.put, List.setIfInBounds_toArray, List.set_cons_zero, List.set_cons_succ]
          refine wpAnyH_ready (rs := [13]) (by kernel_rfl) (by simp) ?_
          refine AllReadyH.cons rfl (fun K hK => ?_) AllReadyH.nil
          refine step_store_row (by rfl) 43 (.tmp 12) (.tmp 69) rfl y.heap.size #[.int .i64 ra, .int .i64 rb, .slice A3 rd.length c3] rfl rfl 43 #[.int .i64 0, .int .i64 0, .slice none 0 0] HZ3.out (by kernel_rfl) rfl (by simp [Value.oneCell']) ?_
          clear hHeld
          refine hK.out _ _ (Ext.setRow_ X3 (Nat.le_refl _) _) (fun hHeld => ?_)
          clear hK K
          simp only [List.getElem_toArray, List.getElem_cons_succ, List.getElem_cons_zero, Act.put, List.setIfInBounds_toArray, List.set_cons_zero, List.set_cons_succ]
          refine wpAnyH_take (i := 14) (v := ?_) rfl (by kernel_rfl) (by kernel_rfl) (by kernel_rfl) (fun _ _ _ h => h) (Yields.yieldsIf (Or.inl ⟨by rfl, ?_⟩)) hHeld ?_
          rotate_left
          · intro W
            go_simp
            try with_reducible rfl
          simp only [List.getElem_toArray, List.getElem_cons_succ, List.getElem_cons_zero, Act.put, List.setIfInBounds_toArray, List.set_cons_zero, List.set_cons_succ]
          refine wpAnyH_done (by kernel_rfl) ?_ _
          clear hHeld
          have hne3 : (Value.slice A3 rd.length c3).ownBlock ≠ some y.heap.size := fun e => by
            have h1 := own_base HO3.out _ e
            simp at h1
            omega
          have hof : (w3.setRow y.heap.size #[.int .i64 ra, .int .i64 rb, .slice A3 rd.length c3]).ownsRow w.heap.size 5 1 (.slice A3 rd.length c3) rd.length (nums .u8 rd) := own_weaken (own_setRow HO3.out hne3 _) (Nat.le_trans Hy.out (by simp))
          obtain ⟨wf, hwf⟩ : ∃ wf, w3.setRow y.heap.size #[.int .i64 ra, .int .i64 rb, .slice A3 rd.length c3] = wf := ⟨_, rfl⟩
          obtain ⟨bf, hbf⟩ : ∃ bf, y.heap.size = bf := ⟨_, rfl⟩
          have Xf : Ext y wf := by rw [← hwf]; exact Ext.setRow_ X3 (Nat.le_refl _) _
          have hbb : wf.heap[bf]? = some (.cells #[.int .i64 ra, .int .i64 rb, .slice A3 rd.length c3] 43 (0, 0)) := by rw [← hwf, ← hbf]; exact setRow_heap _ _ _ _ _ _ HZ3.out
          have hn2 : (Value.slice A3 rd.length c3).ownBlock ≠ some (w.heap.size + 1 + 1) := fun e => by
            have h1 := own_base HO3.out _ e
            have h2 := HLy.out
            simp at h1
            omega
          rw [hwf] at hof ⊢
          rw [hbf]
          clear hwf hbf
          have HBf : Hid (wf.heap[bf]? = some (.cells #[.int .i64 ra, .int .i64 rb, .slice A3 rd.length c3] 43 (0, 0))) := hbb
          have HOf : Hid (wf.ownsRow w.heap.size 5 1 (.slice A3 rd.length c3) rd.length (nums .u8 rd)) := hof
          have HEf : Hid (Ext y wf) := Xf
          have HNf : Hid ((Value.slice A3 rd.length c3).ownBlock ≠ some (w.heap.size + 1 + 1)) := hn2
          have HTf := Lib.hid (HT.out.ext HEf.out)
          have HZf : Hid (wf.heap[w.heap.size + 1 + 1]? = some zPk) := HTf.out.r
          go_wp2_with
            (first
             | (refine wpList_load_row rfl 43 (.tmp 12) rfl bf rfl 43 #[.int .i64 ra, .int .i64 rb, .slice A3 rd.length c3] (0, 0) _ HBf.out Try.underlying43 rfl (by kernel_rfl) ?_)
             | (refine wpList_store_row rfl 43 (.tmp 4) (.tmp 71) rfl (w.heap.size + 1 + 1) #[.int .i64 ra, .int .i64 rb, .slice A3 rd.length c3] rfl rfl 43 #[.int .i64 0, .int .i64 0, .slice none 0 0] HZf.out (by kernel_rfl) rfl (by simp [Value.oneCell']) ?_))
          refine bodyPost_ret (results_cell_row3 Try.results52 _ _ (w.heap.size + 1 + 1) 43 #[.int .i64 ra, .int .i64 rb, .slice A3 rd.length c3] (0, 0) _ (.bool true) (.int .i64 0) rfl rfl rfl (setRow_heap _ _ _ _ _ _ HZf.out) Try.underlying43 rfl (by kernel_rfl)) rfl ?_
          refine ⟨HTf.out.b.setRow (by omega) _, ?_⟩
          rw [HR.out, if_neg (by simp)]
          refine ⟨(1, s2), ((ra, rb), rd, re), A3, c3, ?_, ?_, SrvAt.setRow (g := w.heap.size + 1 + 1) HTf.out.v (by have := HLT.out; omega) _, rfl, own_setRow HOf.out HNf.out _⟩
          · simp only [HNB.out, HWD.out]
            exact HS.out
          · exact HSAY.out.trans HRR.out
      · have hs1 : (s1 == 1) = false := by simpa using h1
        have HSAY : Hid (ansF id (s1 == 1) (strB (sayB s1)) = ansF id false (strB bRefused)) := by unfold Hid sayB; rw [hs1, if_neg h1]
        have q2 := HT.out.v.p2
        go_upto_region 14 with fail
        obtain ⟨⟨⟨ra, rb⟩, rd, re⟩, hrr⟩ : ∃ a, ansF id false (strB bRefused) = a := ⟨_, rfl⟩
        have HRR := Lib.hid hrr
        clear hrr
        refine wp_region_held_drew (S := fun W => Ext y W) (by kernel_rfl) (by exact inferInstance) (fun hHeld => ?_)
        refine wpAnyH_take (i := 0) (v := ?_) rfl (by kernel_rfl) (by kernel_rfl) (by kernel_rfl) (fun _ _ _ h => h) (Yields.yieldsIf (Or.inl ⟨by rfl, ?_⟩)) hHeld ?_
        rotate_left
        · intro W
          go_simp
          try with_reducible rfl
        simp only [List.getElem_toArray, List.getElem_cons_succ, List.getElem_cons_zero, Act.put, List.setIfInBounds_toArray, List.set_cons_zero, List.set_cons_succ]
        refine wpAnyH_take (i := 1) (v := ?_) rfl (by kernel_rfl) (by kernel_rfl) (by kernel_rfl) (fun _ _ _ h => h) (Or.inl ⟨by rfl, ?_⟩) hHeld ?_
        rotate_left
        · intro W hW
          have hcl := (cell_ext (h := hW) q1)
          go_simp
          try with_reducible rfl
        simp only [List.getElem_toArray, List.getElem_cons_succ, List.getElem_cons_zero, Act.put, List.setIfInBounds_toArray, List.set_cons_zero, List.set_cons_succ]
        refine wpAnyH_take (i := 2) (v := ?_) rfl (by kernel_rfl) (by kernel_rfl) (by kernel_rfl) (fun _ _ _ h => h) (Or.inl ⟨by rfl, ?_⟩) hHeld ?_
        rotate_left
        · intro W hW
          have hcl := (cell_ext (h := hW) q0)
          go_simp
          try with_reducible rfl
        simp only [List.getElem_toArray, List.getElem_cons_succ, List.getElem_cons_zero, Act.put, List.setIfInBounds_toArray, List.set_cons_zero, List.set_cons_succ]
        refine wpAnyH_take (i := 3) (v := ?_) rfl (by kernel_rfl) (by kernel_rfl) (by kernel_rfl) (fun _ _ _ h => h) (Yields.yieldsIf (Or.inl ⟨by rfl, ?_⟩)) hHeld ?_
        rotate_left
        · intro W
          go_simp
          try with_reducible rfl
        simp only [List.getElem_toArray, List.getElem_cons_succ, List.getElem_cons_zero, Act.put, List.setIfInBounds_toArray, List.set_cons_zero, List.set_cons_succ]
        refine wpAnyH_take (i := 4) (v := ?_) rfl (by kernel_rfl) (by kernel_rfl) (by kernel_rfl) (fun _ _ _ h => h) (Yields.yieldsIf (Or.inl ⟨by rfl, ?_⟩)) hHeld ?_
        rotate_left
        · intro W
          go_simp
          try with_reducible rfl
        simp only [List.getElem_toArray, List.getElem_cons_succ, List.getElem_cons_zero, Act.put, List.setIfInBounds_toArray, List.set_cons_zero, List.set_cons_succ]
        refine wpAnyH_take (i := 5) (v := ?_) rfl (by kernel_rfl) (by kernel_rfl) (by kernel_rfl) (fun _ _ _ h => h) (Or.inl ⟨by rfl, ?_⟩) hHeld ?_
        rotate_left
        · intro W hW
          have hcl := (cell_ext (h := hW) q2)
          go_simp
          try with_reducible rfl
        simp only [List.getElem_toArray, List.getElem_cons_succ, List.getElem_cons_zero, Act.put, List.setIfInBounds_toArray, List.set_cons_zero, List.set_cons_succ]
        refine wpAnyH_take (i := 6) (v := ?_) rfl (by kernel_rfl) (by kernel_rfl) (by kernel_rfl) (fun _ _ _ h => h) (Yields.yieldsIf (Or.inl ⟨by rfl, ?_⟩)) hHeld ?_
        rotate_left
        · intro W
          go_simp
          try with_reducible rfl
        simp only [List.getElem_toArray, List.getElem_cons_succ, List.getElem_cons_zero, Act.put, List.setIfInBounds_toArray, List.set_cons_zero, List.set_cons_succ]
        refine wpAnyH_take (i := 7) (v := ?_) rfl (by kernel_rfl) (by kernel_rfl) (by kernel_rfl) (fun _ _ _ h => h) (Yields.yieldsIf (Or.inl ⟨by rfl, ?_⟩)) hHeld ?_
        rotate_left
        · intro W
          go_simp
          try with_reducible rfl
        simp only [List.getElem_toArray, List.getElem_cons_succ, List.getElem_cons_zero, Act.put, List.setIfInBounds_toArray, List.set_cons_zero, List.set_cons_succ]
        refine wpAnyH_ready (rs := [8, 12]) (by kernel_rfl) (by simp) ?_
        refine AllReadyH.cons rfl (fun K hK => ?_) (AllReadyH.cons rfl (fun K hK => ?_) AllReadyH.nil)
        · refine step_call_w (by rfl) Try.func60 (by kernel_rfl) (by kernel_rfl) #[.tmp 61, .tmp 66, .tmp 67] #[3, 4, 9] rfl #[.int .i64 id, .bool false, .string bRefused] ?hv (answer_any id false bRefused (by decide) _) ?_
          case hv => go_simp
          rintro e w3 ⟨A3, c3, rfl, ho3, hb3⟩
          refine ⟨_, rfl, ?_⟩
          rw [HRR.out] at ho3 ⊢
          simp only at ho3 ⊢
          have S3 : Step w3 y.drew := ⟨hb3⟩
          have X3 : Ext y w3 := inferInstance
          have HO3 := Lib.hid ho3
          clear hb3 ho3 hHeld
          refine hK.out _ _ (by exact inferInstance) (fun hHeld => ?_)
          clear hK K
          simp only [List.getElem_toArray, List.getElem_cons_succ, List.getElem_cons_zero, Act.put, List.setIfInBounds_toArray, List.set_cons_zero, List.set_cons_succ]
          refine wpAnyH_take (i := 9) (v := ?_) rfl (by kernel_rfl) (by kernel_rfl) (by kernel_rfl) (fun _ _ _ h => h) (Yields.yieldsIf (Or.inl ⟨by rfl, ?_⟩)) hHeld ?_
          rotate_left
          · intro W
            go_simp
            try with_reducible rfl
          simp only [List.getElem_toArray, List.getElem_cons_succ, List.getElem_cons_zero, Act.put, List.setIfInBounds_toArray, List.set_cons_zero, List.set_cons_succ]
          refine wpAnyH_take (i := 10) (v := ?_) rfl (by kernel_rfl) (by kernel_rfl) (by kernel_rfl) (fun _ _ _ h => h) (Yields.yieldsIf (Or.inl ⟨by rfl, ?_⟩)) hHeld ?_
          rotate_left
          · intro W
            go_simp
            try with_reducible rfl
          simp only [List.getElem_toArray, List.getElem_cons_succ, List.getElem_cons_zero, Act.put, List.setIfInBounds_toArray, List.set_cons_zero, List.set_cons_succ]
          refine wpAnyH_take (i := 11) (v := ?_) rfl (by kernel_rfl) (by kernel_rfl) (by kernel_rfl) (fun _ _ _ h => h) (Yields.yieldsIf (Or.inl ⟨by rfl, ?_⟩)) hHeld ?_
          rotate_left
          · intro W
            go_simp
            try with_reducible rfl
          simp only [List.getElem_toArray, List.getElem_cons_succ, List.getElem_cons_zero, Act.put, List.setIfInBounds_toArray, List.set_cons_zero, List.set_cons_succ]
          refine wpAnyH_ready (rs := [12]) (by kernel_rfl) (by simp) ?_
          refine AllReadyH.cons rfl (fun K hK => ?_) AllReadyH.nil
          rw [if_pos (by rfl)]
          unfold Oper.wp
          go_simp
          clear hHeld
          refine hK.out _ _ (by exact inferInstance) (fun hHeld => ?_)
          clear hK K
          try simp only [List.getElem_toArray, List.getElem_cons_succ, List.getElem_cons_zero, Act.put, List.setIfInBounds_toArray, List.set_cons_zero, List.set_cons_succ]
          refine wpAnyH_ready (rs := [13]) (by kernel_rfl) (by simp) ?_
          refine AllReadyH.cons rfl (fun K hK => ?_) AllReadyH.nil
          refine step_store_row (by rfl) 43 (.tmp 12) (.tmp 69) rfl w3.heap.size #[.int .i64 ra, .int .i64 rb, .slice A3 rd.length c3] rfl rfl 43 #[.int .i64 0, .int .i64 0, .slice none 0 0] (at_new w3 zPk) (by kernel_rfl) rfl (by simp [Value.oneCell']) ?_
          clear hHeld
          refine hK.out _ _ (Ext.setRow_ (inferInstance : Ext y (w3.alloc zPk)) X3.out.size _) (fun hHeld => ?_)
          clear hK K
          simp only [List.getElem_toArray, List.getElem_cons_succ, List.getElem_cons_zero, Act.put, List.setIfInBounds_toArray, List.set_cons_zero, List.set_cons_succ]
          refine wpAnyH_take (i := 14) (v := ?_) rfl (by kernel_rfl) (by kernel_rfl) (by kernel_rfl) (fun _ _ _ h => h) (Yields.yieldsIf (Or.inl ⟨by rfl, ?_⟩)) hHeld ?_
          rotate_left
          · intro W
            go_simp
            try with_reducible rfl
          simp only [List.getElem_toArray, List.getElem_cons_succ, List.getElem_cons_zero, Act.put, List.setIfInBounds_toArray, List.set_cons_zero, List.set_cons_succ]
          refine wpAnyH_done (by kernel_rfl) ?_ _
          clear hHeld
          obtain ⟨wf, hwf⟩ : ∃ wf, (w3.alloc zPk).setRow w3.heap.size #[.int .i64 ra, .int .i64 rb, .slice A3 rd.length c3] = wf := ⟨_, rfl⟩
          obtain ⟨bf, hbf⟩ : ∃ bf, w3.heap.size = bf := ⟨_, rfl⟩
          have hal : wf = w3.alloc (.cells #[.int .i64 ra, .int .i64 rb, .slice A3 rd.length c3] 43) := hwf.symm.trans (World.setRow_alloc_new w3 _ _ _)
          have Xf : Ext y wf := by rw [hal]; exact inferInstance
          have X3f : Ext w3 wf := by rw [hal]; exact inferInstance
          have hbb : wf.heap[bf]? = some (.cells #[.int .i64 ra, .int .i64 rb, .slice A3 rd.length c3] 43 (0, 0)) := by rw [hal, ← hbf]; exact at_new w3 _
          rw [hwf, hbf]
          clear hal hwf hbf
          have HBf : Hid (wf.heap[bf]? = some (.cells #[.int .i64 ra, .int .i64 rb, .slice A3 rd.length c3] 43 (0, 0))) := hbb
          have HOf : Hid (wf.ownsRow w.heap.size 5 1 (.slice A3 rd.length c3) rd.length (nums .u8 rd)) := (own_weaken (own_ext HO3.out) (Nat.le_trans Hy.out (by simp)))
          have HEf : Hid (Ext y wf) := Xf
          have HNf : Hid ((Value.slice A3 rd.length c3).ownBlock ≠ some (w.heap.size + 1 + 1)) := (fun e => by have h1 := own_base HO3.out _ e; have h2 := HLy.out; simp at h1; omega)
          have HTf := Lib.hid (HT.out.ext HEf.out)
          have HZf : Hid (wf.heap[w.heap.size + 1 + 1]? = some zPk) := HTf.out.r
          go_wp2_with
            (first
             | (refine wpList_load_row rfl 43 (.tmp 12) rfl bf rfl 43 #[.int .i64 ra, .int .i64 rb, .slice A3 rd.length c3] (0, 0) _ HBf.out Try.underlying43 rfl (by kernel_rfl) ?_)
             | (refine wpList_store_row rfl 43 (.tmp 4) (.tmp 71) rfl (w.heap.size + 1 + 1) #[.int .i64 ra, .int .i64 rb, .slice A3 rd.length c3] rfl rfl 43 #[.int .i64 0, .int .i64 0, .slice none 0 0] HZf.out (by kernel_rfl) rfl (by simp [Value.oneCell']) ?_))
          refine bodyPost_ret (results_cell_row3 Try.results52 _ _ (w.heap.size + 1 + 1) 43 #[.int .i64 ra, .int .i64 rb, .slice A3 rd.length c3] (0, 0) _ (.bool true) (.int .i64 0) rfl rfl rfl (setRow_heap _ _ _ _ _ _ HZf.out) Try.underlying43 rfl (by kernel_rfl)) rfl ?_
          refine ⟨HTf.out.b.setRow (by omega) _, ?_⟩
          rw [HR.out, if_neg (by simp)]
          refine ⟨(s1, s2), ((ra, rb), rd, re), A3, c3, ?_, ?_, SrvAt.setRow (g := w.heap.size + 1 + 1) HTf.out.v (by have := HLT.out; omega) _, rfl, own_setRow HOf.out HNf.out _⟩
          · simp only [HNB.out, HWD.out]
            exact HS.out
          · exact HSAY.out.trans HRR.out
        · rw [if_pos (by rfl)]
          unfold Oper.wp
          go_simp
          refine hK.out _ _ (by exact inferInstance) (fun hHeld => ?_)
          clear hK K
          try simp only [List.getElem_toArray, List.getElem_cons_succ, List.getElem_cons_zero, Act.put, List.setIfInBounds_toArray, List.set_cons_zero, List.set_cons_succ]
          refine wpAnyH_ready (rs := [8]) (by kernel_rfl) (by simp) ?_
          refine AllReadyH.cons rfl (fun K hK => ?_) AllReadyH.nil
          refine step_call_w (by rfl) Try.func60 (by kernel_rfl) (by kernel_rfl) #[.tmp 61, .tmp 66, .tmp 67] #[3, 4, 9] rfl #[.int .i64 id, .bool false, .string bRefused] ?hv (answer_any id false bRefused (by decide) _) ?_
          case hv => go_simp
          rintro e w3 ⟨A3, c3, rfl, ho3, hb3⟩
          refine ⟨_, rfl, ?_⟩
          rw [HRR.out] at ho3 ⊢
          simp only at ho3 ⊢
          have S3 : Step w3 (y.drew.alloc zPk) := ⟨hb3⟩
          have X3 : Ext y w3 := Ext.trans_ (inferInstance : Ext y (y.drew.alloc zPk)) (inferInstance : Ext (y.drew.alloc zPk) w3)
          have HO3 := Lib.hid ho3
          have HZ3 : Hid (w3.heap[y.heap.size]? = some zPk) := at_ext (w := y.drew.alloc zPk) (at_new y.drew zPk)
          clear hb3 ho3 hHeld
          refine hK.out _ _ (by exact inferInstance) (fun hHeld => ?_)
          clear hK K
          simp only [List.getElem_toArray, List.getElem_cons_succ, List.getElem_cons_zero, Act.put, List.setIfInBounds_toArray, List.set_cons_zero, List.set_cons_succ]
          refine wpAnyH_take (i := 9) (v := ?_) rfl (by kernel_rfl) (by kernel_rfl) (by kernel_rfl) (fun _ _ _ h => h) (Yields.yieldsIf (Or.inl ⟨by rfl, ?_⟩)) hHeld ?_
          rotate_left
          · intro W
            go_simp
            try with_reducible rfl
          simp only [List.getElem_toArray, List.getElem_cons_succ, List.getElem_cons_zero, Act.put, List.setIfInBounds_toArray, List.set_cons_zero, List.set_cons_succ]
          refine wpAnyH_take (i := 10) (v := ?_) rfl (by kernel_rfl) (by kernel_rfl) (by kernel_rfl) (fun _ _ _ h => h) (Yields.yieldsIf (Or.inl ⟨by rfl, ?_⟩)) hHeld ?_
          rotate_left
          · intro W
            go_simp
            try with_reducible rfl
          simp only [List.getElem_toArray, List.getElem_cons_succ, List.getElem_cons_zero, Act.put, List.setIfInBounds_toArray, List.set_cons_zero, List.set_cons_succ]
          refine wpAnyH_take (i := 11) (v := ?_) rfl (by kernel_rfl) (by kernel_rfl) (by kernel_rfl) (fun _ _ _ h => h) (Yields.yieldsIf (Or.inl ⟨by rfl, ?_⟩)) hHeld ?_
          rotate_left
          · intro W
            go_simp
            try with_reducible rfl
          simp only [List.getElem_toArray, List.getElem_cons_succ, List.getElem_cons_zero, Act.put, List.setIfInBounds_toArray, List.set_cons_zero, List.set_cons_succ]
          refine wpAnyH_ready (rs := [13]) (by kernel_rfl) (by simp) ?_
          refine AllReadyH.cons rfl (fun K hK => ?_) AllReadyH.nil
          refine step_store_row (by rfl) 43 (.tmp 12) (.tmp 69) rfl y.heap.size #[.int .i64 ra, .int .i64 rb, .slice A3 rd.length c3] rfl rfl 43 #[.int .i64 0, .int .i64 0, .slice none 0 0] HZ3.out (by kernel_rfl) rfl (by simp [Value.oneCell']) ?_
          clear hHeld
          refine hK.out _ _ (Ext.setRow_ X3 (Nat.le_refl _) _) (fun hHeld => ?_)
          clear hK K
          simp only [List.getElem_toArray, List.getElem_cons_succ, List.getElem_cons_zero, Act.put, List.setIfInBounds_toArray, List.set_cons_zero, List.set_cons_succ]
          refine wpAnyH_take (i := 14) (v := ?_) rfl (by kernel_rfl) (by kernel_rfl) (by kernel_rfl) (fun _ _ _ h => h) (Yields.yieldsIf (Or.inl ⟨by rfl, ?_⟩)) hHeld ?_
          rotate_left
          · intro W
            go_simp
            try with_reducible rfl
          simp only [List.getElem_toArray, List.getElem_cons_succ, List.getElem_cons_zero, Act.put, List.setIfInBounds_toArray, List.set_cons_zero, List.set_cons_succ]
          refine wpAnyH_done (by kernel_rfl) ?_ _
          clear hHeld
          have hne3 : (Value.slice A3 rd.length c3).ownBlock ≠ some y.heap.size := fun e => by
            have h1 := own_base HO3.out _ e
            simp at h1
            omega
          have hof : (w3.setRow y.heap.size #[.int .i64 ra, .int .i64 rb, .slice A3 rd.length c3]).ownsRow w.heap.size 5 1 (.slice A3 rd.length c3) rd.length (nums .u8 rd) := own_weaken (own_setRow HO3.out hne3 _) (Nat.le_trans Hy.out (by simp))
          obtain ⟨wf, hwf⟩ : ∃ wf, w3.setRow y.heap.size #[.int .i64 ra, .int .i64 rb, .slice A3 rd.length c3] = wf := ⟨_, rfl⟩
          obtain ⟨bf, hbf⟩ : ∃ bf, y.heap.size = bf := ⟨_, rfl⟩
          have Xf : Ext y wf := by rw [← hwf]; exact Ext.setRow_ X3 (Nat.le_refl _) _
          have hbb : wf.heap[bf]? = some (.cells #[.int .i64 ra, .int .i64 rb, .slice A3 rd.length c3] 43 (0, 0)) := by rw [← hwf, ← hbf]; exact setRow_heap _ _ _ _ _ _ HZ3.out
          have hn2 : (Value.slice A3 rd.length c3).ownBlock ≠ some (w.heap.size + 1 + 1) := fun e => by
            have h1 := own_base HO3.out _ e
            have h2 := HLy.out
            simp at h1
            omega
          rw [hwf] at hof ⊢
          rw [hbf]
          clear hwf hbf
          have HBf : Hid (wf.heap[bf]? = some (.cells #[.int .i64 ra, .int .i64 rb, .slice A3 rd.length c3] 43 (0, 0))) := hbb
          have HOf : Hid (wf.ownsRow w.heap.size 5 1 (.slice A3 rd.length c3) rd.length (nums .u8 rd)) := hof
          have HEf : Hid (Ext y wf) := Xf
          have HNf : Hid ((Value.slice A3 rd.length c3).ownBlock ≠ some (w.heap.size + 1 + 1)) := hn2
          have HTf := Lib.hid (HT.out.ext HEf.out)
          have HZf : Hid (wf.heap[w.heap.size + 1 + 1]? = some zPk) := HTf.out.r
          go_wp2_with
            (first
             | (refine wpList_load_row rfl 43 (.tmp 12) rfl bf rfl 43 #[.int .i64 ra, .int .i64 rb, .slice A3 rd.length c3] (0, 0) _ HBf.out Try.underlying43 rfl (by kernel_rfl) ?_)
             | (refine wpList_store_row rfl 43 (.tmp 4) (.tmp 71) rfl (w.heap.size + 1 + 1) #[.int .i64 ra, .int .i64 rb, .slice A3 rd.length c3] rfl rfl 43 #[.int .i64 0, .int .i64 0, .slice none 0 0] HZf.out (by kernel_rfl) rfl (by simp [Value.oneCell']) ?_))
          refine bodyPost_ret (results_cell_row3 Try.results52 _ _ (w.heap.size + 1 + 1) 43 #[.int .i64 ra, .int .i64 rb, .slice A3 rd.length c3] (0, 0) _ (.bool true) (.int .i64 0) rfl rfl rfl (setRow_heap _ _ _ _ _ _ HZf.out) Try.underlying43 rfl (by kernel_rfl)) rfl ?_
          refine ⟨HTf.out.b.setRow (by omega) _, ?_⟩
          rw [HR.out, if_neg (by simp)]
          refine ⟨(s1, s2), ((ra, rb), rd, re), A3, c3, ?_, ?_, SrvAt.setRow (g := w.heap.size + 1 + 1) HTf.out.v (by have := HLT.out; omega) _, rfl, own_setRow HOf.out HNf.out _⟩
          · simp only [HNB.out, HWD.out]
            exact HS.out
          · exact HSAY.out.trans HRR.out
  · have hrb : (r != 0) = true := by simpa using hr0
    have HZ := Lib.hid HTK.out.r
    go_wp2_with
      (refine wpList_store_row rfl 43 (.tmp 4) (.tmp 25) rfl (w.heap.size + 1 + 1) #[.int .i64 0, .int .i64 0, .slice none 0 0] rfl rfl 43 #[.int .i64 0, .int .i64 0, .slice none 0 0] HZ.out (by kernel_rfl) rfl (by simp [Value.oneCell']) ?_)
    refine bodyPost_ret (results_cell_row3 Try.results52 _ _ (w.heap.size + 1 + 1) 43 #[.int .i64 0, .int .i64 0, .slice none 0 0] (0, 0) _ (.bool false) (.int .i64 r) rfl rfl rfl (setRow_heap _ _ _ _ _ _ HZ.out) Try.underlying43 rfl (by kernel_rfl)) rfl ?_
    refine ⟨HTK.out.b.setRow (by omega) _, ?_⟩
    rw [HR.out, if_pos hr0]
    exact ⟨HTK.out.v.setRow (by have := HLT.out; omega) _, rfl⟩
end Go.Proofs.Ytodibldfolognaa
