/-
  Peers of pap and of its reference: NewPeer, State, Message, Reset; ref06.Name. Conditions: sizes.
-/
import Derived.Test.YtodibldfolognaaPpT
import Derived.Test.YtodibldfolognaaPpO
namespace Go.Proofs.Ytodibldfolognaa
open Go.RowKit
set_option linter.unusedVariables false
set_option linter.unusedSimpArgs false

set_option maxHeartbeats 4000000 in
theorem rname_any (s : ByteArray) (hs : s.size ≤ 140737488355328) (w : World) : Calls Try.prog 99 #[.string s] w fun e w' => e = .returned (.bool (nameF (strB s))) ∧ w = w' := by
  have HL := Lib.hid (strB_len s)
  have HB := Lib.hid (strB_byt s)
  by_cases l1 : s.toList = []
  · have HF : Hid (nameF (strB s) = false) := by
      unfold Hid nameF
      rw [show strB s = [] by unfold strB; rw [← Lib.toList_data, l1]; rfl]
      rfl
    go_enter Try.func99, Try.ntmps99
    go_wp2
    go_ret
    exact ⟨ret_bool HF.out.symm, rfl⟩
  have HN1 : Hid (1 ≤ s.size) := by
    unfold Hid
    rw [← strB_len]
    rcases Nat.eq_zero_or_pos (strB s).length with h | h
    · exact absurd (by rw [Lib.toList_data]; exact List.map_eq_nil_iff.1 (List.eq_nil_of_length_eq_zero h)) l1
    · exact h
  have l1b : (s.toList == []) = false := by simpa using l1
  by_cases l2 : 64 < s.size
  · have HF : Hid (nameF (strB s) = false) := by unfold Hid nameF; rw [decide_eq_false (by rw [strB_len]; omega)]; rfl
    have l2I : 64 < (s.size : Int) := by omega
    go_enter Try.func99, Try.ntmps99
    go_wp2
    go_ret
    exact ⟨ret_bool HF.out.symm, rfl⟩
  have HNF : Hid (nameF (strB s) = (strB s).all okN) := by unfold Hid nameF; rw [decide_eq_true (by have := HN1.out; rw [HL.out]; omega)]; rfl
  have l2I : ¬ 64 < (s.size : Int) := by omega
  go_enter Try.func99, Try.ntmps99
  go_wp2
  go_loopw [13] (fun i wr => ∃ k : Nat, i = .int .i64 k ∧ k ≤ s.size ∧ Hid (((strB s).take k).all okN = true) ∧ w = wr) (fun i _ => s.size - (intOf i).toNat)
  case atStart => exact ⟨0, rfl, by omega, rfl, rfl⟩
  case round =>
    obtain ⟨k, rfl, hk, HA, rfl⟩ := hrel
    by_cases hlt : k < s.size
    · have hI : (k : Int) < (s.size : Int) := by omega
      have HLT := Lib.hid (show k < (strB s).length by rw [HL.out]; exact hlt)
      have HX : Hid ((strB s).getD k 0 = ((s[k]'hlt).toNat : Int)) := by
        unfold Hid strB
        rw [List.getD_eq_getElem?_getD, List.getElem?_map]
        have h2 : k < s.data.toList.length := by rw [Array.length_toList]; exact hlt
        rw [List.getElem?_eq_getElem h2]
        rfl
      by_cases p1 : ((s[k]'hlt).toNat : Int) < 32
      · skip
        have HF : Hid (nameF (strB s) = false) := HNF.out.trans (all_not HLT.out (by rw [HX.out]; unfold okN; exact decide_eq_false (by omega)))
        go_wp2
        go_ret
        exact ⟨ret_bool HF.out.symm, rfl⟩
      by_cases p2 : 126 < ((s[k]'hlt).toNat : Int)
      · skip
        have HF : Hid (nameF (strB s) = false) := HNF.out.trans (all_not HLT.out (by rw [HX.out]; unfold okN; exact decide_eq_false (by omega)))
        go_wp2
        go_ret
        exact ⟨ret_bool HF.out.symm, rfl⟩
      by_cases p3 : ((s[k]'hlt).toNat : Int) = 34
      · skip
        have HF : Hid (nameF (strB s) = false) := HNF.out.trans (all_not HLT.out (by rw [HX.out]; unfold okN; exact decide_eq_false (by omega)))
        go_wp2
        go_ret
        exact ⟨ret_bool HF.out.symm, rfl⟩
      by_cases p4 : ((s[k]'hlt).toNat : Int) = 92
      · have p3' : (((s[k]'hlt).toNat : Int) == 34) = false := by simpa using p3
        have HF : Hid (nameF (strB s) = false) := HNF.out.trans (all_not HLT.out (by rw [HX.out]; unfold okN; exact decide_eq_false (by omega)))
        go_wp2
        go_ret
        exact ⟨ret_bool HF.out.symm, rfl⟩
      have p3' : (((s[k]'hlt).toNat : Int) == 34) = false := by simpa using p3
      have p4' : (((s[k]'hlt).toNat : Int) == 92) = false := by simpa using p4
      have HA2 := Lib.hid (all_take_succ HA.out HLT.out (by rw [HX.out]; unfold okN; exact decide_eq_true (by omega)))
      go_wp2
      go_roundw
      case rel => exact ⟨k + 1, by go_num, by omega, HA2.out, trivial⟩
      case measure => simp [intOf]; omega
    · obtain rfl : k = s.size := by omega
      have HF : Hid (nameF (strB s) = true) := by
        have h1 := HA.out
        rw [List.take_of_length_le (by rw [HL.out]; exact Nat.le_refl _)] at h1
        exact HNF.out.trans h1
      go_wp2
      go_ret
      exact ⟨ret_bool HF.out.symm, rfl⟩
/-- A peer, at block B. -/
def PeerAt (ty : TypeId) (w : World) (B : Nat) (nm wd : ByteArray) (tr sn id st : Int) (ms : ByteArray) : Prop :=
  w.heap[B]? = some (.cells #[.string nm, .string wd, .int .i64 tr, .int .i64 sn, .int .i64 id, .int .i64 st, .string ms] ty (0, 0))
def npF (nm wd : ByteArray) (tr : Int) : Int := if nameF (strB nm) = false then 60 else if nameF (strB wd) = false then 52 else if tr < 1 ∨ 255 < tr then 1 else 0
def NPTells (ty : TypeId) (nm wd : ByteArray) (tr : Int) (w : World) (e : Ending) (w' : World) : Prop :=
  Below w.heap.size w w' ∧ if npF nm wd tr ≠ 0 then e = .returned (.tuple #[.pointer none, .int .i64 (npF nm wd tr)])
    else ∃ B, e = .returned (.tuple #[.pointer (some ⟨B, 0, none⟩), .int .i64 0]) ∧ w.heap.size ≤ B ∧ PeerAt ty w' B nm wd tr 0 0 0 ⟨#[]⟩
set_option maxRecDepth 100000 in
set_option maxHeartbeats 4000000 in
theorem newPeer_any (nm wd : ByteArray) (tr : Int) (hnm : nm.size ≤ 140737488355328) (hwd : wd.size ≤ 140737488355328) (w : World) :
    Calls Try.prog 66 #[.string nm, .string wd, .int .i64 tr] w (NPTells 154 nm wd tr w) := by
  rcases h1 : nameF (strB nm) with _ | _
  · have HF : Hid (npF nm wd tr = 60) := if_pos h1
    have H1 := Lib.hid h1
    clear h1
    go_enter Try.func66, Try.ntmps66
    go_wp2_with fail
    refine (pright_any nm hnm _).mono ?_
    rintro e w1 ⟨rfl, hb1⟩
    rw [H1.out]
    have S1 : Step w1 w := ⟨hb1⟩
    clear hb1
    go_wp2_with fail
    go_ret2
    exact ⟨Ext.out, by rw [HF.out, if_pos (by decide)]; rfl⟩
  have H1 := Lib.hid h1
  rcases h2 : nameF (strB wd) with _ | _
  · have HF : Hid (npF nm wd tr = 52) := by unfold Hid npF; rw [if_neg (by simp [h1]), if_pos h2]
    have H2 := Lib.hid h2
    clear h1 h2
    go_enter Try.func66, Try.ntmps66
    go_wp2_with fail
    refine (pright_any nm hnm _).mono ?_
    rintro e w1 ⟨rfl, hb1⟩
    rw [H1.out]
    have S1 : Step w1 w := ⟨hb1⟩
    clear hb1
    go_wp2_with fail
    refine (pright_any wd hwd _).mono ?_
    rintro e w2 ⟨rfl, hb2⟩
    rw [H2.out]
    have S2 : Step w2 w1 := ⟨hb2⟩
    clear hb2
    go_wp2_with fail
    go_ret2
    exact ⟨Ext.out, by rw [HF.out, if_pos (by decide)]; rfl⟩
  have H2 := Lib.hid h2
  by_cases h3 : tr < 1
  · have HF : Hid (npF nm wd tr = 1) := by unfold Hid npF; rw [if_neg (by simp [h1]), if_neg (by simp [h2]), if_pos (.inl h3)]
    clear h1 h2
    go_enter Try.func66, Try.ntmps66
    go_wp2_with fail
    refine (pright_any nm hnm _).mono ?_
    rintro e w1 ⟨rfl, hb1⟩
    rw [H1.out]
    have S1 : Step w1 w := ⟨hb1⟩
    clear hb1
    go_wp2_with fail
    refine (pright_any wd hwd _).mono ?_
    rintro e w2 ⟨rfl, hb2⟩
    rw [H2.out]
    have S2 : Step w2 w1 := ⟨hb2⟩
    clear hb2
    go_wp2_with fail
    go_ret2
    exact ⟨Ext.out, by rw [HF.out, if_pos (by decide)]; rfl⟩
  by_cases h4 : 255 < tr
  · have HF : Hid (npF nm wd tr = 1) := by unfold Hid npF; rw [if_neg (by simp [h1]), if_neg (by simp [h2]), if_pos (.inr h4)]
    clear h1 h2
    go_enter Try.func66, Try.ntmps66
    go_wp2_with fail
    refine (pright_any nm hnm _).mono ?_
    rintro e w1 ⟨rfl, hb1⟩
    rw [H1.out]
    have S1 : Step w1 w := ⟨hb1⟩
    clear hb1
    go_wp2_with fail
    refine (pright_any wd hwd _).mono ?_
    rintro e w2 ⟨rfl, hb2⟩
    rw [H2.out]
    have S2 : Step w2 w1 := ⟨hb2⟩
    clear hb2
    go_wp2_with fail
    go_ret2
    exact ⟨Ext.out, by rw [HF.out, if_pos (by decide)]; rfl⟩
  have HF : Hid (npF nm wd tr = 0) := by unfold Hid npF; rw [if_neg (by simp [h1]), if_neg (by simp [h2]), if_neg (by omega)]
  clear h1 h2
  go_enter Try.func66, Try.ntmps66
  go_wp2_with fail
  refine (pright_any nm hnm _).mono ?_
  rintro e w1 ⟨rfl, hb1⟩
  rw [H1.out]
  have S1 : Step w1 w := ⟨hb1⟩
  clear hb1
  go_wp2_with fail
  refine (pright_any wd hwd _).mono ?_
  rintro e w2 ⟨rfl, hb2⟩
  rw [H2.out]
  have S2 : Step w2 w1 := ⟨hb2⟩
  clear hb2
  go_wp2_with fail
  go_ret2
  refine ⟨Ext.out, ?_⟩
  rw [HF.out, if_neg (by simp)]
  exact ⟨w2.heap.size, rfl, size_ext, at_new w2 _⟩
set_option maxRecDepth 100000 in
set_option maxHeartbeats 4000000 in
theorem rnewPeer_any (nm wd : ByteArray) (tr : Int) (hnm : nm.size ≤ 140737488355328) (hwd : wd.size ≤ 140737488355328) (w : World) :
    Calls Try.prog 71 #[.string nm, .string wd, .int .i64 tr] w (NPTells 114 nm wd tr w) := by
  rcases h1 : nameF (strB nm) with _ | _
  · have HF : Hid (npF nm wd tr = 60) := if_pos h1
    have H1 := Lib.hid h1
    clear h1
    go_enter Try.func71, Try.ntmps71
    go_wp2_with fail
    refine (rname_any nm hnm _).mono ?_
    rintro e w1 ⟨rfl, rfl⟩
    rw [H1.out]
    go_wp2_with fail
    go_ret2
    exact ⟨Ext.out, by rw [HF.out, if_pos (by decide)]; rfl⟩
  have H1 := Lib.hid h1
  rcases h2 : nameF (strB wd) with _ | _
  · have HF : Hid (npF nm wd tr = 52) := by unfold Hid npF; rw [if_neg (by simp [h1]), if_pos h2]
    have H2 := Lib.hid h2
    clear h1 h2
    go_enter Try.func71, Try.ntmps71
    go_wp2_with fail
    refine (rname_any nm hnm _).mono ?_
    rintro e w1 ⟨rfl, rfl⟩
    rw [H1.out]
    go_wp2_with fail
    refine (rname_any wd hwd _).mono ?_
    rintro e w2 ⟨rfl, rfl⟩
    rw [H2.out]
    go_wp2_with fail
    go_ret2
    exact ⟨Ext.out, by rw [HF.out, if_pos (by decide)]; rfl⟩
  have H2 := Lib.hid h2
  by_cases h3 : tr < 1
  · have HF : Hid (npF nm wd tr = 1) := by unfold Hid npF; rw [if_neg (by simp [h1]), if_neg (by simp [h2]), if_pos (.inl h3)]
    clear h1 h2
    go_enter Try.func71, Try.ntmps71
    go_wp2_with fail
    refine (rname_any nm hnm _).mono ?_
    rintro e w1 ⟨rfl, rfl⟩
    rw [H1.out]
    go_wp2_with fail
    refine (rname_any wd hwd _).mono ?_
    rintro e w2 ⟨rfl, rfl⟩
    rw [H2.out]
    go_wp2_with fail
    go_ret2
    exact ⟨Ext.out, by rw [HF.out, if_pos (by decide)]; rfl⟩
  by_cases h4 : 255 < tr
  · have HF : Hid (npF nm wd tr = 1) := by unfold Hid npF; rw [if_neg (by simp [h1]), if_neg (by simp [h2]), if_pos (.inr h4)]
    clear h1 h2
    go_enter Try.func71, Try.ntmps71
    go_wp2_with fail
    refine (rname_any nm hnm _).mono ?_
    rintro e w1 ⟨rfl, rfl⟩
    rw [H1.out]
    go_wp2_with fail
    refine (rname_any wd hwd _).mono ?_
    rintro e w2 ⟨rfl, rfl⟩
    rw [H2.out]
    go_wp2_with fail
    go_ret2
    exact ⟨Ext.out, by rw [HF.out, if_pos (by decide)]; rfl⟩
  have HF : Hid (npF nm wd tr = 0) := by unfold Hid npF; rw [if_neg (by simp [h1]), if_neg (by simp [h2]), if_neg (by omega)]
  clear h1 h2
  go_enter Try.func71, Try.ntmps71
  go_wp2_with fail
  refine (rname_any nm hnm _).mono ?_
  rintro e w1 ⟨rfl, rfl⟩
  rw [H1.out]
  go_wp2_with fail
  refine (rname_any wd hwd _).mono ?_
  rintro e w2 ⟨rfl, rfl⟩
  rw [H2.out]
  go_wp2_with fail
  go_ret2
  refine ⟨Ext.out, ?_⟩
  rw [HF.out, if_neg (by simp)]
  exact ⟨w.heap.size, rfl, size_ext, at_new w _⟩
section
variable {ty : TypeId} {w w1 : World} {B : Nat} {nm wd ms : ByteArray} {tr sn id st : Int}
theorem PeerAt.ext [h : Ext w w1] (k : PeerAt ty w B nm wd tr sn id st ms) : PeerAt ty w1 B nm wd tr sn id st ms := at_ext (w := w) k
theorem PeerAt.p0 (k : PeerAt ty w B nm wd tr sn id st ms) : w.cell? ⟨B, 0, none⟩ = some (.string nm) := at_cell k 0
theorem PeerAt.p1 (k : PeerAt ty w B nm wd tr sn id st ms) : w.cell? ⟨B, 1, none⟩ = some (.string wd) := at_cell k 1
theorem PeerAt.p2 (k : PeerAt ty w B nm wd tr sn id st ms) : w.cell? ⟨B, 2, none⟩ = some (.int .i64 tr) := at_cell k 2
theorem PeerAt.p3 (k : PeerAt ty w B nm wd tr sn id st ms) : w.cell? ⟨B, 3, none⟩ = some (.int .i64 sn) := at_cell k 3
theorem PeerAt.p4 (k : PeerAt ty w B nm wd tr sn id st ms) : w.cell? ⟨B, 4, none⟩ = some (.int .i64 id) := at_cell k 4
theorem PeerAt.p5 (k : PeerAt ty w B nm wd tr sn id st ms) : w.cell? ⟨B, 5, none⟩ = some (.int .i64 st) := at_cell k 5
theorem PeerAt.p6 (k : PeerAt ty w B nm wd tr sn id st ms) : w.cell? ⟨B, 6, none⟩ = some (.string ms) := at_cell k 6
theorem PeerAt.f (k : PeerAt ty w B nm wd tr sn id st ms) (i : Nat) : w.frozen? ⟨B, i, none⟩ = false := at_frozen k i
theorem PeerAt.s3 (k : PeerAt ty w B nm wd tr sn id st ms) (x : Int) : PeerAt ty (w.setCell ⟨B, 3, none⟩ (.int .i64 x)) B nm wd tr x id st ms := at_set k 3 _
theorem PeerAt.s4 (k : PeerAt ty w B nm wd tr sn id st ms) (x : Int) : PeerAt ty (w.setCell ⟨B, 4, none⟩ (.int .i64 x)) B nm wd tr sn x st ms := at_set k 4 _
theorem PeerAt.s5 (k : PeerAt ty w B nm wd tr sn id st ms) (x : Int) : PeerAt ty (w.setCell ⟨B, 5, none⟩ (.int .i64 x)) B nm wd tr sn id x ms := at_set k 5 _
theorem PeerAt.s6 (k : PeerAt ty w B nm wd tr sn id st ms) (x : ByteArray) : PeerAt ty (w.setCell ⟨B, 6, none⟩ (.string x)) B nm wd tr sn id st x := at_set k 6 _
end
theorem pstate_any (B : Nat) (nm wd ms : ByteArray) (tr sn id st : Int) (w : World) (h : PeerAt 154 w B nm wd tr sn id st ms) :
    Calls Try.prog 70 #[.pointer (some ⟨B, 0, none⟩)] w fun e w' => e = .returned (.int .i64 st) ∧ w = w' := by
  have p5 := h.p5
  go_enter Try.func70, Try.ntmps70
  go_wp2
  go_ret
  exact ⟨rfl, rfl⟩
theorem pmessage_any (B : Nat) (nm wd ms : ByteArray) (tr sn id st : Int) (w : World) (h : PeerAt 154 w B nm wd tr sn id st ms) :
    Calls Try.prog 76 #[.pointer (some ⟨B, 0, none⟩)] w fun e w' => e = .returned (.string ms) ∧ w = w' := by
  have p5 := h.p6
  go_enter Try.func76, Try.ntmps76
  go_wp2
  go_ret
  exact ⟨rfl, rfl⟩
theorem preset_any (B : Nat) (nm wd ms : ByteArray) (tr sn id st : Int) (w : World) (h : PeerAt 154 w B nm wd tr sn id st ms) :
    Calls Try.prog 74 #[.pointer (some ⟨B, 0, none⟩)] w fun e w' => e = .returned (.tuple #[]) ∧ PeerAt 154 w' B nm wd tr 0 id 0 ⟨#[]⟩ ∧ But w w' B := by
  have h1 := h.s5 0
  have h2 := h1.s3 0
  have HH := Lib.hid (h2.s6 ⟨#[]⟩)
  have p5 := h.p5
  have f5 := h.f 5
  have p3 := h1.p3
  have f3 := h1.f 3
  have p6 := h2.p6
  have f6 := h2.f 6
  clear h h1 h2
  go_enter Try.func74, Try.ntmps74
  go_wp2
  go_end0
  exact ⟨rfl, HH.out, ((But.of.set 5 _).set 3 _).set 6 _⟩
theorem rpreset_any (B : Nat) (nm wd ms : ByteArray) (tr sn id st : Int) (w : World) (h : PeerAt 114 w B nm wd tr sn id st ms) :
    Calls Try.prog 75 #[.pointer (some ⟨B, 0, none⟩)] w fun e w' => e = .returned (.tuple #[]) ∧ PeerAt 114 w' B nm wd tr 0 id 0 ⟨#[]⟩ ∧ But w w' B := by
  have h1 := h.s5 0
  have h2 := h1.s3 0
  have HH := Lib.hid (h2.s6 ⟨#[]⟩)
  have p5 := h.p5
  have f5 := h.f 5
  have p3 := h1.p3
  have f3 := h1.f 3
  have p6 := h2.p6
  have f6 := h2.f 6
  clear h h1 h2
  go_enter Try.func75, Try.ntmps75
  go_wp2
  go_end0
  exact ⟨rfl, HH.out, ((But.of.set 5 _).set 3 _).set 6 _⟩
end Go.Proofs.Ytodibldfolognaa
