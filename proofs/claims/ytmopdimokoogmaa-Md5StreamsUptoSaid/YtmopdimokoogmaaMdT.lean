/-
  md5: the iterator that Blocks hands back. Conditions: none beyond the stream's own.
-/
import Derived.Test.YtmopdimokoogmaaMdO
import Derived.Test.YtmopdimokoogmaaMdC
import Derived.RangeFuncNested
import Derived.RangeFuncBound
import Derived.RangeFuncCalls
import Derived.RangeFuncLeaves
import Derived.RangeFuncBox
import Derived.Shelf.Abstract
import Derived.WalkKit
import Derived.OwnWalkIn
import Derived.TacticsInMore
import Derived.LoopNIn
import Derived.LoopIn
namespace Go.Proofs.Ytmopdimokoogmaa
open Go.RowKit Go.Shelf
set_option linter.unusedVariables false
set_option linter.unusedSimpArgs false
attribute [local go_sem] Oper.semAt_some

/-- Sixteen bytes. -/
abbrev A16 : Type := { x : List Int // x.length = 16 }
def a16 (s : W4) : A16 := ⟨toldS s 16, toldS_len s 16⟩
def upto (ps : List W4) (k : Nat) : List A16 := (ps.take k).map a16
theorem upto_succ {ps : List W4} {k : Nat} (h : k < ps.length) : upto ps (k + 1) = upto ps k ++ [a16 (ps.getD k (0, 0, 0, 0))] := by
  unfold upto
  rw [List.take_add_one, List.getElem?_eq_getElem h, List.map_append, List.getD_eq_getElem?_getD, List.getElem?_eq_getElem h]
  rfl
theorem upto_len {ps : List W4} {k : Nat} (h : k ≤ ps.length) : (upto ps k).length = k := by simp [upto, h]
theorem flatW_get : ∀ (ps : List W4) (k : Nat), k < ps.length →
    (flatW ps)[k * 4]? = some (.int .u32 (ps.getD k (0, 0, 0, 0)).1) ∧ (flatW ps)[k * 4 + 1]? = some (.int .u32 (ps.getD k (0, 0, 0, 0)).2.1) ∧
    (flatW ps)[k * 4 + 2]? = some (.int .u32 (ps.getD k (0, 0, 0, 0)).2.2.1) ∧ (flatW ps)[k * 4 + 3]? = some (.int .u32 (ps.getD k (0, 0, 0, 0)).2.2.2)
  | [], k, h => by simp at h
  | s :: ps, 0, _ => ⟨rfl, rfl, rfl, rfl⟩
  | s :: ps, k + 1, h => by
    have ih := flatW_get ps k (by simpa using h)
    have e : flatW (s :: ps) = .int .u32 s.1 :: .int .u32 s.2.1 :: .int .u32 s.2.2.1 :: .int .u32 s.2.2.2 :: flatW ps := rfl
    rw [e, show (k + 1) * 4 = k * 4 + 1 + 1 + 1 + 1 by omega]
    simp only [List.getElem?_cons_succ, List.getD_cons_succ, Nat.add_assoc, Nat.reduceAdd] at ih ⊢
    exact ih
set_option maxRecDepth 100000 in
set_option maxHeartbeats 4000000 in
theorem blk1_in (n l Bs n0 g gp cap : Nat) (ps : List W4) (hn : 1 ≤ n) (A : Option Addr) (hA : 0 < ps.length → A = some ⟨gp, 0, none⟩) (hgp : 0 < ps.length → gp < n0) (hbd : ps.length ≤ 8796093022207) (hok : ∀ k, WOk (ps.getD k (0, 0, 0, 0))) (J Jx : List A16 → World → Prop)
    (hY : ∀ pre (x : A16) W, J pre W → pre.length < ps.length → YieldAt Fence.wide (n - 1) Try.prog l #[.agg (nums .u8 x.1).toArray] W fun e W' =>
      (e = .returned (.bool true) ∧ J (pre ++ [x]) W' ∧ Below n0 W W') ∨ (e = .returned (.bool false) ∧ Jx (pre ++ [x]) W'))
    (W : World) (hn0 : n0 ≤ W.heap.size) (hJ : ∀ s A B, J s A → Below A.heap.size A B → J s B)
    (hBs : W.cell? ⟨Bs, 0, none⟩ = some (.pointer (some ⟨g, 0, none⟩))) (hc4 : W.cell? ⟨g, 4, none⟩ = some (.slice A ps.length cap)) (hcs : ∀ i u, (flatW ps)[i]? = some u → W.cell? ⟨gp, i, none⟩ = some u) (h0 : J [] W) :
    CallsIn Fence.wide n Try.prog 85 #[.func (.yield l) #[] #[], .pointer (some ⟨Bs, 0, none⟩)] W fun e W' => (∃ v, e = .returned v) ∧
      ((∃ ys, ys = ps.map a16 ∧ J ys W') ∨ (∃ pre, (∃ k, k ≤ ps.length ∧ pre = upto ps k) ∧ Jx pre W')) := by
  have HY := Lib.hid hY
  have HJ := Lib.hid hJ
  have HCS := Lib.hid hcs
  clear hY hJ hcs
  have HA := Lib.hid hA
  have HGP := Lib.hid hgp
  clear hA hgp
  refine callsIn_of_wp Try.func85 rfl trivial ?_ rfl
  simp only [Try.ntmps85, List.size_toArray, List.length_cons, List.length_nil, Nat.reduceAdd, Nat.reduceSub, Array.replicate_succ, Array.replicate_zero, List.push_toArray, List.append_toArray, List.nil_append, List.cons_append]
  gi_wp2
  gi_loopw [12] (fun i wr => ∃ k : Nat, k ≤ ps.length ∧ i = .int .i64 k ∧ Hid (J (upto ps k) wr) ∧ Hid (Below n0 W wr)) (fun i _ => ps.length - (intOf i).toNat)
  case atStart => exact ⟨0, Nat.zero_le _, rfl, h0, Below.refl _ _⟩
  case round =>
    obtain ⟨k, hk, rfl, HJs, HB⟩ := hrel
    by_cases hlt : k < ps.length
    · have hgp' : gp < n0 := HGP.out (by omega)
      obtain rfl : A = some ⟨gp, 0, none⟩ := HA.out (by omega)
      have hf := flatW_get ps k hlt
      have hw := hok k
      have hup := Lib.hid (upto_succ hlt)
      have HUL := Lib.hid (upto_len hk)
      obtain ⟨⟨a, b, c, d⟩, hs⟩ : ∃ s, ps.getD k (0, 0, 0, 0) = s := ⟨_, rfl⟩
      rw [hs] at hf hw hup
      have q0 : wr.cell? ⟨gp, k * 4, none⟩ = some (.int .u32 a) := (HB.out.cell (p := ⟨gp, k * 4, none⟩) hgp').trans (HCS.out _ _ hf.1)
      have q1 : wr.cell? ⟨gp, k * 4 + 1, none⟩ = some (.int .u32 b) := (HB.out.cell (p := ⟨gp, k * 4 + 1, none⟩) hgp').trans (HCS.out _ _ hf.2.1)
      have q2 : wr.cell? ⟨gp, k * 4 + 2, none⟩ = some (.int .u32 c) := (HB.out.cell (p := ⟨gp, k * 4 + 2, none⟩) hgp').trans (HCS.out _ _ hf.2.2.1)
      have q3 : wr.cell? ⟨gp, k * 4 + 3, none⟩ = some (.int .u32 d) := (HB.out.cell (p := ⟨gp, k * 4 + 3, none⟩) hgp').trans (HCS.out _ _ hf.2.2.2)
      have HW := Lib.hid hw
      clear hf hs hw
      gi_wp2_with (refine ⟨trivial, ?_⟩; gi_at_call 73; refine (callsIn_wide.2 (bytes4_any (a, b, c, d) HW.out _)).mono ?_; rintro e w2 ⟨rfl, hb2⟩
                   have X2 : Ext wr w2 := Ext.trans_ (inferInstance : Ext wr (wr.alloc (.cells #[.int .u32 a, .int .u32 b, .int .u32 c, .int .u32 d] 95))) ⟨hb2⟩
                   have hJ2 := HJ.out _ wr w2 HJs.out X2.out
                   have HB2 := Lib.hid (HB.out.trans (X2.out.mono (Nat.le_trans hn0 (HB.out.size))))
                   obtain ⟨fn, tmps, assign, body, hy, hR⟩ := HY.out _ (a16 (a, b, c, d)) w2 hJ2 (by rw [HUL.out]; exact hlt)
                   have HR := Lib.hid hR
                   dsimp only [a16] at hy
                   clear hJ2 hb2 hR q0 q1 q2 q3)
      refine HR.out.mono ?_
      rintro e W3 (⟨rfl, hJ3, hk3⟩ | ⟨rfl, hJx3⟩)
      · have HJ3 := Lib.hid hJ3
        have HK3 := Lib.hid hk3
        clear hJ3 hk3 hy
        gi_wp2
        go_roundw
        case rel => exact ⟨k + 1, by omega, by go_num, (show J _ _ by rw [hup.out]; exact HJ3.out), HB2.out.trans HK3.out⟩
        case measure => simp [intOf]; omega
      · have HJX := Lib.hid hJx3
        clear hJx3 hy
        gi_wp2
        refine bodyPost_ret (results_none rfl _ _ _) rfl ?_
        exact ⟨⟨_, rfl⟩, .inr ⟨_, ⟨k + 1, by omega, hup.out.symm⟩, HJX.out⟩⟩
    · obtain rfl : k = ps.length := by omega
      gi_wp2
      go_end0
      refine ⟨⟨_, rfl⟩, .inl ⟨_, rfl, ?_⟩⟩
      have := HJs.out
      rwa [upto, List.take_length] at this
set_option maxHeartbeats 1000000 in
/-- .. at a stream that is not there: no round. -/
theorem blk1_nil_in (n l Bs : Nat) (J : List A16 → World → Prop) (W : World) (hBs : W.cell? ⟨Bs, 0, none⟩ = some (.pointer none)) (h0 : J [] W) :
    CallsIn Fence.wide n Try.prog 85 #[.func (.yield l) #[] #[], .pointer (some ⟨Bs, 0, none⟩)] W fun e W' => (∃ v, e = .returned v) ∧ J [] W' := by
  have H0 := Lib.hid h0
  clear h0
  refine callsIn_of_wp Try.func85 rfl trivial ?_ rfl
  simp only [Try.ntmps85, List.size_toArray, List.length_cons, List.length_nil, Nat.reduceAdd, Nat.reduceSub, Array.replicate_succ, Array.replicate_zero, List.push_toArray, List.append_toArray, List.nil_append, List.cons_append]
  gi_wp2
  refine bodyPost_ret (results_none rfl _ _ _) rfl ?_
  exact ⟨⟨_, rfl⟩, H0.out⟩
set_option maxHeartbeats 1000000 in
/-- Blocks: the stream's pointer is boxed; the function value captures the box. -/
theorem blocksF_any (p : Option Addr) (w : World) : Calls Try.prog 74 #[.pointer p] w fun e w' => e = .returned (.func (.func 85) #[] #[.pointer (some ⟨w.heap.size, 0, none⟩)]) ∧ w' = w.alloc (.cells #[.pointer p] 59) := by
  go_enter Try.func74, Try.ntmps74
  go_wp2
  go_ret
  exact ⟨rfl, rfl⟩
/-- What is asked of a stream whose blocks are told. -/
structure Past (W : World) (n0 g : Nat) (ps : List W4) (A : Option Addr) (cap gp : Nat) : Prop where
  at4 : W.cell? ⟨g, 4, none⟩ = some (.slice A ps.length cap)
  lt : g < n0
  addr : 0 < ps.length → A = some ⟨gp, 0, none⟩
  low : 0 < ps.length → gp < n0
  cells : ∀ i u, (flatW ps)[i]? = some u → W.cell? ⟨gp, i, none⟩ = some u
theorem Past.below {W W' : World} {n0 g : Nat} {ps : List W4} {A : Option Addr} {cap gp : Nat} (h : Past W n0 g ps A cap gp) (hb : Below n0 W W') : Past W' n0 g ps A cap gp := by
  refine ⟨(hb.cell (p := ⟨g, 4, none⟩) h.lt).trans h.at4, h.lt, h.addr, h.low, fun i u hu => ?_⟩
  have hp : 0 < ps.length := by
    cases ps with
    | nil => simp [flatW] at hu
    | cons => simp
  exact (hb.cell (p := ⟨gp, i, none⟩) (h.low hp)).trans (h.cells i u hu)
theorem abides_below {J : List A16 → World → Prop} {B : Nat} (h : AbidesFrom B J) : ∀ s A A', J s A → Below A.heap.size A A' → J s A' :=
  fun s A A' hs hb => h s A A' none hs (grown_of_below hb none) (fun _ e => by cases e)
theorem blocks_stops (n Bs n0 g cap gp : Nat) (A : Option Addr) (ps : List W4) (hn : 1 ≤ n) (hbd : ps.length ≤ 8796093022207) (hok : ∀ k, WOk (ps.getD k (0, 0, 0, 0))) (w : World) (hBs : Bs < w.heap.size) (hn0 : n0 ≤ w.heap.size)
    (hc : w.cell? ⟨Bs, 0, none⟩ = some (.pointer (some ⟨g, 0, none⟩))) (hP : Past w n0 g ps A cap gp) :
    SeqStopsK Fence.wide n Try.prog 85 #[.pointer (some ⟨Bs, 0, none⟩)] (fun x : A16 => #[.agg (nums .u8 x.1).toArray]) (Below n0) (fun ys => ys = ps.map a16) (fun pre => ∃ k, k ≤ ps.length ∧ pre = upto ps k) ps.length w :=
  fun l J Jx W hW hJ _ hY h0 => by
    have hP' := hP.below (hW.mono hn0)
    exact blk1_in n l Bs n0 g gp cap ps hn A hP'.addr hP'.low hbd hok J Jx hY W (Nat.le_trans hn0 hW.size) (abides_below hJ) ((hW.cell (p := ⟨Bs, 0, none⟩) hBs).trans hc) hP'.at4 hP'.cells h0
theorem blocks_stops_nil (n Bs n0 : Nat) (w : World) (hBs : Bs < w.heap.size) (hc : w.cell? ⟨Bs, 0, none⟩ = some (.pointer none)) :
    SeqStopsK Fence.wide n Try.prog 85 #[.pointer (some ⟨Bs, 0, none⟩)] (fun x : A16 => #[.agg (nums .u8 x.1).toArray]) (Below n0) (fun ys => ys = []) (fun pre => ∃ k, k ≤ 0 ∧ pre = upto [] k) 0 w :=
  fun l J Jx W hW _ _ _ h0 =>
    (blk1_nil_in n l Bs J W ((hW.cell (p := ⟨Bs, 0, none⟩) hBs).trans hc) h0).mono fun e W' ⟨he, hj⟩ => ⟨he, .inl ⟨_, rfl, hj⟩⟩
end Go.Proofs.Ytmopdimokoogmaa
