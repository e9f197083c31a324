/-
  tetherlaw17.Ipv6cpAsks: behind a Nak or a Reject this end asks what the document says; what is given is neither 0 nor another one's: for every input the call answers true. No condition.
-/
import Derived.Test.YtmopdimokoogmaaIp6L
import Derived.Test.YtmopdimokoogmaaIp6I
import Derived.Test.YtmopdimokoogmaaArr
namespace Go.Proofs.Ytmopdimokoogmaa
open Go.RowKit
set_option linter.unusedVariables false
set_option linter.unusedSimpArgs false

set_option maxRecDepth 100000 in
set_option maxHeartbeats 8000000 in
theorem asks17_law (id draw other : Int) (A : Option Addr) (n c : Nat) (vs : List OV) (hid : giv64 id) (hd : giv64 draw) (ho : giv64 other) (hn : vs.length = n) (hn' : n ≤ 4398046511104)
    (w : World) (hx : Cells w A (flat vs)) (gx : Good w vs) :
    Calls Try.prog 8 #[.int .u64 id, .slice A n c, .int .u64 draw, .int .u64 other] w fun e w' => e = .returned (.bool true) ∧ Below w.heap.size w w' := by
  have Hn := Lib.hid hn
  have HX := Lib.hid hx
  have GX := Lib.hid gx
  have HId := Lib.hid hid
  have HDr := Lib.hid hd
  have HOt := Lib.hid ho
  have HGv := Lib.hid (givF_good hd ho)
  clear hn hx gx hid hd ho
  obtain ⟨i0, hi0, hzz⟩ := Option.map_eq_some_iff.1 info_u8
  have hEq : ∀ W : World, (Op.equalIn 10000 44 (.agg (nums .u8 (addr17 id)).toArray) (.agg (nums .u8 (addr17 id)).toArray)).run Try.prog W = .ok true W := fun W => run_equalIn_self W 9998 44 5 16 .u8 (addr17 id) i0 Try.underlying44 Try.underlying5 hi0 (by simp only [Prod.mk.injEq] at hzz; exact hzz.2.1) rfl
  clear hi0 hzz
  go_enter Try.func8, Try.ntmps8
  go_wp2_with fail
  refine (nak17_any id draw A n c vs HId.out HDr.out Hn.out hn' _ (by exact HX.out.ext) (by exact GX.out.ext)).mono ?_
  rintro e w1 ⟨rfl, hb1⟩
  have S1 : Step w1 _ := ⟨hb1⟩
  clear hb1
  go_wp2_with fail
  refine (rnak17_any id draw A n c vs HId.out HDr.out Hn.out hn' _ (by exact HX.out.ext) (by exact GX.out.ext)).mono ?_
  rintro e w2 ⟨rfl, hb2⟩
  have S2 : Step w2 _ := ⟨hb2⟩
  clear hb2
  generalize (nakR id (nakF17 id draw (vs.map OV.opt))).1 = a1
  generalize (nakR id (nakF17 id draw (vs.map OV.opt))).2 = a2
  go_wp2_with fail
  refine (reject17_any id A n c vs Hn.out hn' _ (by exact HX.out.ext) (by exact GX.out.ext)).mono ?_
  rintro e w3 ⟨rfl, hb3⟩
  have S3 : Step w3 _ := ⟨hb3⟩
  clear hb3
  go_wp2_with fail
  refine (rreject17_any id A n c vs Hn.out hn' _ (by exact HX.out.ext) (by exact GX.out.ext)).mono ?_
  rintro e w4 ⟨rfl, hb4⟩
  have S4 : Step w4 _ := ⟨hb4⟩
  clear hb4
  generalize (rejF id (vs.map OV.opt)).1 = b1
  generalize (rejF id (vs.map OV.opt)).2 = b2
  go_wp2_with fail
  refine (given_any draw other HDr.out.1 HDr.out.2 HOt.out.1 HOt.out.2 _).mono ?_
  rintro e w5 ⟨rfl, rfl⟩
  go_wp2_with fail
  refine (rgiven_any draw other HDr.out.1 HDr.out.2 HOt.out.1 HOt.out.2 _).mono ?_
  rintro e w6 ⟨rfl, rfl⟩
  generalize givF draw other = g at *
  have hg0 : (g == 0) = false := by simpa using HGv.out.2.1
  have hg1 : (g == other) = false := by simpa using HGv.out.2.2
  go_wp2_with fail
  refine (done17_any id other _).mono ?_
  rintro e w7 ⟨rfl, rfl⟩
  go_wp2_with fail
  refine (rdone17_any id other _).mono ?_
  rintro e w8 ⟨rfl, rfl⟩
  generalize doneF id other = d
  go_wp2_with fail
  refine (addr17_any id HId.out.1 HId.out.2 _).mono ?_
  rintro e w9 ⟨rfl, hb9⟩
  have S9 : Step w9 _ := ⟨hb9⟩
  clear hb9
  go_wp2_with fail
  refine (raddr17_any id HId.out.1 HId.out.2 _).mono ?_
  rintro e w10 ⟨rfl, hb10⟩
  have S10 : Step w10 _ := ⟨hb10⟩
  clear hb10
  go_wp2_with fail
  refine (known17_any _).mono ?_
  rintro e w11 ⟨rfl, hb11⟩
  have S11 : Step w11 _ := ⟨hb11⟩
  clear hb11
  go_wp2
  go_ret
  exact ⟨rfl, Ext.out⟩

namespace Ipv6cpAsks
set_option maxRecDepth 100000 in
theorem walk (U : Nat) (W : World) (vs : List Value) (h : Args U Try.prog W Try.f8.params.toList vs) : Calls Try.prog 8 vs.toArray W fun e W' => e = .returned (.bool true) ∧ Below W.heap.size W W' := by
  rw [Try.params8] at h
  match vs, h with
  | [v0, v1, v2, v3], ⟨h0, h1, h2, h3, _⟩ =>
    obtain ⟨id, rfl, hw0⟩ := h0.int Try.underlying23
    obtain ⟨A, n, c, vs, rfl, hl, hnc, _, hn, hC, hG, _⟩ := h1.options
    obtain ⟨draw, rfl, hw2⟩ := h2.int Try.underlying23
    obtain ⟨other, rfl, hw3⟩ := h3.int Try.underlying23
    exact asks17_law id draw other A n c vs (wf_u64 hw0) (wf_u64 hw2) (wf_u64 hw3) hl hn W hC hG

set_option maxRecDepth 100000 in
theorem lifted (os : Os) (started : os.Started) (H : Type) (enc : TypeId × Value → H) :
    ReturnsInHanded {} Try.checked os 8 .any (Rows.ipv6cpAsksSpec.pre6 enc Try.prog Try.f8 Rows.ipv6cpAsksRow.domain false) (Rows.ipv6cpAsksSpec.post enc Try.prog Try.f8 false true false false) :=
  law_lifted (C := Try.checked) laid_out own_knob started (by kernel_rfl) Try.func8 H enc rfl
    (fun ds hd => by
      have : ds.length = 4 := hd
      match ds, this with
      | [_, _, _, _], _ => exact ⟨rfl, rfl, rfl⟩) rfl Try.underlying4 (by
      have : (Try.f8.params.toList.all fun t => Try.prog.readableRec t && decide (t < Try.prog.types.size)) = true := by kernel_rfl
      intro t ht
      have h := List.all_eq_true.1 this t ht
      rw [Bool.and_eq_true, decide_eq_true_eq] at h
      exact h)
    (ChangeSpec.witness6 (enc := enc) (C := Try.checked) false ⟨#[], #[.int .u64 0, .slice none 0 0, .int .u64 0, .int .u64 0], []⟩ 8 (by kernel_rfl) (by kernel_rfl) (by kernel_rfl) (by kernel_rfl)) walk

theorem over : Rows.ipv6cpAsksRow.holds Try.pinned (OpenSpec.ofChange Rows.ipv6cpAsksSpec) :=
  OpenClaim.holds_of_wide 8 Try.f8 rfl rfl rfl rfl rfl rfl rfl ⟨rfl, rfl, rfl, rfl, rfl⟩ rfl rfl rfl rfl rfl (by kernel_rfl) Try.func8 (by kernel_rfl)
    (of_decide_eq_true (by kernel_rfl)) (by unfold Func.isWrapper; first | (rw [if_pos (by decide +kernel)]; kernel_rfl) | (rw [if_neg (by decide +kernel)]; exact ⟨rfl, rfl⟩))
    (fun os started H enc _ => lifted os started H enc)

/-- The statement. -/
theorem proved : Rows.Ipv6cpAsksSaid := over
#print axioms proved
end Ipv6cpAsks
end Go.Proofs.Ytmopdimokoogmaa
