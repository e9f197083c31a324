/-
  tetherlaw04.Md5Sums: the digest of bytes is that of the document: for every input the call answers true. No condition.
-/
import Derived.Test.YtmopdimokoogmaaMdM
import Derived.Test.YtmopdimokoogmaaSeat
import Derived.Test.YtmopdimokoogmaaArgs
import Derived.Test.YtmopdimokoogmaaArr
namespace Go.Proofs.Ytmopdimokoogmaa
open Go.RowKit
set_option linter.unusedVariables false
set_option linter.unusedSimpArgs false

set_option maxRecDepth 100000 in
set_option maxHeartbeats 4000000 in
theorem sums_any (A : Option Addr) (n c : Nat) (xs : List Int) (hn : xs.length = n) (hn' : n ≤ 140737488351232) (hb : Byt xs) (w : World) (hx : Cells w A (nums .u8 xs)) :
    Calls Try.prog 5 #[.slice A n c] w fun e w' => e = .returned (.bool true) ∧ Below w.heap.size w w' := by
  have Hn := Lib.hid hn
  have HX := Lib.hid hx
  have HB := Lib.hid hb
  clear hn hx hb
  go_enter Try.func5, Try.ntmps5
  go_wp2_with fail
  refine (lent4_any A n c xs Hn.out hn' _ (by exact HX.out.ext)).mono ?_
  rintro e w1 ⟨g, cap, rfl, hcap, ho1, hb1⟩
  have HO1 := Lib.hid ho1
  have HC1 := Lib.hid (show Cells w1 (some ⟨g, 0, none⟩) (nums .u8 xs) from by have := own_cells ho1; rw [nums_append] at this; exact this.left)
  have S1 : Step w1 _ := ⟨hb1⟩
  clear ho1 hb1
  go_wp2_with fail
  refine (sum4_any (some ⟨g, 0, none⟩) n cap xs Hn.out (by omega) HB.out _ (by exact HC1.out.ext)).mono ?_
  rintro e w2 ⟨rfl, hb2⟩
  have S2 : Step w2 _ := ⟨hb2⟩
  clear hb2
  have hl := digest_len xs
  obtain ⟨ts, hts⟩ : ∃ ts, digest xs = ts := ⟨_, rfl⟩
  have HTS := Lib.hid hts
  rw [hts] at hl ⊢
  clear hts
  obtain ⟨i0, hi0, hzz⟩ := Option.map_eq_some_iff.1 info_u8
  have hEq : ∀ W : World, (Op.equalIn 10000 44 (.agg (nums .u8 ts).toArray) (.agg (nums .u8 ts).toArray)).run Try.prog W = .ok true W := fun W => run_equalIn_self W 9998 44 5 16 .u8 ts i0 Try.underlying44 Try.underlying5 hi0 (by simp only [Prod.mk.injEq] at hzz; exact hzz.2.1) hl
  clear hzz hi0
  go_wp2_with fail
  refine (rsum4_any A n c xs Hn.out (by omega) HB.out _ (by exact HX.out.ext)).mono ?_
  rintro e w3 ⟨rfl, hb3⟩
  have S3 : Step w3 _ := ⟨hb3⟩
  clear hb3
  rw [HTS.out]
  have HL := Lib.hid hl
  clear hl
  go_wp2_with fail
  clear hEq
  refine (kept4_true g cap n n c _ A xs Hn.out HB.out rfl hcap hn' _ (own_ext HO1.out) (HX.out.ext)).mono ?_
  rintro e w4 ⟨rfl, rfl⟩
  go_wp2_with fail
  refine (awake4_any _).mono ?_
  rintro e w5 ⟨rfl, hb5⟩
  have S5 : Step w5 _ := ⟨hb5⟩
  clear hb5
  go_wp2
  go_ret
  exact ⟨rfl, Ext.out⟩

theorem args_one {U : Nat} {P : Program} {W : World} {vs : List Value} {t : TypeId} (h : Args U P W [t] vs) : ∃ v, vs = [v] ∧ Arg U P W t v := by
  match vs, h with
  | [v], h => exact ⟨v, rfl, h.1⟩
namespace Md5Sums
theorem walk (U : Nat) (W : World) (vs : List Value) (h : Args U Try.prog W Try.f5.params.toList vs) : Calls Try.prog 5 vs.toArray W fun e W' => e = .returned (.bool true) ∧ Below W.heap.size W W' := by
  rw [Try.params5] at h
  obtain ⟨v0, rfl, h0⟩ := args_one h
  obtain ⟨A, n, c, xs, rfl, hl, hnc, hn, hC, hB⟩ := h0.bytes Try.underlying42 Try.underlying5 cells_u8 bytes_u8
  exact sums_any A n c xs hl hn hB W hC

set_option maxRecDepth 100000 in
theorem lifted (os : Os) (started : os.Started) (H : Type) (enc : TypeId × Value → H) :
    ReturnsInHanded {} Try.checked os 5 .any (Rows.md5SumsSpec.pre6 enc Try.prog Try.f5 Rows.md5SumsRow.domain false) (Rows.md5SumsSpec.post enc Try.prog Try.f5 false true false false) :=
  law_lifted (C := Try.checked) laid_out own_knob started (by kernel_rfl) Try.func5 H enc rfl
    (fun ds hd => by
      have : ds.length = 1 := hd
      match ds, this with
      | [_], _ => exact ⟨rfl, rfl, rfl⟩) rfl Try.underlying4 (by
      have : (Try.f5.params.toList.all fun t => Try.prog.readableRec t && decide (t < Try.prog.types.size)) = true := by kernel_rfl
      intro t ht
      have h := List.all_eq_true.1 this t ht
      rw [Bool.and_eq_true, decide_eq_true_eq] at h
      exact h)
    (ChangeSpec.witness6 (enc := enc) (C := Try.checked) false ⟨#[], #[.slice none 0 0], []⟩ 8 (by kernel_rfl) (by kernel_rfl) (by kernel_rfl) (by kernel_rfl)) walk

theorem over : Rows.md5SumsRow.holds Try.pinned (OpenSpec.ofChange Rows.md5SumsSpec) :=
  OpenClaim.holds_of_wide 5 Try.f5 rfl rfl rfl rfl rfl rfl rfl ⟨rfl, rfl, rfl, rfl, rfl⟩ rfl rfl rfl rfl rfl (by kernel_rfl) Try.func5 (by kernel_rfl)
    (of_decide_eq_true (by kernel_rfl)) (by unfold Func.isWrapper; first | (rw [if_pos (by decide +kernel)]; kernel_rfl) | (rw [if_neg (by decide +kernel)]; exact ⟨rfl, rfl⟩))
    (fun os started H enc _ => lifted os started H enc)

/-- The statement. -/
theorem proved : Rows.Md5SumsSaid := over
#print axioms proved
end Md5Sums
end Go.Proofs.Ytmopdimokoogmaa
