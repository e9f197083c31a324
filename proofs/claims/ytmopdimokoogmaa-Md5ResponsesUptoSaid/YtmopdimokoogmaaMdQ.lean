/-
  tetherlaw04.Md5Responses: the response is that of the document: for every input of bulk at most 1048576 the call answers true. No condition.
-/
import Derived.Test.YtmopdimokoogmaaMdM
import Derived.Test.YtmopdimokoogmaaMdP
import Derived.Test.YtmopdimokoogmaaSeat
import Derived.Test.YtmopdimokoogmaaArgs
import Derived.Test.YtmopdimokoogmaaArr
import Derived.Test.YtmopdimokoogmaaReg
namespace Go.Proofs.Ytmopdimokoogmaa
open Go.RowKit
set_option linter.unusedVariables false
set_option linter.unusedSimpArgs false

set_option maxRecDepth 100000 in
set_option maxHeartbeats 4000000 in
theorem responses_any (id : Int) (s : ByteArray) (A : Option Addr) (n c : Nat) (xs : List Int) (hn : xs.length = n) (hsn : s.size + n ≤ 70368744177664) (hb : Byt xs) (w : World) (hx : Cells w A (nums .u8 xs)) :
    Calls Try.prog 7 #[.int .i64 id, .string s, .slice A n c] w fun e w' => e = .returned (.bool true) ∧ Below w.heap.size w w' := by
  have Hn := Lib.hid hn
  have HX := Lib.hid hx
  have HB := Lib.hid hb
  clear hn hx hb
  go_enter Try.func7, Try.ntmps7
  go_wp2_with fail
  refine (lent4_any A n c xs Hn.out (by omega) _ (by exact HX.out.ext)).mono ?_
  rintro e w1 ⟨g, cap, rfl, hcap, ho1, hb1⟩
  have HO1 := Lib.hid ho1
  have HC1 := Lib.hid (show Cells w1 (some ⟨g, 0, none⟩) (nums .u8 xs) from by have := own_cells ho1; rw [nums_append] at this; exact this.left)
  have S1 : Step w1 _ := ⟨hb1⟩
  clear ho1 hb1
  go_wp2_with fail
  refine (resp4_any id s (some ⟨g, 0, none⟩) n cap xs Hn.out hsn HB.out _ (by exact HC1.out.ext)).mono ?_
  rintro e w2 ⟨rfl, hb2⟩
  have S2 : Step w2 _ := ⟨hb2⟩
  clear hb2
  have hl := respD_len id s xs
  obtain ⟨ts, hts⟩ : ∃ ts, respD id s xs = ts := ⟨_, rfl⟩
  obtain ⟨er, her⟩ : ∃ er, respE id = er := ⟨_, rfl⟩
  have HTS := Lib.hid hts
  have HER := Lib.hid her
  rw [hts, her]
  rw [hts] at hl
  have HL := Lib.hid hl
  have HI16 : Hid ((Try.prog.info? 44).map (·.size) = some (nums .u8 ts).toArray.size) := by
    unfold Hid
    rw [List.size_toArray, nums_length, hl]
    kernel_rfl
  have HZ16 : Hid ((nums .u8 (List.replicate 16 0)).toArray.size = (nums .u8 ts).toArray.size) := by
    unfold Hid
    rw [List.size_toArray, List.size_toArray, nums_length, nums_length, hl]
    rfl
  clear hts her hl
  have HZ2 : Hid ((w2.alloc zB16).heap[w2.heap.size]? = some zB16) := at_new w2 _
  go_wp2_with
    (first
     | (refine wpList_store_row_o rfl 44 (.tmp 8) (.tmp 19) rfl w2.heap.size (nums .u8 ts).toArray rfl rfl 44 (nums .u8 (List.replicate 16 0)).toArray HZ2.out HI16.out HZ16.out (one_all _ _) ?_
        intro w3 h3 ho3 hs3 hb3
        have HE3 : Hid (Ext w2 w3) := ⟨hb3 w2.heap.size w2 (Ext.out (w := w2) (w' := w2.alloc zB16)) (Nat.le_refl _)⟩
        have HD3 := Lib.hid h3
        clear h3 ho3 hs3 hb3))
  have X3 : Ext w2 w3 := HE3.out
  have HX3 : Hid (Ext w w3) := Ext.trans_ (inferInstance : Ext w w2) X3
  have YX3 : Ext w w3 := HX3.out
  refine (rresp4_any id s A n c xs Hn.out hsn HB.out _ (by exact HX.out.ext)).mono ?_
  rintro e w4 ⟨rfl, hb4⟩
  rw [HTS.out, HER.out]
  have S4 : Step w4 w3 := ⟨hb4⟩
  clear hb4
  have HD4 : Hid (w4.heap[w2.heap.size]? = _) := at_ext HD3.out
  have HZ4 : Hid ((w4.alloc zB16).heap[w4.heap.size]? = some zB16) := at_new w4 _
  have hz4 : w2.heap.size < w4.heap.size := at_lt HD4.out
  go_wp2_with
    (first
     | (refine wpList_store_row_o rfl 44 (.tmp 10) (.tmp 26) rfl w4.heap.size (nums .u8 ts).toArray rfl rfl 44 (nums .u8 (List.replicate 16 0)).toArray HZ4.out HI16.out HZ16.out (one_all _ _) ?_
        intro w5 h5 ho5 hs5 hb5
        have HE5 : Hid (Ext w4 w5) := ⟨hb5 w4.heap.size w4 (Ext.out (w := w4) (w' := w4.alloc zB16)) (Nat.le_refl _)⟩
        have HD5 := Lib.hid h5
        have HD6 : Hid (w5.heap[w2.heap.size]? = _) := at_ext (h := HE5.out) HD4.out
        obtain ⟨i0, hi0, hzz⟩ := Option.map_eq_some_iff.1 info_u8
        have hEq : ∀ W : World, (Op.equalIn 10000 44 (.agg (nums .u8 ts).toArray) (.agg (nums .u8 ts).toArray)).run Try.prog W = .ok true W := fun W => run_equalIn_self W 9998 44 5 16 .u8 ts i0 Try.underlying44 Try.underlying5 hi0 (by simp only [Prod.mk.injEq] at hzz; exact hzz.2.1) HL.out
        clear h5 ho5 hs5 hb5 hi0 hzz)
     | (refine wpList_load_row rfl 44 (.tmp 8) rfl w2.heap.size rfl 44 (nums .u8 ts).toArray (0, 0) _ HD6.out Try.underlying44 rfl HI16.out ?_)
     | (refine wpList_load_row rfl 44 (.tmp 10) rfl w4.heap.size rfl 44 (nums .u8 ts).toArray (0, 0) _ HD5.out Try.underlying44 rfl HI16.out ?_))
  have X5 : Ext w4 w5 := HE5.out
  have X45 : Ext w3 w5 := Ext.trans_ (inferInstance : Ext w3 w4) X5
  have X25 : Ext w2 w5 := Ext.trans_ X3 X45
  have X05 : Ext w w5 := Ext.trans_ (inferInstance : Ext w w2) X25
  have X15 : Ext w1 w5 := Ext.trans_ (inferInstance : Ext w1 w2) X25
  refine (kept4_true g cap n n c _ A xs Hn.out HB.out rfl hcap (by omega) _ (own_ext HO1.out) (HX.out.ext)).mono ?_
  rintro e w6 ⟨rfl, rfl⟩
  go_wp2_with fail
  refine (awake4_any _).mono ?_
  rintro e w7 ⟨rfl, hb7⟩
  have S7 : Step w7 _ := ⟨hb7⟩
  clear hb7
  go_wp2
  go_ret
  exact ⟨rfl, Ext.out⟩

namespace Md5Responses
set_option maxRecDepth 100000 in
theorem walk (W : World) (vs : List Value) (h : Args 1048576 Try.prog W Try.f7.params.toList vs) : Calls Try.prog 7 vs.toArray W fun e W' => e = .returned (.bool true) ∧ Below W.heap.size W W' := by
  rw [Try.params7] at h
  match vs, h with
  | [v0, v1, v2], ⟨h0, h1, h2, _⟩ =>
    obtain ⟨id, rfl, _⟩ := h0.int Try.underlying3
    obtain ⟨s, rfl, _⟩ := h1.str Try.underlying9
    obtain ⟨A, n, c, xs, rfl, hl, hnc, hn, hC, hB⟩ := h2.bytes Try.underlying42 Try.underlying5 cells_u8 bytes_u8
    have hr := h2.room Try.underlying42
    have hs := h1.letters Try.underlying9
    exact responses_any id s A n c xs hl (by omega) hB W hC

set_option maxRecDepth 100000 in
theorem lifted (os : Os) (started : os.Started) (H : Type) (enc : TypeId × Value → H) (F : Stop.Interp) :
    ReturnsInHanded {} Try.checked os 7 .any ((Rows.OpenSpec.upto Rows.md5ResponsesSpec).pre6 enc Try.prog Try.f7 Rows.md5ResponsesUptoRow.domain false) (((Rows.OpenSpec.upto Rows.md5ResponsesSpec).at F).post enc Try.prog Try.f7 false true false false) :=
  law_lifted_upto (C := Try.checked) laid_out own_knob started (by kernel_rfl) Try.func7 H enc F rfl
    (fun ds hd => by
      have : ds.length = 3 := hd
      match ds, this with
      | [_, _, _], _ => exact ⟨rfl, rfl, rfl⟩) rfl Try.underlying4 (by
      have : (Try.f7.params.toList.all fun t => Try.prog.readableRec t && decide (t < Try.prog.types.size)) = true := by kernel_rfl
      intro t ht
      have h := List.all_eq_true.1 this t ht
      rw [Bool.and_eq_true, decide_eq_true_eq] at h
      exact h)
    (OpenSpec.witness (enc := enc) (C := Try.checked) (s := Rows.OpenSpec.upto Rows.md5ResponsesSpec) (k := Rows.uptoSmall) rfl false ⟨#[], #[.int .i64 0, .string ⟨#[]⟩, .slice none 0 0], []⟩ 8 (by kernel_rfl) (by kernel_rfl) (by kernel_rfl)
      (x := ([.lit (.int .i64 0), .lit (.string []), .nil], [], [])) (by kernel_rfl) rfl (by kernel_rfl)) walk

theorem over : Rows.md5ResponsesUptoRow.holds Try.pinned (Rows.OpenSpec.upto Rows.md5ResponsesSpec) :=
  OpenClaim.holds_of_cond 7 Try.f7 rfl rfl rfl rfl rfl rfl rfl ⟨rfl, rfl, rfl, rfl, rfl⟩ rfl rfl rfl rfl rfl (by kernel_rfl) Try.func7 (by kernel_rfl)
    (of_decide_eq_true (by kernel_rfl)) (by unfold Func.isWrapper; first | (rw [if_pos (by decide +kernel)]; kernel_rfl) | (rw [if_neg (by decide +kernel)]; exact ⟨rfl, rfl⟩))
    (fun os started H enc _ F => lifted os started H enc F)

/-- The statement. -/
theorem proved : Rows.Md5ResponsesUptoSaid := over
#print axioms proved
end Md5Responses
end Go.Proofs.Ytmopdimokoogmaa
