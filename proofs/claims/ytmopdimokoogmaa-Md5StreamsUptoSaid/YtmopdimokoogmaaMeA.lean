/-
  md5: Reset and Len of a stream that is there; what is kept where a stream is written. Conditions: none.
-/
import Derived.Test.YtmopdimokoogmaaMdY
namespace Go.Proofs.Ytmopdimokoogmaa
open Go.RowKit
set_option linter.unusedVariables false
set_option linter.unusedSimpArgs false

theorem own_only {S : Nat → Prop} {w w' : World} {base n size : Nat} {e : TypeId} {v : Value} {cs : List Value} (h : w.ownsRow base e size v n cs) (hon : Only S w w') (hd : ∀ k, v.ownBlock = some k → ¬ S k) : w'.ownsRow base e size v n cs := by
  refine ⟨h.1, h.2.imp id ?_⟩
  rintro ⟨b, cap, cur, rfl, hb, hg, rest⟩
  exact ⟨b, cap, cur, rfl, hb, (hon.block b (at_lt hg) (hd b rfl)).trans hg, rest⟩
theorem Only.of_grown {w w' : World} {row : Option Nat} (h : w.grownBy w' row) : Only (fun k => row = some k) w w' := (Only.refl_ _ w).grown h (fun b hb => .inl hb)
theorem Only.step {S : Nat → Prop} {w0 w w' : World} [X : Ext w0 w] (hon : Only S w w') (hS : ∀ k, S k → w0.heap.size ≤ k) : Ext w0 w' := ⟨X.out.trans (hon.below hS X.out.size)⟩
set_option maxHeartbeats 1000000 in
theorem len4_any (g base : Nat) (ys : List Int) (pv lv : Value) (w : World) (hs : StreamOf w base g ys pv lv) :
    Calls Try.prog 51 #[.pointer (some ⟨g, 0, none⟩)] w fun e w' => e = .returned (.int .i64 ys.length) ∧ w = w' := by
  have c6 : w.cell? ⟨g, 6, none⟩ = some (.int .i64 ys.length) := at_cell hs.at_ 6
  clear hs
  go_enter Try.func51, Try.ntmps51
  go_wp2
  go_ret
  exact ⟨rfl, rfl⟩
set_option maxRecDepth 100000 in
set_option maxHeartbeats 4000000 in
theorem reset4_any (g base : Nat) (ys : List Int) (pv lv : Value) (w : World) (hs : StreamOf w base g ys pv lv) :
    Calls Try.prog 50 #[.pointer (some ⟨g, 0, none⟩)] w fun e w' => e = .returned (.tuple #[]) ∧ StreamOf w' base g [] (.slice none 0 0) (.slice none 0 0) ∧ Only (fun k => k = g) w w' := by
  have hat := hs.at_
  obtain ⟨⟨a, b, c, d⟩, hq⟩ : ∃ s, mdN beginW ys (ys.length / 64) = s := ⟨_, rfl⟩
  rw [hq] at hat
  have HAT := Lib.hid hat
  have HB : Hid (base ≤ g) := hs.base_
  have HG : Hid (g < w.heap.size) := at_lt hat
  obtain ⟨PA, pc, rfl, _⟩ := own_slice hs.past
  obtain ⟨LA, lc, rfl, _⟩ := hs.left.slice
  clear hs hat hq
  go_enter Try.func50, Try.ntmps50
  go_wp2_with fail
  refine (begin4_any _).mono ?_
  rintro e w1 ⟨rfl, hb1⟩
  have S1 : Step w1 _ := ⟨hb1⟩
  have HAT1 : Hid (w1.heap[g]? = _) := at_ext HAT.out
  have HX1 : Hid (Ext w w1) := ⟨hb1⟩
  simp only [nums, beginL, List.map_cons, List.map_nil]
  clear hb1
  go_wp2_with
    (refine wpList_store_row rfl 99 (.tmp 7) (.tmp 6) rfl g #[.int .u32 0x67452301, .int .u32 0xefcdab89, .int .u32 0x98badcfe, .int .u32 0x10325476, .slice none 0 0, .slice none 0 0, .int .i64 0] rfl rfl 99 _ HAT1.out (by kernel_rfl) rfl (by simp [Value.oneCell']) ?_)
  go_end0
  refine ⟨rfl, ⟨setRow_heap _ _ _ _ _ _ HAT1.out, HB.out, Tail.nil_ _ _, own_nil _ _ _ _, by simp [Value.ownBlock], by simp [Value.ownBlock], fun k hk => by cases hk⟩, ?_⟩
  exact ((Only.refl_ _ w).ext HX1.out).grown (row := some g) ⟨rfl, rfl, rfl, by simp [World.setRow], fun k _ hk => setRow_other _ _ _ _ (fun e => hk (by rw [e]))⟩ (fun b hb => .inl (by injection hb with hb; exact hb.symm))
end Go.Proofs.Ytmopdimokoogmaa
