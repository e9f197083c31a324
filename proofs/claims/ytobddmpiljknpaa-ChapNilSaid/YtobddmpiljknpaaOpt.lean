/-
  What opt's packets and the reference's tell: Clone, Pack, Unpack, SamePacket. Conditions: the lists are no longer than the model's memory; numbers are of their kinds.
-/
import Derived.Test.YtobddmpiljknpaaRef01
import Derived.Test.YtobddmpiljknpaaMath
import Derived.Deep.RegionWith
import Derived.Laws.ResultCell
namespace Go.Proofs.Ytobddmpiljknpaa
open Go.RowKit
set_option linter.unusedVariables false
set_option linter.unusedSimpArgs false

/-- What has just been laid in a block of its own. -/
theorem cells_box (w : World) (b : Nat) (h : w.heap.size = b) (cs : List Value) (e : TypeId) : Cells (w.alloc (.cells cs.toArray e)) (some ⟨b, 0, none⟩) cs := by
  subst h
  intro _
  refine ⟨_, rfl, fun j u hu => ?_⟩
  exact World.news_of_block (cs := cs.toArray) (t := e) (fr := (0, 0)) (heap_alloc_new w _) j u (by simpa using hu)

set_option maxHeartbeats 400000 in
theorem clone_any (A : Option Addr) (n c : Nat) (xs : List Int) (hn : xs.length = n) (hn' : n ≤ 140737488355300) (w : World) (hx : Cells w A (nums .u8 xs)) :
    Calls Try.prog 112 #[.slice A n c] w fun e w' => ∃ v, e = .returned v ∧ w'.ownsRow w.heap.size 5 1 v n (nums .u8 xs) ∧ Below w.heap.size w w' := by
  have keq := fun W => Lib.run_eql_slice_nil (P := Try.prog) W 22 5 A n c 0 0 Try.underlying22
  have Hn := Lib.hid hn
  rcases A with _ | ad
  · have hz : n = 0 := by
      rcases Nat.eq_zero_or_pos n with h | h
      · exact h
      · obtain ⟨_, h2, _⟩ := hx (by rw [nums_length]; omega)
        cases h2
    subst hz
    have HZ : Hid (xs = []) := List.eq_nil_of_length_eq_zero hn
    clear hn
    go_enter Try.func112, Try.ntmps112
    go_wp2
    go_ret
    exact ⟨_, rfl, by rw [HZ.out]; exact own_nil _ _ _ _, Below.refl _ _⟩
  · clear hn
    go_enter Try.func112, Try.ntmps112
    have ho0 : (w.alloc (.cells #[] 5)).ownsRow w.heap.size 5 1 (.slice (some ⟨w.heap.size, 0, none⟩) 0 0) 0 [] :=
      own_of_block (cur := []) (heap_alloc_new w _) (Nat.le_refl _) (Nat.le_refl _) (by omega) rfl
    have HO0 := Lib.hid ho0
    clear ho0
    go_wp2_with
      (at_builtin
       refine wp_append_cells (w0 := w) w.heap.size rfl (.tmp 5) (.tmp 6) 22 5 (.int .u8 0) 1 1 rfl Try.underlying22 info_u8 rfl (by decide) (by decide) (.slice (some ⟨w.heap.size, 0, none⟩) 0 0) 0 [] (some ad) n c (nums .u8 xs) rfl rfl ?_ (nums_one _ _) HO0.out (hx.alloc _) ((Below.refl _ _).alloc (Nat.le_refl _) _) (by simp) ?_ ?_
       · rw [nums_length, Hn.out, Nat.mul_one]
       · omega
       intro v1 w1 ho1 hb1 _ _
       rw [List.nil_append, Nat.zero_add] at ho1
       have HO1 := Lib.hid ho1
       have HB1 := Lib.hid hb1
       clear ho1 hb1)
    go_ret
    exact ⟨_, rfl, HO1.out, HB1.out⟩
def octB (n : Int) : Prop := 0 ≤ n ∧ n ≤ 255
instance (n : Int) : Decidable (octB n) := by unfold octB; infer_instance
def packE (code id : Int) (data : List Int) : Int := if ¬ (octB code ∧ octB id) then 90 else if 16380 < data.length then 4 else 0
def packL (code id : Int) (data : List Int) : List Int := if ¬ (octB code ∧ octB id) then [] else if 16380 < data.length then [] else [code, id] ++ be ((data.length : Int) + 4) 2 ++ data
def PackTells (E : TypeId) (code id : Int) (data : List Int) (w : World) (e : Ending) (w' : World) : Prop :=
  ∃ v, e = .returned (.tuple #[v, .int .i64 (packE code id data)]) ∧ w'.ownsRow w.heap.size E 1 v (packL code id data).length (nums .u8 (packL code id data)) ∧ Below w.heap.size w w'
theorem packTells_code {E : TypeId} {code id : Int} {data : List Int} {w w' : World} (h : ¬ (octB code ∧ octB id)) (hb : Below w.heap.size w w') : PackTells E code id data w (.returned (.tuple #[.slice none 0 0, .int .i64 90])) w' :=
  ⟨_, by unfold packE; rw [if_pos h], by unfold packL; rw [if_pos h]; exact own_nil _ _ _ _, hb⟩
theorem packTells_size {E : TypeId} {code id : Int} {data : List Int} {w w' : World} (h : octB code ∧ octB id) (hl : 16380 < data.length) (hb : Below w.heap.size w w') : PackTells E code id data w (.returned (.tuple #[.slice none 0 0, .int .i64 4])) w' :=
  ⟨_, by unfold packE; rw [if_neg (by simpa using h), if_pos hl], by unfold packL; rw [if_neg (by simpa using h), if_pos hl]; exact own_nil _ _ _ _, hb⟩
theorem packTells_ok {E : TypeId} {code id : Int} {data : List Int} {v : Value} {w w' : World} (h : octB code ∧ octB id) (hl : ¬ 16380 < data.length) (hb : Below w.heap.size w w') (ho : w'.ownsRow w.heap.size E 1 v (4 + data.length) (nums .u8 ([code, id] ++ be ((data.length : Int) + 4) 2 ++ data))) :
    PackTells E code id data w (.returned (.tuple #[v, .int .i64 0])) w' := by
  refine ⟨_, by unfold packE; rw [if_neg (by simpa using h), if_neg hl], ?_, hb⟩
  unfold packL
  rw [if_neg (by simpa using h), if_neg hl, List.length_append, List.length_append, be_length]
  exact ho

/-- A row that has just been laid in a block of its own. -/
theorem own_box (w : World) (base b : Nat) (h : w.heap.size = b) (hb : base ≤ b) (cs : List Value) (n size : Nat) (hn : cs.length = n * size) (hm : n ≤ 9223372036854775807) (e : TypeId) : (w.alloc (.cells cs.toArray e)).ownsRow base e size (.slice (some ⟨b, 0, none⟩) n n) n cs := by
  subst h
  have h2 := own_of_block (n := n) (cap := n) (size := size) (heap_alloc_new w (.cells cs.toArray e)) hb (Nat.le_refl _) hm hn
  rwa [List.take_of_length_le (by omega)] at h2

end Go.Proofs.Ytobddmpiljknpaa
