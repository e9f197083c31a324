/-
  What opt's packets and the reference's tell: Clone, Pack, Unpack, SamePacket. Conditions: the lists are no longer than the model's memory; numbers are of their kinds.
-/
import Derived.Test.YthlfdckcnpnemaaDoorPut
import Derived.Deep.RegionWith
import Derived.Laws.ResultCell
namespace Go.Proofs.YthlfdckcnpnemaaDoor
open Go.RowKit
set_option linter.unusedVariables false
set_option linter.unusedSimpArgs false

/-- What has just been laid in a block of its own. -/
theorem cells_box (w : World) (b : Nat) (h : w.heap.size = b) (cs : List Value) (e : TypeId) : Cells (w.alloc (.cells cs.toArray e)) (some ⟨b, 0, none⟩) cs := by
  subst h
  intro _
  refine ⟨_, rfl, fun j u hu => ?_⟩
  exact World.news_of_block (cs := cs.toArray) (t := e) (fr := (0, 0)) (heap_alloc_new w _) j u (by simpa using hu)

set_option maxHeartbeats 400000 in
theorem clone_any (A : Option Addr) (n c : Nat) (xs : List Int) (hn : xs.length = n) (hn' : n ≤ 140737488355300) (w : World) (hx : Cells w A (nums .u8 xs)) :
    Calls Tryd.prog 42 #[.slice A n c] w fun e w' => ∃ v, e = .returned v ∧ w'.ownsRow w.heap.size 5 1 v n (nums .u8 xs) ∧ Below w.heap.size w w' := by
  have keq := fun W => Lib.run_eql_slice_nil (P := Tryd.prog) W 22 5 A n c 0 0 Tryd.underlying22
  have Hn := Lib.hid hn
  rcases A with _ | ad
  · have hz : n = 0 := by
      rcases Nat.eq_zero_or_pos n with h | h
      · exact h
      · obtain ⟨_, h2, _⟩ := hx (by rw [nums_length]; omega)
        cases h2
    subst hz
    have HZ : Hid (xs = []) := List.eq_nil_of_length_eq_zero hn
    clear hn
    go_enter Tryd.func42, Tryd.ntmps42
    go_wp2
    go_ret
    exact ⟨_, rfl, by rw [HZ.out]; exact own_nil _ _ _ _, Below.refl _ _⟩
  · clear hn
    go_enter Tryd.func42, Tryd.ntmps42
    have ho0 : (w.alloc (.cells #[] 5)).ownsRow w.heap.size 5 1 (.slice (some ⟨w.heap.size, 0, none⟩) 0 0) 0 [] :=
      own_of_block (cur := []) (heap_alloc_new w _) (Nat.le_refl _) (Nat.le_refl _) (by omega) rfl
    have HO0 := Lib.hid ho0
    clear ho0
    go_wp2_with
      (at_builtin
       refine wp_append_cells (w0 := w) w.heap.size rfl (.tmp 5) (.tmp 6) 22 5 (.int .u8 0) 1 1 rfl Tryd.underlying22 info_u8 rfl (by decide) (by decide) (.slice (some ⟨w.heap.size, 0, none⟩) 0 0) 0 [] (some ad) n c (nums .u8 xs) rfl rfl ?_ (nums_one _ _) HO0.out (hx.alloc _) ((Below.refl _ _).alloc (Nat.le_refl _) _) (by simp) ?_ ?_
       · rw [nums_length, Hn.out, Nat.mul_one]
       · omega
       intro v1 w1 ho1 hb1 _ _
       rw [List.nil_append, Nat.zero_add] at ho1
       have HO1 := Lib.hid ho1
       have HB1 := Lib.hid hb1
       clear ho1 hb1)
    go_ret
    exact ⟨_, rfl, HO1.out, HB1.out⟩
def octB (n : Int) : Prop := 0 ≤ n ∧ n ≤ 255
instance (n : Int) : Decidable (octB n) := by unfold octB; infer_instance
def packE (code id : Int) (data : List Int) : Int := if ¬ (octB code ∧ octB id) then 90 else if 16380 < data.length then 4 else 0
def packL (code id : Int) (data : List Int) : List Int := if ¬ (octB code ∧ octB id) then [] else if 16380 < data.length then [] else [code, id] ++ be ((data.length : Int) + 4) 2 ++ data
def PackTells (E : TypeId) (code id : Int) (data : List Int) (w : World) (e : Ending) (w' : World) : Prop :=
  ∃ v, e = .returned (.tuple #[v, .int .i64 (packE code id data)]) ∧ w'.ownsRow w.heap.size E 1 v (packL code id data).length (nums .u8 (packL code id data)) ∧ Below w.heap.size w w'
theorem packTells_code {E : TypeId} {code id : Int} {data : List Int} {w w' : World} (h : ¬ (octB code ∧ octB id)) (hb : Below w.heap.size w w') : PackTells E code id data w (.returned (.tuple #[.slice none 0 0, .int .i64 90])) w' :=
  ⟨_, by unfold packE; rw [if_pos h], by unfold packL; rw [if_pos h]; exact own_nil _ _ _ _, hb⟩
theorem packTells_size {E : TypeId} {code id : Int} {data : List Int} {w w' : World} (h : octB code ∧ octB id) (hl : 16380 < data.length) (hb : Below w.heap.size w w') : PackTells E code id data w (.returned (.tuple #[.slice none 0 0, .int .i64 4])) w' :=
  ⟨_, by unfold packE; rw [if_neg (by simpa using h), if_pos hl], by unfold packL; rw [if_neg (by simpa using h), if_pos hl]; exact own_nil _ _ _ _, hb⟩
theorem packTells_ok {E : TypeId} {code id : Int} {data : List Int} {v : Value} {w w' : World} (h : octB code ∧ octB id) (hl : ¬ 16380 < data.length) (hb : Below w.heap.size w w') (ho : w'.ownsRow w.heap.size E 1 v (4 + data.length) (nums .u8 ([code, id] ++ be ((data.length : Int) + 4) 2 ++ data))) :
    PackTells E code id data w (.returned (.tuple #[v, .int .i64 0])) w' := by
  refine ⟨_, by unfold packE; rw [if_neg (by simpa using h), if_neg hl], ?_, hb⟩
  unfold packL
  rw [if_neg (by simpa using h), if_neg hl, List.length_append, List.length_append, be_length]
  exact ho

theorem octets_yes (n : Int) (h : 0 ≤ n) (h' : n ≤ 255) (w : World) : Calls Tryd.prog 41 #[.int .i64 n] w fun e w' => e = .returned (.bool true) ∧ w' = w := by
  go_enter Tryd.func41, Tryd.ntmps41
  go_wp2
  go_ret
  exact ⟨rfl, rfl⟩
theorem octets_no (n : Int) (h : ¬ (0 ≤ n ∧ n ≤ 255)) (w : World) : Calls Tryd.prog 41 #[.int .i64 n] w fun e w' => e = .returned (.bool false) ∧ w' = w := by
  by_cases h0 : 0 ≤ n
  · have h1 : ¬ n ≤ 255 := fun h1 => h ⟨h0, h1⟩
    clear h
    go_enter Tryd.func41, Tryd.ntmps41
    go_wp2
    go_ret
    exact ⟨rfl, rfl⟩
  · clear h
    go_enter Tryd.func41, Tryd.ntmps41
    go_wp2
    go_ret
    exact ⟨rfl, rfl⟩
set_option maxHeartbeats 400000 in
theorem pack_any (code id : Int) (A : Option Addr) (n c : Nat) (xs : List Int) (hn : xs.length = n) (hn' : n ≤ 140737488355300) (h1 : -9223372036854775808 ≤ code) (h1' : code ≤ 9223372036854775807) (h2 : -9223372036854775808 ≤ id) (h2' : id ≤ 9223372036854775807) (w : World) (hx : Cells w A (nums .u8 xs)) :
    Calls Tryd.prog 32 #[.agg #[.int .i64 code, .int .i64 id, .slice A n c]] w (PackTells 5 code id xs w) := by
  have Hn := Lib.hid hn
  by_cases hc : octB code ∧ octB id
  · obtain ⟨⟨hc1, hc2⟩, hi1, hi2⟩ := hc
    by_cases hl : 16380 < n
    · have HE : Hid (∀ w', Below w.heap.size w w' → PackTells 5 code id xs w (.returned (.tuple #[.slice none 0 0, .int .i64 4])) w') := fun w' hb => packTells_size ⟨⟨hc1, hc2⟩, hi1, hi2⟩ (by rw [hn]; exact hl) hb
      clear hn
      go_enter Tryd.func32, Tryd.ntmps32
      go_wp2_with (go_at_call 41; refine (octets_yes _ (by omega) (by omega) _).mono ?_; rintro e w' ⟨rfl, rfl⟩)
      go_ret2
      exact HE.out _ ((Below.refl _ _).alloc (Nat.le_refl _) _)
    · have HE : Hid (∀ w' v, Below w.heap.size w w' → w'.ownsRow w.heap.size 5 1 v (4 + xs.length) (nums .u8 ([code, id] ++ be ((xs.length : Int) + 4) 2 ++ xs)) → PackTells 5 code id xs w (.returned (.tuple #[v, .int .i64 0])) w') := fun w' v hb ho => packTells_ok ⟨⟨hc1, hc2⟩, hi1, hi2⟩ (by rw [hn]; exact hl) hb ho
      have hnp : ¬ putBad ((n : Int) + 4) 2 := by
        unfold putBad
        simp only [Int.reduceToNat, Int.reducePow]
        omega
      have HNP := Lib.hid hnp
      clear hn hnp
      go_enter Tryd.func32, Tryd.ntmps32
      go_wp2_with (go_at_call 41; refine (octets_yes _ (by omega) (by omega) _).mono ?_; rintro e w' ⟨rfl, rfl⟩)
      refine (put_any (some ⟨w.heap.size + 1, 0, none⟩) 2 2 ((n : Int) + 4) 2 [code, id] rfl (by omega) (by omega) (by omega) (by omega) (by omega) _ ?_).mono ?_
      · exact cells_box _ _ (by simp) [.int .u8 code, .int .u8 id] 5
      rintro e w1 ⟨v1, rfl, ho1, hb1⟩
      rw [putE_ok HNP.out]
      rw [putL_ok HNP.out, show (2 : Int).toNat = 2 from rfl] at ho1
      simp only [World.size_alloc] at ho1 hb1
      have hb1' : Below w.heap.size w w1 := (((Below.refl _ _).alloc (Nat.le_refl _) _).alloc (by simp) _).trans (hb1.mono (by omega))
      have HX1 := Lib.hid (hx.below hb1')
      have hl4 : ([code, id] ++ be ((n : Int) + 4) 2).length = 4 := by simp [be_length]
      rw [hl4] at ho1
      have HO1 := Lib.hid (own_weaken ho1 (show w.heap.size ≤ w.heap.size + 1 + 1 by omega))
      have HB1 := Lib.hid hb1'
      have hcd := (hb1.cell (p := ⟨w.heap.size, 2, none⟩) (by show w.heap.size < _; omega))
      clear ho1 hb1 hb1' hl4
      go_wp2_with
        (at_builtin
         refine wp_append_cells (w0 := w) w.heap.size rfl (.tmp 38) (.tmp 40) 22 5 (.int .u8 0) 1 1 rfl Tryd.underlying22 info_u8 rfl (by decide) (by decide) v1 4 (nums .u8 ([code, id] ++ be ((n : Int) + 4) 2)) A n c (nums .u8 xs) rfl rfl ?_ (nums_one _ _) HO1.out HX1.out HB1.out HB1.out.size ?_ ?_
         · rw [nums_length, Hn.out, Nat.mul_one]
         · omega
         intro v2 w2 ho2 hb2 _ _
         have HO2 := Lib.hid ho2
         have HB2 := Lib.hid hb2
         clear ho2 hb2)
      go_ret2
      refine HE.out _ _ HB2.out ?_
      rw [Hn.out, nums_append (xs := [code, id] ++ be ((n : Int) + 4) 2)]
      exact HO2.out
  · have HE : Hid (∀ w', Below w.heap.size w w' → PackTells 5 code id xs w (.returned (.tuple #[.slice none 0 0, .int .i64 90])) w') := fun w' hb => packTells_code hc hb
    unfold octB at hc
    clear hn
    by_cases hcc : 0 ≤ code ∧ code ≤ 255
    · have hii : ¬ (0 ≤ id ∧ id ≤ 255) := fun h => hc ⟨hcc, h⟩
      obtain ⟨hc1, hc2⟩ := hcc
      have HII := Lib.hid hii
      clear hc hii
      go_enter Tryd.func32, Tryd.ntmps32
      go_wp2_with fail
      refine (octets_yes _ hc1 hc2 _).mono ?_
      rintro e w' ⟨rfl, rfl⟩
      go_wp2_with fail
      refine (octets_no _ HII.out _).mono ?_
      rintro e w' ⟨rfl, rfl⟩
      go_wp2_with fail
      go_ret2
      exact HE.out _ ((Below.refl _ _).alloc (Nat.le_refl _) _)
    · have HCC := Lib.hid hcc
      clear hc hcc
      go_enter Tryd.func32, Tryd.ntmps32
      go_wp2_with fail
      refine (octets_no _ HCC.out _).mono ?_
      rintro e w' ⟨rfl, rfl⟩
      go_wp2_with fail
      go_ret2
      exact HE.out _ ((Below.refl _ _).alloc (Nat.le_refl _) _)
/-- A row that has just been laid in a block of its own. -/
theorem own_box (w : World) (base b : Nat) (h : w.heap.size = b) (hb : base ≤ b) (cs : List Value) (n size : Nat) (hn : cs.length = n * size) (hm : n ≤ 9223372036854775807) (e : TypeId) : (w.alloc (.cells cs.toArray e)).ownsRow base e size (.slice (some ⟨b, 0, none⟩) n n) n cs := by
  subst h
  have h2 := own_of_block (n := n) (cap := n) (size := size) (heap_alloc_new w (.cells cs.toArray e)) hb (Nat.le_refl _) hm hn
  rwa [List.take_of_length_le (by omega)] at h2

end Go.Proofs.YthlfdckcnpnemaaDoor
