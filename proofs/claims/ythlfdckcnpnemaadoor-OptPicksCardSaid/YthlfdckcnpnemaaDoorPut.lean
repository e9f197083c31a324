/-
  What octet.Put and the reference's twin tell. Conditions: the list is no longer than the model's memory.
-/
import Derived.Test.YthlfdckcnpnemaaDoorOctet
namespace Go.Proofs.YthlfdckcnpnemaaDoor
open Go.RowKit
set_option linter.unusedVariables false
set_option linter.unusedSimpArgs false

def putBad (n size : Int) : Prop := size < 1 ∨ 8 < size ∨ (size < 8 ∧ n / 256 ^ size.toNat ≠ 0)
instance (n size : Int) : Decidable (putBad n size) := by unfold putBad; infer_instance
def putE (n size : Int) : Int := if putBad n size then 1 else 0
def putL (xs : List Int) (n size : Int) : List Int := if putBad n size then [] else xs ++ be n size.toNat
theorem putE_bad {n size : Int} (h : putBad n size) : putE n size = 1 := by unfold putE; rw [if_pos h]
theorem putE_ok {n size : Int} (h : ¬ putBad n size) : putE n size = 0 := by unfold putE; rw [if_neg h]
theorem putL_bad {xs : List Int} {n size : Int} (h : putBad n size) : putL xs n size = [] := by unfold putL; rw [if_pos h]
theorem putL_ok {xs : List Int} {n size : Int} (h : ¬ putBad n size) : putL xs n size = xs ++ be n size.toNat := by unfold putL; rw [if_neg h]
theorem putL_byt {xs : List Int} (n size : Int) (h : Byt xs) : Byt (putL xs n size) := by
  unfold putL
  split
  · exact Byt.nil_
  · exact h.append (be_byt _ _)
theorem putL_length_le (xs : List Int) (n size : Int) : (putL xs n size).length ≤ xs.length + 8 := by
  unfold putL
  split
  · simp
  · rename_i h
    unfold putBad at h
    rw [List.length_append, be_length]
    omega

/-- What a call of Put comes to. -/
def PutTells (E : TypeId) (xs : List Int) (n size : Int) (w : World) (e : Ending) (w' : World) : Prop :=
  ∃ v, e = .returned (.tuple #[v, .int .i64 (putE n size)]) ∧ w'.ownsRow w.heap.size E 1 v (putL xs n size).length (nums .u8 (putL xs n size)) ∧ Below w.heap.size w w'
theorem putTells_bad {E : TypeId} {xs : List Int} {n size : Int} {w : World} (h : putBad n size) : PutTells E xs n size w (.returned (.tuple #[.slice none 0 0, .int .i64 1])) w :=
  ⟨_, by rw [putE_bad h], by rw [putL_bad h]; exact own_nil _ _ _ _, Below.refl _ _⟩
theorem putTells_ok {E : TypeId} {xs : List Int} {n size : Int} {k m : Nat} {w w' : World} {v : Value} (h : ¬ putBad n size) (hk : size = k) (hm : xs.length = m) (ho : w'.ownsRow w.heap.size E 1 v (m + k) (nums .u8 (xs ++ be n k))) (hb : Below w.heap.size w w') :
    PutTells E xs n size w (.returned (.tuple #[v, .int .i64 0])) w' :=
  ⟨_, by rw [putE_ok h], by rw [putL_ok h, hk, Int.toNat_natCast, List.length_append, be_length, hm]; exact ho, hb⟩

theorem put_own (m : Nat) (xs : List Int) (hm : xs.length = m) (hm' : m ≤ 140737488355300) (E : TypeId) (base : Nat) (w2 : World) (b : Nat) (hb : base ≤ b) (k : Nat) (hk : k ≤ 8)
    (h : w2.heap[b]? = some (.cells (splice (List.replicate (m + k) (Value.int .u8 0)) 0 (nums .u8 xs)).toArray E (0, 0))) :
    w2.ownsRow base E 1 (.slice (some ⟨b, 0, none⟩) m (m + k)) m (nums .u8 xs) := by
  have h2 := own_of_block (n := m) (cap := m + k) (size := 1) h hb (by omega) (by omega) (by rw [length_splice _ _ _ (by rw [nums_length, hm]; simp)]; simp)
  have h3 : (splice (List.replicate (m + k) (Value.int .u8 0)) 0 (nums .u8 xs)).take (m * 1) = nums .u8 xs := by
    unfold splice
    rw [List.take_zero, List.nil_append, Nat.mul_one]
    exact List.take_left' (by rw [nums_length]; exact hm)
  rwa [h3] at h2

set_option maxHeartbeats 400000 in
theorem put_bad (A : Option Addr) (m c : Nat) (n size : Int) (hm' : m ≤ 140737488355300) (h0 : 0 ≤ n) (h0' : n < 18446744073709551616) (hs : -9223372036854775808 ≤ size) (hs' : size ≤ 9223372036854775807) (xs : List Int) (h : putBad n size) (w : World) :
    Calls Tryd.prog 30 #[.slice A m c, .int .u64 n, .int .i64 size] w (PutTells 5 xs n size w) := by
  have HP := Lib.hid (putTells_bad (E := 5) (xs := xs) (w := w) h)
  unfold putBad at h
  by_cases h1 : size < 1
  · clear h
    go_enter Tryd.func30, Tryd.ntmps30
    go_wp2
    go_ret2
    exact HP.out
  by_cases h2 : 8 < size
  · clear h
    go_enter Tryd.func30, Tryd.ntmps30
    go_wp2
    go_ret2
    exact HP.out
  have hd : size = 1 ∨ size = 2 ∨ size = 3 ∨ size = 4 ∨ size = 5 ∨ size = 6 ∨ size = 7 := by omega
  have hh : n / 256 ^ size.toNat ≠ 0 := by
    rcases h with h | h | h
    · omega
    · omega
    · exact h.2
  clear h hs hs' h1 h2
  rcases hd with rfl | rfl | rfl | rfl | rfl | rfl | rfl
  all_goals
    simp only [Int.reduceToNat, Int.reducePow] at hh
    have hh2 := bne_iff_ne.2 hh
    clear hh
    go_enter Tryd.func30, Tryd.ntmps30
    go_wp2
    go_ret2
    exact HP.out

set_option maxHeartbeats 400000 in
theorem put_ok1 (A : Option Addr) (m c : Nat) (n : Int) (xs : List Int) (hm : xs.length = m) (hm' : m ≤ 140737488355300) (h0 : 0 ≤ n) (h0' : n < 18446744073709551616) (hg : (n / 256 != 0) = false)
    (w : World) (hx : Cells w A (nums .u8 xs)) :
    Calls Tryd.prog 30 #[.slice A m c, .int .u64 n, .int .i64 1] w fun e w' => ∃ v, e = .returned (.tuple #[v, .int .i64 0]) ∧ w'.ownsRow w.heap.size 5 1 v (m + 1) (nums .u8 (xs ++ be n 1)) ∧ Below w.heap.size w w' := by
  have Hm := Lib.hid hm
  clear hm
  go_enter Tryd.func30, Tryd.ntmps30
  go_wp2_with (first
    | (at_make
       refine wp_make (w0 := w) w.heap.size rfl (.tmp 27) (.tmp 31) 22 5 (.int .u8 0) 1 rfl Tryd.underlying22 info_u8 rfl (by decide) .i64 .i64 m (m + 1) rfl rfl (by omega) (by omega) (Below.refl _ _) (Nat.le_refl _) ?_
       intro w1 hw1 hb1 hg1 hz1
       have hx1 := hx.below hb1
       have HW1 := Lib.hid hw1
       clear hw1 hx)
    | ((with_reducible refine gate .copy #[.tmp 33, .tmp 34] rfl ?_)
       refine wp_copy (w0 := w) w.heap.size rfl (.tmp 33) (.tmp 34) 22 22 5 (.int .u8 0) 1 rfl Tryd.underlying22 info_u8 (some ⟨w.heap.size, 0, none⟩) A m (m + 1) m c rfl rfl w.heap.size 0 _ 5 HW1.out (nums .u8 xs) ?_ (fun _ => rfl) hx1 ?_ (nums_one _ _) hb1 (Nat.le_refl _) ?_
       · rw [nums_length, Hm.out]; exact (Nat.min_self _).symm
       · rw [nums_length, Hm.out]; simp
       intro w2 hw2 hb2 hg2
       have HO := Lib.hid (put_own m xs Hm.out hm' 5 w.heap.size w2 _ (Nat.le_refl _) 1 (by omega) hw2)
       have HB := Lib.hid hb2
       clear hw2 hb2 hg2 HW1 hb1 hg1 hz1)
    | (at_builtin
       refine wp_append_box (w0 := w) w.heap.size rfl _ _ 22 5 (.int .u8 0) 1 1 1 rfl Tryd.underlying22 info_u8 rfl (by decide) (by decide) _ _ _ [_] rfl rfl rfl (one_int _ _) (by exact HO.out) HB.out HB.out.size ?_ ?_
       · omega
       clear HO HB
       intro v1 w1 ho hb _ _
       have HO := Lib.hid ho
       have HB := Lib.hid hb
       clear ho hb))
  go_ret2
  refine ⟨_, rfl, ?_, HB.out⟩
  have := HO.out
  try simp only [List.append_assoc, List.cons_append, List.nil_append, Nat.add_assoc, Nat.reduceAdd] at this
  simp only [be, Int.reducePow, Int.ediv_one, nums_append]
  exact this

set_option maxHeartbeats 400000 in
theorem put_ok2 (A : Option Addr) (m c : Nat) (n : Int) (xs : List Int) (hm : xs.length = m) (hm' : m ≤ 140737488355300) (h0 : 0 ≤ n) (h0' : n < 18446744073709551616) (hg : (n / 65536 != 0) = false)
    (w : World) (hx : Cells w A (nums .u8 xs)) :
    Calls Tryd.prog 30 #[.slice A m c, .int .u64 n, .int .i64 2] w fun e w' => ∃ v, e = .returned (.tuple #[v, .int .i64 0]) ∧ w'.ownsRow w.heap.size 5 1 v (m + 2) (nums .u8 (xs ++ be n 2)) ∧ Below w.heap.size w w' := by
  have Hm := Lib.hid hm
  clear hm
  go_enter Tryd.func30, Tryd.ntmps30
  go_wp2_with (first
    | (at_make
       refine wp_make (w0 := w) w.heap.size rfl (.tmp 27) (.tmp 31) 22 5 (.int .u8 0) 1 rfl Tryd.underlying22 info_u8 rfl (by decide) .i64 .i64 m (m + 2) rfl rfl (by omega) (by omega) (Below.refl _ _) (Nat.le_refl _) ?_
       intro w1 hw1 hb1 hg1 hz1
       have hx1 := hx.below hb1
       have HW1 := Lib.hid hw1
       clear hw1 hx)
    | ((with_reducible refine gate .copy #[.tmp 33, .tmp 34] rfl ?_)
       refine wp_copy (w0 := w) w.heap.size rfl (.tmp 33) (.tmp 34) 22 22 5 (.int .u8 0) 1 rfl Tryd.underlying22 info_u8 (some ⟨w.heap.size, 0, none⟩) A m (m + 2) m c rfl rfl w.heap.size 0 _ 5 HW1.out (nums .u8 xs) ?_ (fun _ => rfl) hx1 ?_ (nums_one _ _) hb1 (Nat.le_refl _) ?_
       · rw [nums_length, Hm.out]; exact (Nat.min_self _).symm
       · rw [nums_length, Hm.out]; simp
       intro w2 hw2 hb2 hg2
       have HO := Lib.hid (put_own m xs Hm.out hm' 5 w.heap.size w2 _ (Nat.le_refl _) 2 (by omega) hw2)
       have HB := Lib.hid hb2
       clear hw2 hb2 hg2 HW1 hb1 hg1 hz1)
    | (at_builtin
       refine wp_append_box (w0 := w) w.heap.size rfl _ _ 22 5 (.int .u8 0) 1 1 1 rfl Tryd.underlying22 info_u8 rfl (by decide) (by decide) _ _ _ [_] rfl rfl rfl (one_int _ _) (by exact HO.out) HB.out HB.out.size ?_ ?_
       · omega
       clear HO HB
       intro v1 w1 ho hb _ _
       have HO := Lib.hid ho
       have HB := Lib.hid hb
       clear ho hb))
  go_ret2
  refine ⟨_, rfl, ?_, HB.out⟩
  have := HO.out
  try simp only [List.append_assoc, List.cons_append, List.nil_append, Nat.add_assoc, Nat.reduceAdd] at this
  simp only [be, Int.reducePow, Int.ediv_one, nums_append]
  exact this

set_option maxHeartbeats 400000 in
theorem put_ok3 (A : Option Addr) (m c : Nat) (n : Int) (xs : List Int) (hm : xs.length = m) (hm' : m ≤ 140737488355300) (h0 : 0 ≤ n) (h0' : n < 18446744073709551616) (hg : (n / 16777216 != 0) = false)
    (w : World) (hx : Cells w A (nums .u8 xs)) :
    Calls Tryd.prog 30 #[.slice A m c, .int .u64 n, .int .i64 3] w fun e w' => ∃ v, e = .returned (.tuple #[v, .int .i64 0]) ∧ w'.ownsRow w.heap.size 5 1 v (m + 3) (nums .u8 (xs ++ be n 3)) ∧ Below w.heap.size w w' := by
  have Hm := Lib.hid hm
  clear hm
  go_enter Tryd.func30, Tryd.ntmps30
  go_wp2_with (first
    | (at_make
       refine wp_make (w0 := w) w.heap.size rfl (.tmp 27) (.tmp 31) 22 5 (.int .u8 0) 1 rfl Tryd.underlying22 info_u8 rfl (by decide) .i64 .i64 m (m + 3) rfl rfl (by omega) (by omega) (Below.refl _ _) (Nat.le_refl _) ?_
       intro w1 hw1 hb1 hg1 hz1
       have hx1 := hx.below hb1
       have HW1 := Lib.hid hw1
       clear hw1 hx)
    | ((with_reducible refine gate .copy #[.tmp 33, .tmp 34] rfl ?_)
       refine wp_copy (w0 := w) w.heap.size rfl (.tmp 33) (.tmp 34) 22 22 5 (.int .u8 0) 1 rfl Tryd.underlying22 info_u8 (some ⟨w.heap.size, 0, none⟩) A m (m + 3) m c rfl rfl w.heap.size 0 _ 5 HW1.out (nums .u8 xs) ?_ (fun _ => rfl) hx1 ?_ (nums_one _ _) hb1 (Nat.le_refl _) ?_
       · rw [nums_length, Hm.out]; exact (Nat.min_self _).symm
       · rw [nums_length, Hm.out]; simp
       intro w2 hw2 hb2 hg2
       have HO := Lib.hid (put_own m xs Hm.out hm' 5 w.heap.size w2 _ (Nat.le_refl _) 3 (by omega) hw2)
       have HB := Lib.hid hb2
       clear hw2 hb2 hg2 HW1 hb1 hg1 hz1)
    | (at_builtin
       refine wp_append_box (w0 := w) w.heap.size rfl _ _ 22 5 (.int .u8 0) 1 1 1 rfl Tryd.underlying22 info_u8 rfl (by decide) (by decide) _ _ _ [_] rfl rfl rfl (one_int _ _) (by exact HO.out) HB.out HB.out.size ?_ ?_
       · omega
       clear HO HB
       intro v1 w1 ho hb _ _
       have HO := Lib.hid ho
       have HB := Lib.hid hb
       clear ho hb))
  go_ret2
  refine ⟨_, rfl, ?_, HB.out⟩
  have := HO.out
  try simp only [List.append_assoc, List.cons_append, List.nil_append, Nat.add_assoc, Nat.reduceAdd] at this
  simp only [be, Int.reducePow, Int.ediv_one, nums_append]
  exact this

set_option maxHeartbeats 400000 in
theorem put_ok4 (A : Option Addr) (m c : Nat) (n : Int) (xs : List Int) (hm : xs.length = m) (hm' : m ≤ 140737488355300) (h0 : 0 ≤ n) (h0' : n < 18446744073709551616) (hg : (n / 4294967296 != 0) = false)
    (w : World) (hx : Cells w A (nums .u8 xs)) :
    Calls Tryd.prog 30 #[.slice A m c, .int .u64 n, .int .i64 4] w fun e w' => ∃ v, e = .returned (.tuple #[v, .int .i64 0]) ∧ w'.ownsRow w.heap.size 5 1 v (m + 4) (nums .u8 (xs ++ be n 4)) ∧ Below w.heap.size w w' := by
  have Hm := Lib.hid hm
  clear hm
  go_enter Tryd.func30, Tryd.ntmps30
  go_wp2_with (first
    | (at_make
       refine wp_make (w0 := w) w.heap.size rfl (.tmp 27) (.tmp 31) 22 5 (.int .u8 0) 1 rfl Tryd.underlying22 info_u8 rfl (by decide) .i64 .i64 m (m + 4) rfl rfl (by omega) (by omega) (Below.refl _ _) (Nat.le_refl _) ?_
       intro w1 hw1 hb1 hg1 hz1
       have hx1 := hx.below hb1
       have HW1 := Lib.hid hw1
       clear hw1 hx)
    | ((with_reducible refine gate .copy #[.tmp 33, .tmp 34] rfl ?_)
       refine wp_copy (w0 := w) w.heap.size rfl (.tmp 33) (.tmp 34) 22 22 5 (.int .u8 0) 1 rfl Tryd.underlying22 info_u8 (some ⟨w.heap.size, 0, none⟩) A m (m + 4) m c rfl rfl w.heap.size 0 _ 5 HW1.out (nums .u8 xs) ?_ (fun _ => rfl) hx1 ?_ (nums_one _ _) hb1 (Nat.le_refl _) ?_
       · rw [nums_length, Hm.out]; exact (Nat.min_self _).symm
       · rw [nums_length, Hm.out]; simp
       intro w2 hw2 hb2 hg2
       have HO := Lib.hid (put_own m xs Hm.out hm' 5 w.heap.size w2 _ (Nat.le_refl _) 4 (by omega) hw2)
       have HB := Lib.hid hb2
       clear hw2 hb2 hg2 HW1 hb1 hg1 hz1)
    | (at_builtin
       refine wp_append_box (w0 := w) w.heap.size rfl _ _ 22 5 (.int .u8 0) 1 1 1 rfl Tryd.underlying22 info_u8 rfl (by decide) (by decide) _ _ _ [_] rfl rfl rfl (one_int _ _) (by exact HO.out) HB.out HB.out.size ?_ ?_
       · omega
       clear HO HB
       intro v1 w1 ho hb _ _
       have HO := Lib.hid ho
       have HB := Lib.hid hb
       clear ho hb))
  go_ret2
  refine ⟨_, rfl, ?_, HB.out⟩
  have := HO.out
  try simp only [List.append_assoc, List.cons_append, List.nil_append, Nat.add_assoc, Nat.reduceAdd] at this
  simp only [be, Int.reducePow, Int.ediv_one, nums_append]
  exact this

set_option maxHeartbeats 400000 in
theorem put_ok5 (A : Option Addr) (m c : Nat) (n : Int) (xs : List Int) (hm : xs.length = m) (hm' : m ≤ 140737488355300) (h0 : 0 ≤ n) (h0' : n < 18446744073709551616) (hg : (n / 1099511627776 != 0) = false)
    (w : World) (hx : Cells w A (nums .u8 xs)) :
    Calls Tryd.prog 30 #[.slice A m c, .int .u64 n, .int .i64 5] w fun e w' => ∃ v, e = .returned (.tuple #[v, .int .i64 0]) ∧ w'.ownsRow w.heap.size 5 1 v (m + 5) (nums .u8 (xs ++ be n 5)) ∧ Below w.heap.size w w' := by
  have Hm := Lib.hid hm
  clear hm
  go_enter Tryd.func30, Tryd.ntmps30
  go_wp2_with (first
    | (at_make
       refine wp_make (w0 := w) w.heap.size rfl (.tmp 27) (.tmp 31) 22 5 (.int .u8 0) 1 rfl Tryd.underlying22 info_u8 rfl (by decide) .i64 .i64 m (m + 5) rfl rfl (by omega) (by omega) (Below.refl _ _) (Nat.le_refl _) ?_
       intro w1 hw1 hb1 hg1 hz1
       have hx1 := hx.below hb1
       have HW1 := Lib.hid hw1
       clear hw1 hx)
    | ((with_reducible refine gate .copy #[.tmp 33, .tmp 34] rfl ?_)
       refine wp_copy (w0 := w) w.heap.size rfl (.tmp 33) (.tmp 34) 22 22 5 (.int .u8 0) 1 rfl Tryd.underlying22 info_u8 (some ⟨w.heap.size, 0, none⟩) A m (m + 5) m c rfl rfl w.heap.size 0 _ 5 HW1.out (nums .u8 xs) ?_ (fun _ => rfl) hx1 ?_ (nums_one _ _) hb1 (Nat.le_refl _) ?_
       · rw [nums_length, Hm.out]; exact (Nat.min_self _).symm
       · rw [nums_length, Hm.out]; simp
       intro w2 hw2 hb2 hg2
       have HO := Lib.hid (put_own m xs Hm.out hm' 5 w.heap.size w2 _ (Nat.le_refl _) 5 (by omega) hw2)
       have HB := Lib.hid hb2
       clear hw2 hb2 hg2 HW1 hb1 hg1 hz1)
    | (at_builtin
       refine wp_append_box (w0 := w) w.heap.size rfl _ _ 22 5 (.int .u8 0) 1 1 1 rfl Tryd.underlying22 info_u8 rfl (by decide) (by decide) _ _ _ [_] rfl rfl rfl (one_int _ _) (by exact HO.out) HB.out HB.out.size ?_ ?_
       · omega
       clear HO HB
       intro v1 w1 ho hb _ _
       have HO := Lib.hid ho
       have HB := Lib.hid hb
       clear ho hb))
  go_ret2
  refine ⟨_, rfl, ?_, HB.out⟩
  have := HO.out
  try simp only [List.append_assoc, List.cons_append, List.nil_append, Nat.add_assoc, Nat.reduceAdd] at this
  simp only [be, Int.reducePow, Int.ediv_one, nums_append]
  exact this

set_option maxHeartbeats 400000 in
theorem put_ok6 (A : Option Addr) (m c : Nat) (n : Int) (xs : List Int) (hm : xs.length = m) (hm' : m ≤ 140737488355300) (h0 : 0 ≤ n) (h0' : n < 18446744073709551616) (hg : (n / 281474976710656 != 0) = false)
    (w : World) (hx : Cells w A (nums .u8 xs)) :
    Calls Tryd.prog 30 #[.slice A m c, .int .u64 n, .int .i64 6] w fun e w' => ∃ v, e = .returned (.tuple #[v, .int .i64 0]) ∧ w'.ownsRow w.heap.size 5 1 v (m + 6) (nums .u8 (xs ++ be n 6)) ∧ Below w.heap.size w w' := by
  have Hm := Lib.hid hm
  clear hm
  go_enter Tryd.func30, Tryd.ntmps30
  go_wp2_with (first
    | (at_make
       refine wp_make (w0 := w) w.heap.size rfl (.tmp 27) (.tmp 31) 22 5 (.int .u8 0) 1 rfl Tryd.underlying22 info_u8 rfl (by decide) .i64 .i64 m (m + 6) rfl rfl (by omega) (by omega) (Below.refl _ _) (Nat.le_refl _) ?_
       intro w1 hw1 hb1 hg1 hz1
       have hx1 := hx.below hb1
       have HW1 := Lib.hid hw1
       clear hw1 hx)
    | ((with_reducible refine gate .copy #[.tmp 33, .tmp 34] rfl ?_)
       refine wp_copy (w0 := w) w.heap.size rfl (.tmp 33) (.tmp 34) 22 22 5 (.int .u8 0) 1 rfl Tryd.underlying22 info_u8 (some ⟨w.heap.size, 0, none⟩) A m (m + 6) m c rfl rfl w.heap.size 0 _ 5 HW1.out (nums .u8 xs) ?_ (fun _ => rfl) hx1 ?_ (nums_one _ _) hb1 (Nat.le_refl _) ?_
       · rw [nums_length, Hm.out]; exact (Nat.min_self _).symm
       · rw [nums_length, Hm.out]; simp
       intro w2 hw2 hb2 hg2
       have HO := Lib.hid (put_own m xs Hm.out hm' 5 w.heap.size w2 _ (Nat.le_refl _) 6 (by omega) hw2)
       have HB := Lib.hid hb2
       clear hw2 hb2 hg2 HW1 hb1 hg1 hz1)
    | (at_builtin
       refine wp_append_box (w0 := w) w.heap.size rfl _ _ 22 5 (.int .u8 0) 1 1 1 rfl Tryd.underlying22 info_u8 rfl (by decide) (by decide) _ _ _ [_] rfl rfl rfl (one_int _ _) (by exact HO.out) HB.out HB.out.size ?_ ?_
       · omega
       clear HO HB
       intro v1 w1 ho hb _ _
       have HO := Lib.hid ho
       have HB := Lib.hid hb
       clear ho hb))
  go_ret2
  refine ⟨_, rfl, ?_, HB.out⟩
  have := HO.out
  try simp only [List.append_assoc, List.cons_append, List.nil_append, Nat.add_assoc, Nat.reduceAdd] at this
  simp only [be, Int.reducePow, Int.ediv_one, nums_append]
  exact this

set_option maxHeartbeats 400000 in
theorem put_ok7 (A : Option Addr) (m c : Nat) (n : Int) (xs : List Int) (hm : xs.length = m) (hm' : m ≤ 140737488355300) (h0 : 0 ≤ n) (h0' : n < 18446744073709551616) (hg : (n / 72057594037927936 != 0) = false)
    (w : World) (hx : Cells w A (nums .u8 xs)) :
    Calls Tryd.prog 30 #[.slice A m c, .int .u64 n, .int .i64 7] w fun e w' => ∃ v, e = .returned (.tuple #[v, .int .i64 0]) ∧ w'.ownsRow w.heap.size 5 1 v (m + 7) (nums .u8 (xs ++ be n 7)) ∧ Below w.heap.size w w' := by
  have Hm := Lib.hid hm
  clear hm
  go_enter Tryd.func30, Tryd.ntmps30
  go_wp2_with (first
    | (at_make
       refine wp_make (w0 := w) w.heap.size rfl (.tmp 27) (.tmp 31) 22 5 (.int .u8 0) 1 rfl Tryd.underlying22 info_u8 rfl (by decide) .i64 .i64 m (m + 7) rfl rfl (by omega) (by omega) (Below.refl _ _) (Nat.le_refl _) ?_
       intro w1 hw1 hb1 hg1 hz1
       have hx1 := hx.below hb1
       have HW1 := Lib.hid hw1
       clear hw1 hx)
    | ((with_reducible refine gate .copy #[.tmp 33, .tmp 34] rfl ?_)
       refine wp_copy (w0 := w) w.heap.size rfl (.tmp 33) (.tmp 34) 22 22 5 (.int .u8 0) 1 rfl Tryd.underlying22 info_u8 (some ⟨w.heap.size, 0, none⟩) A m (m + 7) m c rfl rfl w.heap.size 0 _ 5 HW1.out (nums .u8 xs) ?_ (fun _ => rfl) hx1 ?_ (nums_one _ _) hb1 (Nat.le_refl _) ?_
       · rw [nums_length, Hm.out]; exact (Nat.min_self _).symm
       · rw [nums_length, Hm.out]; simp
       intro w2 hw2 hb2 hg2
       have HO := Lib.hid (put_own m xs Hm.out hm' 5 w.heap.size w2 _ (Nat.le_refl _) 7 (by omega) hw2)
       have HB := Lib.hid hb2
       clear hw2 hb2 hg2 HW1 hb1 hg1 hz1)
    | (at_builtin
       refine wp_append_box (w0 := w) w.heap.size rfl _ _ 22 5 (.int .u8 0) 1 1 1 rfl Tryd.underlying22 info_u8 rfl (by decide) (by decide) _ _ _ [_] rfl rfl rfl (one_int _ _) (by exact HO.out) HB.out HB.out.size ?_ ?_
       · omega
       clear HO HB
       intro v1 w1 ho hb _ _
       have HO := Lib.hid ho
       have HB := Lib.hid hb
       clear ho hb))
  go_ret2
  refine ⟨_, rfl, ?_, HB.out⟩
  have := HO.out
  try simp only [List.append_assoc, List.cons_append, List.nil_append, Nat.add_assoc, Nat.reduceAdd] at this
  simp only [be, Int.reducePow, Int.ediv_one, nums_append]
  exact this

set_option maxHeartbeats 400000 in
theorem put_ok8 (A : Option Addr) (m c : Nat) (n : Int) (xs : List Int) (hm : xs.length = m) (hm' : m ≤ 140737488355300) (h0 : 0 ≤ n) (h0' : n < 18446744073709551616)
    (w : World) (hx : Cells w A (nums .u8 xs)) :
    Calls Tryd.prog 30 #[.slice A m c, .int .u64 n, .int .i64 8] w fun e w' => ∃ v, e = .returned (.tuple #[v, .int .i64 0]) ∧ w'.ownsRow w.heap.size 5 1 v (m + 8) (nums .u8 (xs ++ be n 8)) ∧ Below w.heap.size w w' := by
  have Hm := Lib.hid hm
  clear hm
  go_enter Tryd.func30, Tryd.ntmps30
  go_wp2_with (first
    | (at_make
       refine wp_make (w0 := w) w.heap.size rfl (.tmp 27) (.tmp 31) 22 5 (.int .u8 0) 1 rfl Tryd.underlying22 info_u8 rfl (by decide) .i64 .i64 m (m + 8) rfl rfl (by omega) (by omega) (Below.refl _ _) (Nat.le_refl _) ?_
       intro w1 hw1 hb1 hg1 hz1
       have hx1 := hx.below hb1
       have HW1 := Lib.hid hw1
       clear hw1 hx)
    | ((with_reducible refine gate .copy #[.tmp 33, .tmp 34] rfl ?_)
       refine wp_copy (w0 := w) w.heap.size rfl (.tmp 33) (.tmp 34) 22 22 5 (.int .u8 0) 1 rfl Tryd.underlying22 info_u8 (some ⟨w.heap.size, 0, none⟩) A m (m + 8) m c rfl rfl w.heap.size 0 _ 5 HW1.out (nums .u8 xs) ?_ (fun _ => rfl) hx1 ?_ (nums_one _ _) hb1 (Nat.le_refl _) ?_
       · rw [nums_length, Hm.out]; exact (Nat.min_self _).symm
       · rw [nums_length, Hm.out]; simp
       intro w2 hw2 hb2 hg2
       have HO := Lib.hid (put_own m xs Hm.out hm' 5 w.heap.size w2 _ (Nat.le_refl _) 8 (by omega) hw2)
       have HB := Lib.hid hb2
       clear hw2 hb2 hg2 HW1 hb1 hg1 hz1)
    | (at_builtin
       refine wp_append_box (w0 := w) w.heap.size rfl _ _ 22 5 (.int .u8 0) 1 1 1 rfl Tryd.underlying22 info_u8 rfl (by decide) (by decide) _ _ _ [_] rfl rfl rfl (one_int _ _) (by exact HO.out) HB.out HB.out.size ?_ ?_
       · omega
       clear HO HB
       intro v1 w1 ho hb _ _
       have HO := Lib.hid ho
       have HB := Lib.hid hb
       clear ho hb))
  go_ret2
  refine ⟨_, rfl, ?_, HB.out⟩
  have := HO.out
  try simp only [List.append_assoc, List.cons_append, List.nil_append, Nat.add_assoc, Nat.reduceAdd] at this
  simp only [be, Int.reducePow, Int.ediv_one, nums_append]
  rw [show n / 72057594037927936 % 256 = n / 72057594037927936 from by omega]
  exact this

theorem put_any (A : Option Addr) (m c : Nat) (n size : Int) (xs : List Int) (hm : xs.length = m) (hm' : m ≤ 140737488355300) (h0 : 0 ≤ n) (h0' : n < 18446744073709551616) (hs : -9223372036854775808 ≤ size) (hs' : size ≤ 9223372036854775807)
    (w : World) (hx : Cells w A (nums .u8 xs)) :
    Calls Tryd.prog 30 #[.slice A m c, .int .u64 n, .int .i64 size] w (PutTells 5 xs n size w) := by
  by_cases hp : putBad n size
  · exact put_bad A m c n size hm' h0 h0' hs hs' xs hp w
  have hp' := hp
  unfold putBad at hp'
  have hd : size = 1 ∨ size = 2 ∨ size = 3 ∨ size = 4 ∨ size = 5 ∨ size = 6 ∨ size = 7 ∨ size = 8 := by omega
  rcases hd with rfl | rfl | rfl | rfl | rfl | rfl | rfl | rfl
  · have hz : n / 256 ^ ((1 : Int)).toNat = 0 := by omega
    simp only [Int.reduceToNat, Int.reducePow] at hz
    exact (put_ok1 A m c n xs hm hm' h0 h0' (by rw [hz]; rfl) w hx).mono fun e w' ⟨v, he, ho, hb⟩ => by rw [he]; exact putTells_ok hp rfl hm ho hb
  · have hz : n / 256 ^ ((2 : Int)).toNat = 0 := by omega
    simp only [Int.reduceToNat, Int.reducePow] at hz
    exact (put_ok2 A m c n xs hm hm' h0 h0' (by rw [hz]; rfl) w hx).mono fun e w' ⟨v, he, ho, hb⟩ => by rw [he]; exact putTells_ok hp rfl hm ho hb
  · have hz : n / 256 ^ ((3 : Int)).toNat = 0 := by omega
    simp only [Int.reduceToNat, Int.reducePow] at hz
    exact (put_ok3 A m c n xs hm hm' h0 h0' (by rw [hz]; rfl) w hx).mono fun e w' ⟨v, he, ho, hb⟩ => by rw [he]; exact putTells_ok hp rfl hm ho hb
  · have hz : n / 256 ^ ((4 : Int)).toNat = 0 := by omega
    simp only [Int.reduceToNat, Int.reducePow] at hz
    exact (put_ok4 A m c n xs hm hm' h0 h0' (by rw [hz]; rfl) w hx).mono fun e w' ⟨v, he, ho, hb⟩ => by rw [he]; exact putTells_ok hp rfl hm ho hb
  · have hz : n / 256 ^ ((5 : Int)).toNat = 0 := by omega
    simp only [Int.reduceToNat, Int.reducePow] at hz
    exact (put_ok5 A m c n xs hm hm' h0 h0' (by rw [hz]; rfl) w hx).mono fun e w' ⟨v, he, ho, hb⟩ => by rw [he]; exact putTells_ok hp rfl hm ho hb
  · have hz : n / 256 ^ ((6 : Int)).toNat = 0 := by omega
    simp only [Int.reduceToNat, Int.reducePow] at hz
    exact (put_ok6 A m c n xs hm hm' h0 h0' (by rw [hz]; rfl) w hx).mono fun e w' ⟨v, he, ho, hb⟩ => by rw [he]; exact putTells_ok hp rfl hm ho hb
  · have hz : n / 256 ^ ((7 : Int)).toNat = 0 := by omega
    simp only [Int.reduceToNat, Int.reducePow] at hz
    exact (put_ok7 A m c n xs hm hm' h0 h0' (by rw [hz]; rfl) w hx).mono fun e w' ⟨v, he, ho, hb⟩ => by rw [he]; exact putTells_ok hp rfl hm ho hb
  · exact (put_ok8 A m c n xs hm hm' h0 h0' w hx).mono fun e w' ⟨v, he, ho, hb⟩ => by rw [he]; exact putTells_ok hp rfl hm ho hb

end Go.Proofs.YthlfdckcnpnemaaDoor
