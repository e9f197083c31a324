/-
  Digits of text, in plain Lean, and what is common to Hex and Unhex. No condition.
-/
import Derived.Test.YthlfdckcnpnemaaDoorRef01
import Derived.Test.YthlfdckcnpnemaaDoorBytes
import Derived.Test.YthlfdckcnpnemaaDoorExt
import Derived.Test.YthlfdckcnpnemaaDoorRow2
import Derived.Test.YthlfdckcnpnemaaDoorSeat
namespace Go.Proofs.YthlfdckcnpnemaaDoor
open Go.RowKit
set_option linter.unusedVariables false
set_option linter.unusedSimpArgs false

/-- A text's bytes. -/
def strB (s : ByteArray) : List Int := s.data.toList.map fun b => (b.toNat : Int)
theorem strB_len (s : ByteArray) : (strB s).length = s.size := by
  rw [strB, List.length_map, Array.length_toList]
  rfl
theorem strB_byt (s : ByteArray) : Byt (strB s) := by
  intro x hx
  simp only [strB, List.mem_map] at hx
  obtain ⟨b, _, rfl⟩ := hx
  have := b.toNat_lt
  omega
theorem strB_str (xs : List Int) (h : Byt xs) : strB (strOfNums xs) = xs := by
  unfold strB
  rw [strOfNums_data, List.map_map]
  conv => rhs; rw [← List.map_id xs]
  refine List.map_congr_left fun x hx => ?_
  have := h x hx
  simp only [Function.comp_apply, id_eq]
  rw [UInt8.toNat_ofNat']
  omega
def digV (c : Int) : Int := if 48 ≤ c ∧ c ≤ 57 then c - 48 else if 97 ≤ c ∧ c ≤ 102 then c - 87 else if 65 ≤ c ∧ c ≤ 70 then c - 55 else -1
theorem digV_bd (c : Int) : -1 ≤ digV c ∧ digV c ≤ 15 := by
  unfold digV
  split
  · omega
  split
  · omega
  split
  · omega
  · omega
def digU (c : Int) : Int := if digV c < 0 then 0 else digV c
theorem ret_int {k : IntKind} {a b : Int} (h : a = b) : Ending.returned (.int k a) = .returned (.int k b) := by rw [h]
theorem ret_pair {k : IntKind} {a b : Int} {x y : Bool} (h : a = b) (g : x = y) : Ending.returned (.tuple #[.int k a, .bool x]) = .returned (.tuple #[.int k b, .bool y]) := by rw [h, g]
/-- The bytes of the first k pairs of digits. -/
def unhK (xs : List Int) : Nat → Option (List Int)
  | 0 => some []
  | k + 1 => match unhK xs k with
    | none => none
    | some l => if digV (xs.getD (2 * k) 0) < 0 ∨ digV (xs.getD (2 * k + 1) 0) < 0 then none else some (l ++ [16 * digV (xs.getD (2 * k) 0) + digV (xs.getD (2 * k + 1) 0)])
theorem unhK_none {xs : List Int} {k : Nat} (h : unhK xs k = none) : ∀ j, unhK xs (k + j) = none
  | 0 => h
  | j + 1 => by rw [← Nat.add_assoc, unhK, unhK_none h j]
theorem unhK_len (xs : List Int) : ∀ (k : Nat) (l : List Int), unhK xs k = some l → l.length = k
  | 0, l, h => by
    rw [unhK] at h
    injection h with h
    rw [← h]
    rfl
  | k + 1, l, h => by
    rw [unhK] at h
    cases hq : unhK xs k with
    | none => rw [hq] at h; cases h
    | some l' =>
      rw [hq] at h
      simp only at h
      split at h
      · cases h
      · injection h with h
        rw [← h, List.length_append, unhK_len xs k l' hq]
        rfl
theorem unhK_byt (xs : List Int) : ∀ (k : Nat) (l : List Int), unhK xs k = some l → Byt l
  | 0, l, h => by
    rw [unhK] at h
    injection h with h
    rw [← h]
    exact Byt.nil_
  | k + 1, l, h => by
    rw [unhK] at h
    cases hq : unhK xs k with
    | none => rw [hq] at h; cases h
    | some l' =>
      rw [hq] at h
      simp only at h
      split at h
      · cases h
      · injection h with h
        rw [← h]
        have h1 := digV_bd (xs.getD (2 * k) 0)
        have h2 := digV_bd (xs.getD (2 * k + 1) 0)
        exact Byt.append (unhK_byt xs k l' hq) (Byt.one (by omega) (by omega))
/-- What a text of digits tells, or none. -/
def unhF (xs : List Int) : Option (List Int) := if xs.length % 2 = 1 then none else unhK xs (xs.length / 2)
def unE (xs : List Int) : Int := match unhF xs with | none => 3 | some _ => 0
def unL (xs : List Int) : List Int := match unhF xs with | none => [] | some l => l
def UnTells (xs : List Int) (w : World) (e : Ending) (w' : World) : Prop := ∃ v, e = .returned (.tuple #[v, .int .i64 (unE xs)]) ∧ w'.ownsRow w.heap.size 5 1 v (unL xs).length (nums .u8 (unL xs)) ∧ Below w.heap.size w w'
theorem unTells_none {xs : List Int} {w w' : World} (h : unhF xs = none) (hb : Below w.heap.size w w') : UnTells xs w (.returned (.tuple #[.slice none 0 0, .int .i64 3])) w' := by
  refine ⟨_, by rw [unE, h], ?_, hb⟩
  rw [unL, h]
  exact own_nil _ _ _ _
theorem unTells_some {xs l : List Int} {w w' : World} {v : Value} (h : unhF xs = some l) (ho : w'.ownsRow w.heap.size 5 1 v l.length (nums .u8 l)) (hb : Below w.heap.size w w') : UnTells xs w (.returned (.tuple #[v, .int .i64 0])) w' := by
  refine ⟨_, by rw [unE, h], ?_, hb⟩
  rw [unL, h]
  exact ho
theorem str_get (s : ByteArray) (k : Nat) (i : Int) (hi : i = (k : Int)) : ∀ h : i.toNat < s.size, ((s[i.toNat]'h).toNat : Int) = (strB s).getD k 0 := by
  subst hi
  intro h
  have h' : k < s.size := by simpa using h
  have h2 : k < s.data.toList.length := by rw [Array.length_toList]; exact h'
  simp only [strB, List.getD_eq_getElem?_getD, List.getElem?_map, List.getElem?_eq_getElem h2, Option.map_some, Option.getD_some, Int.toNat_natCast]
  rfl
def hexD (d : Int) : Int := if d < 10 then 48 + d else 87 + d
def hexL (xs : List Int) : List Int := xs.flatMap fun x => [hexD (x / 16), hexD (x % 16)]
theorem hexL_append (xs ys : List Int) : hexL (xs ++ ys) = hexL xs ++ hexL ys := by simp [hexL]
theorem hexL_succ {xs : List Int} {k : Nat} (hk : k < xs.length) : hexL (xs.take (k + 1)) = hexL (xs.take k) ++ [hexD (xs.getD k 0 / 16), hexD (xs.getD k 0 % 16)] := by
  rw [List.take_add_one, hexL_append, List.getD_eq_getElem?_getD, List.getElem?_eq_getElem hk]
  simp [hexL]
theorem hexL_len (xs : List Int) : (hexL xs).length = 2 * xs.length := by
  induction xs with
  | nil => rfl
  | cons x xs ih =>
    rw [show hexL (x :: xs) = hexL [x] ++ hexL xs from hexL_append [x] xs, List.length_append, ih, List.length_cons]
    simp [hexL]
    omega
theorem conv4 {w : World} {A : Option Addr} {n c : Nat} {xs : List Int} {s : ByteArray} (hn : xs.length = n) (hx : Cells w A (nums .u8 xs)) (hs : strOfNums xs = s) : (convert 22 9 (.slice A n c)).run Tryd.prog w = .ok (.string s) w := by
  rw [← hs]
  exact conv_cells (P := Tryd.prog) (c := c) 22 5 9 Tryd.underlying22 Tryd.underlying5 Tryd.underlying9 hn hx
theorem dig_get {d : Int} (h0 : 0 ≤ d) (h1 : d < 16) : ∀ h : d.toNat < (⟨#[48, 49, 50, 51, 52, 53, 54, 55, 56, 57, 97, 98, 99, 100, 101, 102]⟩ : ByteArray).size,
    (((⟨#[48, 49, 50, 51, 52, 53, 54, 55, 56, 57, 97, 98, 99, 100, 101, 102]⟩ : ByteArray)[d.toNat]'h).toNat : Int) = hexD d := by
  obtain ⟨n, rfl⟩ := Int.eq_ofNat_of_zero_le h0
  intro h
  have hn : n < 16 := by omega
  have key : ∀ n : Fin 16, (((⟨#[48, 49, 50, 51, 52, 53, 54, 55, 56, 57, 97, 98, 99, 100, 101, 102]⟩ : ByteArray)[n.val]'n.isLt).toNat : Int) = hexD (n.val : Int) := by decide
  exact key ⟨n, hn⟩
theorem hexD_byt {d : Int} (h0 : 0 ≤ d) (h1 : d < 16) : 0 ≤ hexD d ∧ hexD d < 256 := by unfold hexD; split <;> omega
theorem digV_hexD {d : Int} (h0 : 0 ≤ d) (h1 : d < 16) : digV (hexD d) = d := by
  unfold digV hexD
  split
  · rw [if_pos (by omega)]; omega
  · rw [if_neg (by omega), if_pos (by omega)]; omega
theorem hexL_byt {xs : List Int} (h : Byt xs) : Byt (hexL xs) := by
  intro y hy
  simp only [hexL, List.mem_flatMap] at hy
  obtain ⟨x, hx, hy⟩ := hy
  have := h x hx
  simp at hy
  rcases hy with rfl | rfl
  · exact hexD_byt (by omega) (by omega)
  · exact hexD_byt (by omega) (by omega)
theorem hexL_get : ∀ (xs : List Int) (k : Nat), k < xs.length → (hexL xs).getD (2 * k) 0 = hexD (xs.getD k 0 / 16) ∧ (hexL xs).getD (2 * k + 1) 0 = hexD (xs.getD k 0 % 16)
  | [], k, h => by simp at h
  | x :: xs, 0, h => ⟨rfl, rfl⟩
  | x :: xs, k + 1, h => by
    have ih := hexL_get xs k (by simpa using h)
    rw [show hexL (x :: xs) = hexD (x / 16) :: hexD (x % 16) :: hexL xs from rfl, show 2 * (k + 1) = 2 * k + 1 + 1 by omega]
    simp only [List.getD_cons_succ]
    exact ih
theorem unhK_hexL {xs : List Int} (h : Byt xs) : ∀ k, k ≤ xs.length → unhK (hexL xs) k = some (xs.take k)
  | 0, _ => rfl
  | k + 1, hk => by
    have hg := hexL_get xs k (by omega)
    have hx := h.getD k
    rw [unhK, unhK_hexL h k (by omega)]
    simp only
    rw [hg.1, hg.2, digV_hexD (by omega) (by omega), digV_hexD (by omega) (by omega), if_neg (by omega), List.take_add_one, List.getElem?_eq_getElem (by omega)]
    congr 2
    rw [List.getD_eq_getElem?_getD, List.getElem?_eq_getElem (by omega), Option.getD_some]
    simp
    omega
theorem unhF_hexL {xs : List Int} (h : Byt xs) : unhF (strB (strOfNums (hexL xs))) = some xs := by
  rw [strB_str _ (hexL_byt h)]
  unfold unhF
  rw [if_neg (by rw [hexL_len]; omega), hexL_len, show 2 * xs.length / 2 = xs.length by omega, unhK_hexL h _ (Nat.le_refl _), List.take_length]
theorem unL_byt (xs : List Int) : Byt (unL xs) := by
  unfold unL unhF
  split
  · exact Byt.nil_
  · rename_i l h
    split at h
    · cases h
    · exact unhK_byt _ _ _ h
theorem unL_len (xs : List Int) : (unL xs).length ≤ xs.length := by
  unfold unL unhF
  split
  · exact Nat.zero_le _
  · rename_i l h
    split at h
    · cases h
    · rw [unhK_len _ _ _ h]
      omega
end Go.Proofs.YthlfdckcnpnemaaDoor
