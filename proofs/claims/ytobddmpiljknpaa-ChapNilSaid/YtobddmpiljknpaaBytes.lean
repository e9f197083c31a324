/-
  Bytes as text, bytes.Equal, slices.Contains at whole numbers. Conditions: the lists are no longer than the model's memory.
-/
import Derived.Test.YtobddmpiljknpaaRef01
import Derived.Test.YtobddmpiljknpaaExt
import Derived.Test.YtobddmpiljknpaaMath
import Derived.Laws.BytesArg
import Derived.Lib.Strings
namespace Go.Proofs.Ytobddmpiljknpaa
open Go.RowKit
set_option linter.unusedVariables false
set_option linter.unusedSimpArgs false

theorem add_off (ad : Addr) (i : Nat) (h : ad.spot = none) : ad.add i = ⟨ad.block, ad.off + i, none⟩ := by
  obtain ⟨b, o, s⟩ := ad
  simp only at h
  subst h
  unfold Addr.add
  split <;> simp_all
/-- Bytes, read as text. -/
theorem conv_cells {P : Program} {w : World} {A : Option Addr} {n c : Nat} {xs : List Int} (src e dst : TypeId) (hs : P.underlying src = some (.slice e)) (he : P.underlying e = some (.int .u8)) (hd : P.underlying dst = some .string)
    (hn : xs.length = n) (hx : Cells w A (nums .u8 xs)) : (convert src dst (.slice A n c)).run P w = .ok (.string (strOfNums xs)) w := by
  subst hn
  rw [run_convert_bytes_string w src dst e _ _ c hs he hd]
  rcases A with _ | ad
  · have : xs = [] := by
      rcases Nat.eq_zero_or_pos xs.length with h | h
      · exact List.eq_nil_of_length_eq_zero h
      · obtain ⟨_, h2, _⟩ := hx (by rw [nums_length]; omega)
        cases h2
    subst this
    simp [Conv.bytesToString]
    rfl
  · have hl : (loadCells ad xs.length).run P w = .ok (xs.map (Value.int .u8)).toArray w := by
      have := run_loadCells_list (P := P) w ad (xs.map (Value.int .u8)) (fun j v hj => by
        have hj' : j < xs.length := by have := (List.getElem?_eq_some_iff.1 hj).1; simpa using this
        obtain ⟨ad', h, hc⟩ := hx (by rw [nums_length]; omega)
        injection h with h
        subst h
        exact hc j v hj)
      simpa using this
    rw [run_bytesToString w _ _ c xs hl, foldl_push_bytes]
    simp [strOfNums, ByteArray.empty, ByteArray.emptyWithCapacity]
    rfl
theorem u8_inj {x y : Int} (h0 : 0 ≤ x) (h1 : x < 256) (k0 : 0 ≤ y) (k1 : y < 256) (h : UInt8.ofNat x.toNat = UInt8.ofNat y.toNat) : x = y := by
  have := congrArg UInt8.toNat h
  simp at this
  omega
theorem str_inj : ∀ (xs ys : List Int), Byt xs → Byt ys → (xs.map fun n => UInt8.ofNat n.toNat) = (ys.map fun n => UInt8.ofNat n.toNat) → xs = ys
  | [], [], _, _, _ => rfl
  | [], y :: ys, _, _, h => by simp at h
  | x :: xs, [], _, _, h => by simp at h
  | x :: xs, y :: ys, hx, hy, h => by
    simp only [List.map_cons, List.cons.injEq] at h
    rw [u8_inj hx.head.1 hx.head.2 hy.head.1 hy.head.2 h.1, str_inj xs ys hx.tail hy.tail h.2]
theorem str_eq {xs ys : List Int} (hx : Byt xs) (hy : Byt ys) : ((strOfNums xs).toList == (strOfNums ys).toList) = decide (xs = ys) := by
  rw [Lib.toList_data, Lib.toList_data, strOfNums_data, strOfNums_data]
  by_cases h : xs = ys
  · subst h
    simp only [beq_self_eq_true, decide_true]
  · rw [decide_eq_false h, beq_eq_false_iff_ne]
    exact fun e => h (str_inj xs ys hx hy e)

theorem mem_take_succ {ks : List Int} {k : Nat} {t : Int} (h : k < ks.length) (h1 : t ∉ ks.take k) (h2 : t ≠ ks.getD k 0) : t ∉ ks.take (k + 1) := by
  rw [take_succ_getD h, List.mem_append, List.mem_singleton]
  rintro (h3 | h3)
  · exact h1 h3
  · exact h2 h3
def hasK (ks : List Int) (t : Int) : Bool := decide (t ∈ ks)
end Go.Proofs.Ytobddmpiljknpaa
