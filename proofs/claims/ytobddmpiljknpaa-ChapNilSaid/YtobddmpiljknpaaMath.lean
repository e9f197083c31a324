/-
  PLAIN MATHEMATICS of bytes and numbers: no program in sight.
-/
import Derived.Laws.BitsLemmas
import Derived.Laws.Bits64
import Derived.IntWalk
namespace Go.Proofs.Ytobddmpiljknpaa
set_option linter.unusedVariables false
set_option linter.unusedSimpArgs false

/-- All are bytes. -/
def Byt (xs : List Int) : Prop := ∀ x ∈ xs, 0 ≤ x ∧ x < 256
theorem Byt.nil_ : Byt [] := fun _ h => by cases h
theorem Byt.take {xs : List Int} (h : Byt xs) (k : Nat) : Byt (xs.take k) := fun x hx => h x (List.mem_of_mem_take hx)
theorem Byt.drop {xs : List Int} (h : Byt xs) (k : Nat) : Byt (xs.drop k) := fun x hx => h x (List.mem_of_mem_drop hx)
theorem Byt.append {xs ys : List Int} (h : Byt xs) (k : Byt ys) : Byt (xs ++ ys) := fun x hx => by
  rcases List.mem_append.1 hx with hx | hx
  · exact h x hx
  · exact k x hx
theorem Byt.left {xs ys : List Int} (h : Byt (xs ++ ys)) : Byt xs := fun x hx => h x (List.mem_append_left _ hx)
theorem Byt.right {xs ys : List Int} (h : Byt (xs ++ ys)) : Byt ys := fun x hx => h x (List.mem_append_right _ hx)
theorem Byt.one {x : Int} (h : 0 ≤ x) (h' : x < 256) : Byt [x] := fun y hy => by
  simp at hy
  subst hy
  exact ⟨h, h'⟩
theorem Byt.cons {x : Int} {xs : List Int} (h : 0 ≤ x) (h' : x < 256) (k : Byt xs) : Byt (x :: xs) := fun y hy => by
  rcases List.mem_cons.1 hy with rfl | hy
  · exact ⟨h, h'⟩
  · exact k y hy
theorem Byt.head {x : Int} {xs : List Int} (h : Byt (x :: xs)) : 0 ≤ x ∧ x < 256 := h x (by simp)
theorem Byt.tail {x : Int} {xs : List Int} (h : Byt (x :: xs)) : Byt xs := fun y hy => h y (by simp [hy])
theorem getD_mem {xs : List Int} {k : Nat} (h : k < xs.length) : xs.getD k 0 ∈ xs := by
  rw [List.getD_eq_getElem?_getD, List.getElem?_eq_getElem h]
  exact List.getElem_mem h
theorem Byt.getD {xs : List Int} (h : Byt xs) (k : Nat) : 0 ≤ xs.getD k 0 ∧ xs.getD k 0 < 256 := by
  by_cases hk : k < xs.length
  · exact h _ (getD_mem hk)
  · rw [List.getD_eq_getElem?_getD, List.getElem?_eq_none (by omega)]
    simp
theorem take_succ_getD {xs : List Int} {k : Nat} (h : k < xs.length) : xs.take (k + 1) = xs.take k ++ [xs.getD k 0] := by
  rw [List.take_add_one, List.getD_eq_getElem?_getD, List.getElem?_eq_getElem h]
  simp

/-- The number that bytes are, the first one the greatest. -/
def getN (xs : List Int) : Int := xs.foldl (fun n c => n * 256 + c) 0
theorem getN_snoc (xs : List Int) (x : Int) : getN (xs ++ [x]) = getN xs * 256 + x := by simp [getN, List.foldl_append]
theorem getN_bound : ∀ (k : Nat) (xs : List Int), Byt xs → xs.length ≤ k → 0 ≤ getN xs ∧ getN xs < 256 ^ k
  | 0, xs, _, h => by
    have : xs = [] := List.eq_nil_of_length_eq_zero (by omega)
    subst this
    simp [getN]
  | k + 1, xs, hb, h => by
    rcases List.eq_nil_or_concat xs with rfl | ⟨ys, y, rfl⟩
    · simp only [getN, List.foldl_nil, Int.le_refl, true_and]
      exact Int.pow_pos (by decide)
    · rw [List.concat_eq_append] at *
      rw [getN_snoc]
      have ih := getN_bound k ys hb.left (by simp at h; omega)
      have hy := hb.right y (by simp)
      rw [Int.pow_succ]
      generalize (256 : Int) ^ k = M at *
      omega

theorem wraps_u64 (n : Int) (h₀ : 0 ≤ n) (h₁ : n < 2 ^ 64) : IntKind.u64.wrap n = n := by rw [IntKind.wrap_u64]; omega
theorem wraps_u32 (n : Int) (h₀ : 0 ≤ n) (h₁ : n < 2 ^ 32) : IntKind.u32.wrap n = n := by rw [IntKind.wrap_u32]; omega
theorem or_u64_byte {n x : Int} (h0 : 0 ≤ n) (h1 : n < 256 ^ 7) (h2 : 0 ≤ x) (h3 : x < 256) : bits .or .u64 (n * 256) x = n * 256 + x :=
  bits_join .u64 64 (by decide) wraps_u64 8 (n * 256) x (by omega) (by omega) (by omega) h2 (by omega) (by omega)
theorem or_u8_nib {h l : Int} (h0 : 0 ≤ h) (h1 : h < 16) (h2 : 0 ≤ l) (h3 : l < 16) : bits .or .u8 (h * 16) l = h * 16 + l :=
  bits_join .u8 8 (by decide) wraps_u8 4 (h * 16) l (by omega) (by omega) (by omega) h2 (by omega) (by omega)

/-- The last s bytes of a number, the greatest first. -/
def be (n : Int) : Nat → List Int
  | 0 => []
  | s + 1 => n / 256 ^ s % 256 :: be n s
theorem be_length (n : Int) : ∀ s, (be n s).length = s
  | 0 => rfl
  | s + 1 => by simp [be, be_length n s]
theorem be_byt (n : Int) : ∀ s, Byt (be n s)
  | 0 => Byt.nil_
  | s + 1 => Byt.cons (by omega) (by omega) (be_byt n s)
theorem be_snoc (n : Int) (h : 0 ≤ n) : ∀ s, be n (s + 1) = be (n / 256) s ++ [n % 256]
  | 0 => by simp [be]
  | s + 1 => by
    have h1 : n / 256 ^ (s + 1) = n / 256 / 256 ^ s := by
      rw [Int.pow_succ, Int.mul_comm, Int.ediv_ediv_of_nonneg (by decide)]
    have ih := be_snoc n h s
    show n / 256 ^ (s + 1) % 256 :: be n (s + 1) = (n / 256 / 256 ^ s % 256 :: be (n / 256) s) ++ [n % 256]
    rw [ih, h1]
    rfl
theorem getN_be : ∀ (s : Nat) (n : Int), 0 ≤ n → getN (be n s) = n % 256 ^ s
  | 0, n, h => by simp [be, getN, Int.emod_one]
  | s + 1, n, h => by
    rw [be_snoc n h, getN_snoc, getN_be s (n / 256) (by omega), Int.pow_succ]
    have hp : (0 : Int) < 256 ^ s := Int.pow_pos (by decide)
    generalize (256 : Int) ^ s = M at *
    have h1 := Int.emod_add_mul_ediv n 256
    have h2 := Int.emod_add_mul_ediv (n / 256) M
    have h3 : n / 256 / M = n / (M * 256) := by rw [Int.mul_comm M 256, Int.ediv_ediv_of_nonneg (by decide)]
    have h4 := Int.emod_add_mul_ediv n (M * 256)
    rw [h3] at h2
    generalize n / (M * 256) = q at *
    have h5 : M * 256 * q = M * q * 256 := by rw [Int.mul_assoc, Int.mul_comm 256 q, ← Int.mul_assoc]
    rw [h5] at h4
    generalize M * q = r at *
    omega
theorem be_getN_len : ∀ (k : Nat) (xs : List Int), xs.length = k → Byt xs → be (getN xs) k = xs
  | 0, xs, h, _ => by rw [List.eq_nil_of_length_eq_zero h]; rfl
  | k + 1, xs, h, hb => by
    rcases List.eq_nil_or_concat xs with rfl | ⟨ys, y, rfl⟩
    · simp at h
    · rw [List.concat_eq_append] at *
      have hx := hb.right y (by simp)
      have hl : ys.length = k := by simpa using h
      have hg := getN_bound k ys hb.left (by omega)
      rw [getN_snoc, be_snoc _ (by omega), show (getN ys * 256 + y) / 256 = getN ys from by omega, show (getN ys * 256 + y) % 256 = y from by omega, be_getN_len k ys hl hb.left]
theorem be_getN (xs : List Int) (h : Byt xs) : be (getN xs) xs.length = xs := be_getN_len xs.length xs rfl h
end Go.Proofs.Ytobddmpiljknpaa
