/-
  secret.wrong: the first secret at fault. Conditions: sizes.
-/
import Derived.Test.YtobddmpiljknpaaPpG
namespace Go.Proofs.Ytobddmpiljknpaa
open Go.RowKit
set_option linter.unusedVariables false
set_option linter.unusedSimpArgs false

def secs (us : List SV) : List Value := us.flatMap SV.cells
theorem secs_cons (u : SV) (us : List SV) : secs (u :: us) = .string u.c :: .string u.s :: .string u.d :: .slice u.A u.n u.k :: secs us := rfl
theorem secs_append (a b : List SV) : secs (a ++ b) = secs a ++ secs b := by simp [secs]
theorem secs_length (us : List SV) : (secs us).length = us.length * 4 := by
  induction us with
  | nil => rfl
  | cons v vs ih => simp [secs_cons, ih]; omega
theorem secs_one (us : List SV) : ∀ u ∈ secs us, u.oneCell' = true := by
  intro u hu
  simp only [secs, List.mem_flatMap, SV.cells, List.mem_cons, List.not_mem_nil, or_false] at hu
  obtain ⟨v, _, rfl | rfl | rfl | rfl⟩ := hu <;> rfl
theorem secs_get {us : List SV} {i : Nat} {v : SV} (h : us[i]? = some v) : (secs us)[i * 4]? = some (.string v.c) ∧ (secs us)[i * 4 + 1]? = some (.string v.s) ∧ (secs us)[i * 4 + 2]? = some (.string v.d) ∧ (secs us)[i * 4 + 3]? = some (.slice v.A v.n v.k) := by
  induction us generalizing i with
  | nil => simp at h
  | cons x us ih =>
    rw [secs_cons]
    cases i with
    | zero => simp at h; subst h; simp
    | succ i =>
      have h1 := ih (i := i) (by simpa using h)
      rw [show (i + 1) * 4 = i * 4 + 4 by omega]
      exact h1
theorem sec_at {w : World} {A : Option Addr} {us : List SV} {k : Nat} {v : SV} (h : Cells w A (secs us)) (hk : us[k]? = some v) : ∃ ad, A = some ad ∧ w.cell? (ad.add (k * 4)) = some (.string v.c) ∧
    w.cell? ⟨(ad.add (k * 4)).block, (ad.add (k * 4)).off + 1, none⟩ = some (.string v.s) ∧ w.cell? ⟨(ad.add (k * 4)).block, (ad.add (k * 4)).off + 2, none⟩ = some (.string v.d) ∧ w.cell? ⟨(ad.add (k * 4)).block, (ad.add (k * 4)).off + 3, none⟩ = some (.slice v.A v.n v.k) := by
  obtain ⟨h0, h1, h2, h3⟩ := secs_get hk
  have hl : k < us.length := (List.getElem?_eq_some_iff.1 hk).1
  obtain ⟨ad, rfl, hc⟩ := h (by rw [secs_length]; omega)
  refine ⟨ad, rfl, hc _ _ h0, ?_, ?_, ?_⟩
  · have := hc _ _ h1
    rw [← add_of_add] at this
    exact this
  · have := hc _ _ h2
    rw [← add_of_add] at this
    exact this
  · have := hc _ _ h3
    rw [← add_of_add] at this
    exact this
/-- A list of secrets that can be read. -/
structure SecsAt (w : World) (A : Option Addr) (us : List SV) : Prop where
  x : Cells w A (secs us)
  ok : ∀ u ∈ us, u.Ok w
theorem SecsAt.ext {w w' : World} {A : Option Addr} {us : List SV} [h : Ext w w'] (k : SecsAt w A us) : SecsAt w' A us := ⟨k.x.ext, fun u hu => (k.ok u hu).ext⟩
def wrongAt : Nat → List SV → Int × Nat
  | _, [] => (0, 0)
  | i, u :: us => if u.right ≠ 0 then (u.right, i) else wrongAt (i + 1) us
def wrongF (us : List SV) : Int × Nat := if 64 < us.length then (7, 0) else wrongAt 0 us
theorem drop_at {α : Type} {xs : List α} {k : Nat} {x : α} (h : xs[k]? = some x) : xs.drop k = x :: xs.drop (k + 1) := by
  obtain ⟨hk, rfl⟩ := List.getElem?_eq_some_iff.1 h
  exact List.drop_eq_getElem_cons hk
set_option maxRecDepth 100000 in
set_option maxHeartbeats 4000000 in
theorem wrong_any (A : Option Addr) (n c : Nat) (us : List SV) (hn : us.length = n) (hn' : n ≤ 17592186044416) (w : World) (hx : SecsAt w A us) :
    Calls Try.prog 107 #[.slice A n c] w fun e w' => e = .returned (.tuple #[.int .i64 (wrongF us).1, .int .i64 (wrongF us).2]) ∧ Below w.heap.size w w' := by
  have Hn := Lib.hid hn
  have HX := Lib.hid hx
  clear hn hx
  by_cases hl : 64 < n
  · have HF : Hid (wrongF us = (7, 0)) := if_pos (by rw [Hn.out]; exact hl)
    have hl' : 64 < (n : Int) := by omega
    go_enter Try.func107, Try.ntmps107
    go_wp2
    go_ret2
    exact ⟨by rw [HF.out]; rfl, Below.refl _ _⟩
  · have HF : Hid (wrongF us = wrongAt 0 us) := if_neg (by rw [Hn.out]; exact hl)
    have hl' : ¬ 64 < (n : Int) := by omega
    have HL := Lib.hid hl
    clear hl
    go_enter Try.func107, Try.ntmps107
    go_wp2
    go_loopw [12, 4, 5, 6] (fun i a b e wr => ∃ k : Nat, i = .int .i64 k ∧ k ≤ n ∧ Hid (wrongF us = wrongAt k (us.drop k)) ∧ Hid (Ext w wr)) (fun i _ _ _ _ => n - (intOf i).toNat)
    case atStart => exact ⟨0, rfl, by omega, HF.out, (inferInstance : Ext w w)⟩
    case round =>
      obtain ⟨k, rfl, hk, HD, HW⟩ := hrel
      have Sr : Step wr w := ⟨HW.out.out⟩
      by_cases hlt : k < n
      · obtain ⟨u, hu⟩ : ∃ u, us[k]? = some u := ⟨_, List.getElem?_eq_getElem (by rw [Hn.out]; exact hlt)⟩
        obtain ⟨ad, rfl, hc0, hc1, hc2, hc3⟩ := sec_at (HX.out.ext (w' := wr)).x hu
        have HK := Lib.hid ((HX.out.ext (w' := wr)).ok u (List.mem_of_getElem? hu))
        rw [drop_at hu] at HD
        clear hu
        obtain ⟨uc, uss, ud, uA, un, uk, ux⟩ := u
        simp only at hc0 hc1 hc2 hc3
        go_wp2_with fail
        refine (right_any uc uss ud uA un uk ux HK.out.c HK.out.s HK.out.d HK.out.n _ (by exact HK.out.x.ext)).mono ?_
        rintro e w2 ⟨rfl, hb2⟩
        have S2 : Step w2 _ := ⟨hb2⟩
        obtain ⟨R, hR⟩ : ∃ R, rightF (strB uc) (strB uss) (strB ud) ux = R := ⟨_, rfl⟩
        rw [hR]
        have HD2 : Hid (wrongF us = if R ≠ 0 then (R, k) else wrongAt (k + 1) (us.drop (k + 1))) := by unfold Hid; rw [← hR]; exact HD.out
        clear hR hb2
        by_cases hr : R = 0
        · subst hr
          go_wp2_with fail
          go_roundw
          case rel => exact ⟨k + 1, by go_num, by omega, HD2.out, (inferInstance : Ext w w2)⟩
          case measure => simp [intOf]; omega
        · have hr' : (R != 0) = true := by simpa using hr
          have HZ : Hid (wrongF us = (R, k)) := HD2.out.trans (if_pos hr)
          clear hr
          go_wp2_with fail
          go_ret2
          exact ⟨by rw [HZ.out]; rfl, (inferInstance : Ext w w2).out⟩
      · obtain rfl : k = n := by omega
        have HZ : Hid (wrongF us = (0, 0)) := by rw [List.drop_of_length_le (by rw [Hn.out]; exact Nat.le_refl _)] at HD; exact HD.out
        go_wp2
        go_ret2
        exact ⟨by rw [HZ.out]; rfl, HW.out.out⟩
end Go.Proofs.Ytobddmpiljknpaa
