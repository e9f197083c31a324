/-
  What an argument's reading gives of lists of secrets; what is checked hangs on the secrets' texts alone. No condition.
-/
import Derived.Test.YtodibldfolognaaPqD
import Derived.Test.YtodibldfolognaaPqA
import Derived.Test.YtodibldfolognaaPpV
namespace Go.Proofs.Ytodibldfolognaa
open Go.ChangeShapes Go.WideShapes Go.ChangeAt Go.RowKit
set_option linter.unusedVariables false
set_option linter.unusedSimpArgs false

theorem sz_str : Try.prog.cellsOf 9 = 1 := by kernel_rfl
theorem sz_i64 : Try.prog.cellsOf 2 = 1 := by kernel_rfl
theorem sz_i64s : Try.prog.cellsOf 77 = 1 := by kernel_rfl
theorem bytes_i64 : Try.prog.bytesOf 2 = 8 := by kernel_rfl
theorem sz_sec : Try.prog.cellsOf 79 = 4 := by kernel_rfl
theorem bytes_sec : Try.prog.bytesOf 79 = 72 := by kernel_rfl
theorem ArgC.sec {U : Nat} {W : World} {cs : List Value} (h : ArgC U Try.prog W 79 cs) : ∃ v : SV, cs = v.cells ∧ v.Ok W := by
  have hl := h.len Try.underlying79
  rw [sz_sec] at hl
  match cs, hl with
  | [a, x, y, z], _ =>
    have h0 : ArgC U Try.prog W 9 (([a, x, y, z].drop 0).take (Try.prog.cellsOf 9)) := h.field Try.underlying79 (i := 0) rfl
    have h1 : ArgC U Try.prog W 9 (([a, x, y, z].drop 1).take (Try.prog.cellsOf 9)) := h.field Try.underlying79 (i := 1) rfl
    have h2 : ArgC U Try.prog W 9 (([a, x, y, z].drop 2).take (Try.prog.cellsOf 9)) := h.field Try.underlying79 (i := 2) rfl
    have h3 : ArgC U Try.prog W 77 (([a, x, y, z].drop 3).take (Try.prog.cellsOf 77)) := h.field Try.underlying79 (i := 3) rfl
    rw [sz_str] at h0 h1 h2
    rw [sz_i64s] at h3
    obtain ⟨c, e0, l0⟩ := h0.str Try.underlying9
    obtain ⟨s, e1, l1⟩ := h1.str Try.underlying9
    obtain ⟨d, e2, l2⟩ := h2.str Try.underlying9
    obtain ⟨A, n, k, xs, e3, hl, hnc, _, hbb, _, hC, hw⟩ := h3.nums Try.underlying77 Try.underlying2 sz_i64
    rw [bytes_i64] at hbb
    simp at e0 e1 e2 e3
    subst e0 e1 e2 e3
    exact ⟨⟨c, s, d, A, n, k, xs⟩, rfl, ⟨by simp only; omega, by simp only; omega, by simp only; omega, hl, by simp only; omega, hnc, hC⟩⟩
theorem secs_at {vs : List SV} {i : Nat} {v : SV} (h : vs[i]? = some v) (j : Nat) (hj : j < 4) : (secs vs)[i * 4 + j]? = v.cells[j]? := by
  obtain ⟨h0, h1, h2, h3⟩ := secs_get h
  match j, hj with
  | 0, _ => rw [Nat.add_zero, h0]; rfl
  | 1, _ => rw [h1]; rfl
  | 2, _ => rw [h2]; rfl
  | 3, _ => rw [h3]; rfl
theorem Arg.secs {U : Nat} {W : World} {v : Value} (h : Arg U Try.prog W 75 v) : ∃ A n c vs, v = .slice A n c ∧ vs.length = n ∧ n ≤ 17592186044416 ∧ n ≤ c ∧ SecsAt W A vs := by
  obtain ⟨A', n', c', rfl⟩ := h.slice_shape Try.underlying75
  obtain ⟨A, n, c, hcs, hnc, hc', hb, hnil, hall⟩ := h.2.slice Try.underlying75
  rw [bytes_sec] at hb
  simp [Value.cells] at hcs
  obtain ⟨rfl, rfl, rfl⟩ := hcs
  obtain ⟨vs, hl, hvs⟩ := list_of (n := n') (p := fun i (v : SV) => (∃ ad, A' = some ad ∧ ∀ j u, v.cells[j]? = some u → W.cell? (ad.add (i * 4 + j)) = some u) ∧ v.Ok W) (by
    intro i hi
    obtain ⟨ad, es, hA, hes, hcell, harg⟩ := hall i hi
    rw [sz_sec] at hcell
    obtain ⟨v, rfl, h1⟩ := harg.sec
    exact ⟨v, ⟨ad, hA, hcell⟩, h1⟩)
  refine ⟨A', n', c', vs, rfl, hl, by omega, hnc, fun hpos => ?_, fun v hv => by
    obtain ⟨i, hi, rfl⟩ := List.getElem_of_mem hv
    exact (hvs i _ (List.getElem?_eq_getElem hi)).2⟩
  rw [secs_length] at hpos
  obtain ⟨⟨ad, hA, _⟩, _⟩ := hvs 0 vs[0] (List.getElem?_eq_getElem (by omega))
  refine ⟨ad, hA, fun j u hu => ?_⟩
  have hj : j < (Proofs.Ytodibldfolognaa.secs vs).length := (List.getElem?_eq_some_iff.1 hu).1
  rw [secs_length] at hj
  have hi : j / 4 < vs.length := by omega
  have hg : vs[j / 4]? = some vs[j / 4] := List.getElem?_eq_getElem hi
  have hjj : j / 4 * 4 + j % 4 = j := by omega
  have h1 := secs_at hg (j % 4) (by omega)
  rw [hjj, hu] at h1
  obtain ⟨⟨ad', hA', hcell⟩, _⟩ := hvs (j / 4) _ hg
  rw [hA] at hA'
  injection hA' with hA'
  subst hA'
  have := hcell (j % 4) u h1.symm
  rwa [hjj] at this
/-- What hangs on the texts and numbers alone. -/
theorem dat_parts {u v : SV} (h : u.dat = v.dat) : u.c = v.c ∧ u.s = v.s ∧ u.d = v.d ∧ u.xs = v.xs := by
  simp only [SV.dat, Prod.mk.injEq] at h
  exact ⟨h.1.1, h.1.2, h.2.1, h.2.2⟩
theorem gate_dat {c s : List Int} {u v : SV} (h : u.dat = v.dat) : gateF c s u = gateF c s v ∧ rankF c s u = rankF c s v ∧ u.right = v.right := by
  obtain ⟨h1, h2, h3, h4⟩ := dat_parts h
  unfold gateF rankF SV.right
  rw [h1, h2, h3, h4]
  exact ⟨rfl, rfl, rfl⟩
theorem best_dat {c s : List Int} : ∀ (us vs : List SV), us.map SV.dat = vs.map SV.dat → ∀ (i : Nat) (p : Int × Nat), bestF c s i us p = bestF c s i vs p := by
  intro us
  induction us with
  | nil => intro vs h i p; cases vs with
    | nil => rfl
    | cons v vs => simp at h
  | cons u us ih => intro vs h i p; cases vs with
    | nil => simp at h
    | cons v vs =>
      simp only [List.map_cons, List.cons.injEq] at h
      rw [bestF_cons, bestF_cons, ih vs h.2]
      unfold bestStep
      rw [(gate_dat h.1).1, (gate_dat h.1).2.1]
theorem check_dat {c s d : List Int} {us vs : List SV} (h : us.map SV.dat = vs.map SV.dat) : checkF c s d us = checkF c s d vs := by
  unfold checkF findF
  rw [best_dat us vs h]
  generalize bestF c s 0 vs (-1, 0) = p
  by_cases hp : p.1 < 0
  · rw [if_pos hp, if_pos hp]
  rw [if_neg hp, if_neg hp]
  have h1 : (us.map SV.dat)[p.2]? = (vs.map SV.dat)[p.2]? := by rw [h]
  rw [List.getElem?_map, List.getElem?_map] at h1
  rcases h2 : us[p.2]? with _ | u
  · rcases h3 : vs[p.2]? with _ | v
    · rfl
    · rw [h2, h3] at h1; cases h1
  · rcases h3 : vs[p.2]? with _ | v
    · rw [h2, h3] at h1; cases h1
    · rw [h2, h3] at h1
      simp only [Option.map_some, Option.some.injEq] at h1
      simp only
      rw [(dat_parts h1).2.2.1]
theorem wrongAt_dat : ∀ (us vs : List SV), us.map SV.dat = vs.map SV.dat → ∀ i, wrongAt i us = wrongAt i vs := by
  intro us
  induction us with
  | nil => intro vs h i; cases vs with
    | nil => rfl
    | cons v vs => simp at h
  | cons u us ih => intro vs h i; cases vs with
    | nil => simp at h
    | cons v vs =>
      simp only [List.map_cons, List.cons.injEq] at h
      unfold wrongAt
      rw [(gate_dat (c := []) (s := []) h.1).2.2, ih vs h.2]
theorem wrong_dat {us vs : List SV} (h : us.map SV.dat = vs.map SV.dat) : wrongF us = wrongF vs := by
  have hl : us.length = vs.length := by have := congrArg List.length h; simpa using this
  unfold wrongF
  rw [hl, wrongAt_dat us vs h]
theorem strOf_eq (s : ByteArray) : strOfNums (strB s) = s := by
  have h := strOf_strB s
  rw [Lib.toList_data, Lib.toList_data] at h
  exact ByteArray.ext (Array.toList_inj.1 h)
end Go.Proofs.Ytodibldfolognaa
