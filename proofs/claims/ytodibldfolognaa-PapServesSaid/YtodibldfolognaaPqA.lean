/-
  What an argument's reading gives of law12's calls (Op). No condition.
-/
import Derived.Test.YtodibldfolognaaPpY
import Derived.Test.YtodibldfolognaaArgs
namespace Go.Proofs.Ytodibldfolognaa
open Go.ChangeShapes Go.WideShapes Go.ChangeAt Go.RowKit
set_option linter.unusedVariables false
set_option linter.unusedSimpArgs false

theorem sz_packet' : Try.prog.cellsOf 43 = 3 := by kernel_rfl
theorem sz_op : Try.prog.cellsOf 88 = 4 := by kernel_rfl
theorem bytes_op : Try.prog.bytesOf 88 = 48 := by kernel_rfl
/-- A call as it lies in memory. -/
structure PV where
  kind : Int
  code : Int
  id : Int
  A : Option Addr
  n : Nat
  c : Nat
  xs : List Int
def PV.cells (u : PV) : List Value := [.int .i64 u.kind, .int .i64 u.code, .int .i64 u.id, .slice u.A u.n u.c]
structure PV.Ok (w : World) (u : PV) : Prop where
  n : u.xs.length = u.n
  m : u.n ≤ 140737488351232
  c : u.n ≤ u.c
  b : Byt u.xs
  x : Cells w u.A (nums .u8 u.xs)
theorem PV.Ok.ext {w w' : World} {u : PV} [h : Ext w w'] (k : u.Ok w) : u.Ok w' := ⟨k.n, k.m, k.c, k.b, k.x.ext⟩
theorem ArgC.packet {U : Nat} {W : World} {cs : List Value} (h : ArgC U Try.prog W 43 cs) : ∃ code id A n c xs, cs = [.int .i64 code, .int .i64 id, .slice A n c] ∧ xs.length = n ∧ n ≤ 140737488351232 ∧ n ≤ c ∧ Cells W A (Proofs.Ytodibldfolognaa.nums .u8 xs) ∧ Byt xs := by
  have hl := h.len Try.underlying43
  rw [sz_packet'] at hl
  match cs, hl with
  | [x, y, z], _ =>
    have h0 : ArgC U Try.prog W 3 (([x, y, z].drop 0).take (Try.prog.cellsOf 3)) := h.field Try.underlying43 (i := 0) rfl
    have h1 : ArgC U Try.prog W 3 (([x, y, z].drop 1).take (Try.prog.cellsOf 3)) := h.field Try.underlying43 (i := 1) rfl
    have h2 : ArgC U Try.prog W 41 (([x, y, z].drop 2).take (Try.prog.cellsOf 41)) := h.field Try.underlying43 (i := 2) rfl
    rw [sz_int] at h0 h1
    rw [sz_bytes] at h2
    obtain ⟨a, e0, w0⟩ := h0.int Try.underlying3
    obtain ⟨b, e1, w1⟩ := h1.int Try.underlying3
    obtain ⟨A, n, c, xs, e2, hl, hnc, hn, hC, hB⟩ := h2.byts
    simp at e0 e1 e2
    subst e0 e1 e2
    exact ⟨_, _, _, _, _, xs, rfl, hl, hn, hnc, hC, hB⟩
theorem ArgC.op {U : Nat} {W : World} {cs : List Value} (h : ArgC U Try.prog W 88 cs) : ∃ v : PV, cs = v.cells ∧ v.Ok W := by
  have hl := h.len Try.underlying88
  rw [sz_op] at hl
  match cs, hl with
  | [a, x, y, z], _ =>
    have h0 : ArgC U Try.prog W 3 (([a, x, y, z].drop 0).take (Try.prog.cellsOf 3)) := h.field Try.underlying88 (i := 0) rfl
    have h2 : ArgC U Try.prog W 43 (([a, x, y, z].drop 1).take (Try.prog.cellsOf 43)) := h.field Try.underlying88 (i := 1) rfl
    rw [sz_int] at h0
    rw [sz_packet'] at h2
    obtain ⟨k, e0, w0⟩ := h0.int Try.underlying3
    obtain ⟨code, id, A, n, c, xs, e2, hl, hn, hnc, hC, hB⟩ := h2.packet
    simp at e0 e2
    obtain ⟨rfl, rfl, rfl⟩ := e2
    subst e0
    exact ⟨⟨k, code, id, A, n, c, xs⟩, rfl, ⟨hl, hn, hnc, hB, hC⟩⟩
def ops (us : List PV) : List Value := us.flatMap PV.cells
theorem ops_cons (u : PV) (us : List PV) : ops (u :: us) = .int .i64 u.kind :: .int .i64 u.code :: .int .i64 u.id :: .slice u.A u.n u.c :: ops us := rfl
theorem ops_length (us : List PV) : (ops us).length = us.length * 4 := by
  induction us with
  | nil => rfl
  | cons v vs ih => simp [ops_cons, ih]; omega
theorem ops_get {us : List PV} {i : Nat} {v : PV} (h : us[i]? = some v) : (ops us)[i * 4]? = some (.int .i64 v.kind) ∧ (ops us)[i * 4 + 1]? = some (.int .i64 v.code) ∧ (ops us)[i * 4 + 2]? = some (.int .i64 v.id) ∧ (ops us)[i * 4 + 3]? = some (.slice v.A v.n v.c) := by
  induction us generalizing i with
  | nil => simp at h
  | cons x us ih =>
    rw [ops_cons]
    cases i with
    | zero => simp at h; subst h; simp
    | succ i =>
      have h1 := ih (i := i) (by simpa using h)
      rw [show (i + 1) * 4 = i * 4 + 4 by omega]
      exact h1
theorem op_at {w : World} {A : Option Addr} {us : List PV} {k : Nat} {v : PV} (h : Cells w A (ops us)) (hk : us[k]? = some v) : ∃ ad, A = some ad ∧ w.cell? (ad.add (k * 4)) = some (.int .i64 v.kind) ∧
    w.cell? ⟨(ad.add (k * 4)).block, (ad.add (k * 4)).off + 1, none⟩ = some (.int .i64 v.code) ∧ w.cell? ⟨(ad.add (k * 4)).block, (ad.add (k * 4)).off + 2, none⟩ = some (.int .i64 v.id) ∧ w.cell? ⟨(ad.add (k * 4)).block, (ad.add (k * 4)).off + 3, none⟩ = some (.slice v.A v.n v.c) := by
  obtain ⟨h0, h1, h2, h3⟩ := ops_get hk
  have hl : k < us.length := (List.getElem?_eq_some_iff.1 hk).1
  obtain ⟨ad, rfl, hc⟩ := h (by rw [ops_length]; omega)
  refine ⟨ad, rfl, hc _ _ h0, ?_, ?_, ?_⟩
  · have := hc _ _ h1
    rw [← add_of_add] at this
    exact this
  · have := hc _ _ h2
    rw [← add_of_add] at this
    exact this
  · have := hc _ _ h3
    rw [← add_of_add] at this
    exact this
theorem ops_at {vs : List PV} {i : Nat} {v : PV} (h : vs[i]? = some v) (j : Nat) (hj : j < 4) : (ops vs)[i * 4 + j]? = v.cells[j]? := by
  obtain ⟨h0, h1, h2, h3⟩ := ops_get h
  match j, hj with
  | 0, _ => rw [Nat.add_zero, h0]; rfl
  | 1, _ => rw [h1]; rfl
  | 2, _ => rw [h2]; rfl
  | 3, _ => rw [h3]; rfl
/-- A list of calls that can be read. -/
structure OpsAt (w : World) (A : Option Addr) (us : List PV) : Prop where
  x : Cells w A (ops us)
  ok : ∀ u ∈ us, u.Ok w
theorem OpsAt.ext {w w' : World} {A : Option Addr} {us : List PV} [h : Ext w w'] (k : OpsAt w A us) : OpsAt w' A us := ⟨k.x.ext, fun u hu => (k.ok u hu).ext⟩
theorem Arg.ops {U : Nat} {W : World} {v : Value} (h : Arg U Try.prog W 76 v) : ∃ A n c vs, v = .slice A n c ∧ vs.length = n ∧ n ≤ 4398046511104 ∧ OpsAt W A vs := by
  obtain ⟨A', n', c', rfl⟩ := h.slice_shape Try.underlying76
  obtain ⟨A, n, c, hcs, hnc, hc', hb, hnil, hall⟩ := h.2.slice Try.underlying76
  rw [bytes_op] at hb
  simp [Value.cells] at hcs
  obtain ⟨rfl, rfl, rfl⟩ := hcs
  obtain ⟨vs, hl, hvs⟩ := list_of (n := n') (p := fun i (v : PV) => (∃ ad, A' = some ad ∧ ∀ j u, v.cells[j]? = some u → W.cell? (ad.add (i * 4 + j)) = some u) ∧ v.Ok W) (by
    intro i hi
    obtain ⟨ad, es, hA, hes, hcell, harg⟩ := hall i hi
    rw [sz_op] at hcell
    obtain ⟨v, rfl, h1⟩ := harg.op
    exact ⟨v, ⟨ad, hA, hcell⟩, h1⟩)
  refine ⟨A', n', c', vs, rfl, hl, by omega, fun hpos => ?_, fun v hv => by
    obtain ⟨i, hi, rfl⟩ := List.getElem_of_mem hv
    exact (hvs i _ (List.getElem?_eq_getElem hi)).2⟩
  rw [ops_length] at hpos
  obtain ⟨⟨ad, hA, _⟩, _⟩ := hvs 0 vs[0] (List.getElem?_eq_getElem (by omega))
  refine ⟨ad, hA, fun j u hu => ?_⟩
  have hj : j < (Proofs.Ytodibldfolognaa.ops vs).length := (List.getElem?_eq_some_iff.1 hu).1
  rw [ops_length] at hj
  have hi : j / 4 < vs.length := by omega
  have hg : vs[j / 4]? = some vs[j / 4] := List.getElem?_eq_getElem hi
  have hjj : j / 4 * 4 + j % 4 = j := by omega
  have h1 := ops_at hg (j % 4) (by omega)
  rw [hjj, hu] at h1
  obtain ⟨⟨ad', hA', hcell⟩, _⟩ := hvs (j / 4) _ hg
  rw [hA] at hA'
  injection hA' with hA'
  subst hA'
  have := hcell (j % 4) u h1.symm
  rwa [hjj] at this
end Go.Proofs.Ytodibldfolognaa
