/-
  tetherlaw22.awake answers true: chapter 22's first example. No condition.
-/
import Derived.Test.YtnhmpmibkpoipaaCcE
namespace Go.Proofs.Ytnhmpmibkpoipaa
open Go.RowKit
set_option linter.unusedVariables false
set_option linter.unusedSimpArgs false

theorem opts_two {us : List OV} {t t2 : Int} {d d2 : List Int} (h : us.map OV.opt = [(t, d), (t2, d2)]) : ∃ u v, us = [u, v] ∧ u.t = t ∧ u.d = d ∧ v.t = t2 ∧ v.d = d2 := by
  match us, h with
  | [u, v], h =>
    simp only [List.map_cons, List.map_nil, List.cons.injEq, and_true] at h
    exact ⟨u, v, rfl, congrArg Prod.fst h.1, congrArg Prod.snd h.1, congrArg Prod.fst h.2, congrArg Prod.snd h.2⟩
theorem opts_one {us : List OV} {t : Int} {d : List Int} (h : us.map OV.opt = [(t, d)]) : ∃ u, us = [u] ∧ u.t = t ∧ u.d = d := by
  match us, h with
  | [u], h =>
    simp only [List.map_cons, List.map_nil, List.cons.injEq, and_true] at h
    exact ⟨u, rfl, congrArg Prod.fst h, congrArg Prod.snd h⟩
theorem conv8 {w : World} {A : Option Addr} {n c : Nat} {xs : List Int} {s : ByteArray} (hn : xs.length = n) (hx : Cells w A (nums .u8 xs)) (hs : strOfNums xs = s) : (convert 22 9 (.slice A n c)).run Try.prog w = .ok (.string s) w := by
  rw [← hs]
  exact conv_cells (P := Try.prog) (c := c) 22 5 9 Try.underlying22 Try.underlying5 Try.underlying9 hn hx
theorem str1 : strOfNums [120, 0] = ⟨#[120, 0]⟩ := by rfl
theorem str2 : strOfNums [44] = ⟨#[44]⟩ := by rfl
theorem str3 : strOfNums [72, 0] = ⟨#[72, 0]⟩ := by rfl
theorem str4 : strOfNums [33, 69] = ⟨#[33, 69]⟩ := by rfl
set_option maxRecDepth 100000 in
set_option maxHeartbeats 8000000 in
theorem awake22_any (w : World) : Calls Try.prog 19 #[] w fun e w' => e = .returned (.bool true) ∧ Below w.heap.size w w' := by
  go_enter Try.func19, Try.ntmps19
  go_wp2_with fail
  refine (options22_any 15 12 _).mono ?_
  rintro e w1 ⟨v1, us, rfl, ho1, hu1, hb1⟩
  have S1 : Step w1 _ := ⟨hb1⟩
  have hop : optsC 15 12 = [(26, [120, 0]), (21, [44])] := by decide
  rw [hop] at hu1
  obtain ⟨u1, u2, rfl, _, hd1, _, hd2⟩ := opts_two hu1
  obtain ⟨g1, c1, rfl, _, _, _⟩ := own_form ho1.1 (by simp)
  have hn1 : u1.n = 2 := by have := (ho1.2.2.2.2 u1 (by simp)).1; rw [← this, hd1]; rfl
  have hn2 : u2.n = 1 := by have := (ho1.2.2.2.2 u2 (by simp)).1; rw [← this, hd2]; rfl
  have HO1 := Lib.hid ho1
  have HD1 := Lib.hid (And.intro hd1 hd2)
  have HN1 := Lib.hid (And.intro hn1 hn2)
  clear ho1 hu1 hb1 hop hd1 hd2 hn1 hn2
  go_wp2_with fail
  refine (judgeOne22_any _ 0 (by exact info_conf) (by rfl) (by rfl) (by rfl) ⟨w1.heap.size + 1, 0, none⟩ 1 2 (some ⟨w1.heap.size, 0, none⟩) (by omega) _ (cells_box _ _ (by simp) [.int .i64 26, .slice (some ⟨w1.heap.size, 0, none⟩) 2 2] _) (fun v hv => by
    rw [List.mem_singleton] at hv
    subst hv
    exact ⟨rfl, by simp, by simp, by intro x hx; simp at hx; omega, Cells.ext (cells_box w1 w1.heap.size rfl [.int .u8 120, .int .u8 0] 5)⟩)).mono ?_
  rintro e w2 ⟨v2, xs, rfl, ho2, hu2, hb2⟩
  have S2 : Step w2 _ := ⟨hb2⟩
  obtain ⟨x1, rfl, _, hd3⟩ := opts_one hu2
  obtain ⟨g2, c2, rfl, _, _, _⟩ := own_form ho2.1 (by simp)
  have hn3 : x1.n = 2 := by have := (ho2.2.2.2.2 x1 (by simp)).1; rw [← this, hd3]; rfl
  have HO2 := Lib.hid ho2
  have HD2 := Lib.hid hd3
  have HN2 := Lib.hid hn3
  clear ho2 hu2 hb2 hd3 hn3
  go_wp2_with fail
  refine (bytes22_any 33 (some ⟨w2.heap.size, 0, none⟩) 1 1 [69] (by omega) (by omega) rfl (by omega) _ (cells_box w2 w2.heap.size rfl (nums .u8 [69]) 5)).mono ?_
  rintro e w3 ⟨A3, n3, c3, rfl, hl3, ho3, hb3⟩
  have S3 : Step w3 _ := ⟨hb3⟩
  have e1 : bytesE22 33 [69] = 0 := by decide
  have e2 : bytesL22 33 [69] = [33, 69] := by decide
  rw [e2] at hl3 ho3
  rw [e1]
  obtain rfl : 2 = n3 := hl3
  have k4 := conv8 (c := c3) rfl (own_cells ho3) str4
  clear hb3 e1 e2 ho3
  have y1 : w3.cell? ⟨g1, 1, none⟩ = some (.slice u1.A u1.n u1.c) := by rw [(own_ext (w' := w3) HO1.out.1).cellAt 1 (by simp [flat_cons])]; rfl
  have y2 : w3.cell? ⟨g1, 3, none⟩ = some (.slice u2.A u2.n u2.c) := by rw [(own_ext (w' := w3) HO1.out.1).cellAt 3 (by simp [flat_cons])]; rfl
  have y3 : w3.cell? ⟨g2, 1, none⟩ = some (.slice x1.A x1.n x1.c) := by rw [(own_ext (w' := w3) HO2.out.1).cellAt 1 (by simp [flat_cons])]; rfl
  have c1' := own_cells (own_ext (w' := w3) (HO1.out.2.1 u1 (by simp)))
  have c2' := own_cells (own_ext (w' := w3) (HO1.out.2.1 u2 (by simp)))
  have c3' := own_cells (own_ext (w' := w3) (HO2.out.2.1 x1 (by simp)))
  rw [HD1.out.1] at c1'
  rw [HD1.out.2] at c2'
  rw [HD2.out] at c3'
  rw [HN1.out.1] at y1
  rw [HN1.out.2] at y2
  rw [HN2.out] at y3
  have k1 := conv8 (c := u1.c) rfl c1' str1
  have k2 := conv8 (c := u2.c) rfl c2' str2
  have k3 := conv8 (c := x1.c) rfl c3' str3
  simp only [List.length_cons, List.length_nil, Nat.zero_add, Nat.reduceAdd] at k1 k2 k3 k4
  clear c1' c2' c3'
  go_wp2
  go_ret
  exact ⟨rfl, Ext.out⟩
end Go.Proofs.Ytnhmpmibkpoipaa
