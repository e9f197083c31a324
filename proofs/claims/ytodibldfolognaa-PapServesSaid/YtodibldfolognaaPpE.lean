/-
  pap.ReadRequest: what a request says. Conditions: the data are no longer than the model's memory.
-/
import Derived.Test.YtodibldfolognaaPpD
import Derived.Deep.DeepCutAuto
namespace Go.Proofs.Ytodibldfolognaa
open Go.RowKit
set_option linter.unusedVariables false
set_option linter.unusedSimpArgs false

def rrF (code id : Int) (xs : List Int) : (List Int × List Int) × Int :=
  if id < 0 ∨ 255 < id then (([], []), 1) else if code ≠ 1 then (([], []), 90) else match partF xs with
    | none => (([], []), 8)
    | some (p, r) => match partF r with
      | none => (([], []), 8)
      | some (q, r2) => if r2 ≠ [] then (([], []), 3) else ((p, q), 0)
theorem run_loadVar_str {P : Program} {w : World} {a : Addr} {v : Value} {ty : TypeId} (hu : P.underlying ty = some .string) (hc : w.cell? a = some v) : (loadVar ty a).run P w = .ok v w := by
  simp [loadVar, isAgg, Go.underlying, go_sem, hu, hc]
theorem results_ccc {P : Program} {fn : Func} {p q r : Tmp} {t1 t2 t3 : TypeId} (h : fn.results = #[.cell p t1, .cell q t2, .cell r t3]) (tmps : Array Value) (w : World) (a b c : Addr) (x y z : Value)
    (hp : tmps.getD p undef = .pointer (some a)) (hq : tmps.getD q undef = .pointer (some b)) (hr : tmps.getD r undef = .pointer (some c)) (ha : (loadVar t1 a).run P w = .ok x w) (hb : (loadVar t2 b).run P w = .ok y w) (hc : (loadVar t3 c).run P w = .ok z w) :
    (results fn tmps).run P w = .ok (.tuple #[x, y, z]) w := by
  have hp' : tmps[p]?.getD undef = .pointer (some a) := by simpa using hp
  have hq' : tmps[q]?.getD undef = .pointer (some b) := by simpa using hq
  have hr' : tmps[r]?.getD undef = .pointer (some c) := by simpa using hr
  simp [results, h, hp', hq', hr', asAddr, ha, hb, hc]
def RRTells (r : (List Int × List Int) × Int) (e : Ending) : Prop := e = .returned (.tuple #[.string (strOfNums r.1.1), .string (strOfNums r.1.2), .int .i64 r.2])
theorem rr_tells {F : (List Int × List Int) × Int} {p q : List Int} {x : Int} (h : F = ((p, q), x)) : RRTells F (.returned (.tuple #[.string (strOfNums p), .string (strOfNums q), .int .i64 x])) := by rw [h]; rfl
section
variable {w : World} {E N M : Nat} {e : Int} {a b : ByteArray}
theorem C3.sa (k : C3 w E N M e a b) (h1 : E ≠ N) (h2 : M ≠ N) (x : ByteArray) : C3 (w.setCell ⟨N, 0, none⟩ (.string x)) E N M e x b :=
  ⟨(Below.heap_setCell _ _ _ _ h1).trans k.e, at_set k.a 0 _, (Below.heap_setCell _ _ _ _ h2).trans k.b⟩
theorem C3.sb (k : C3 w E N M e a b) (h1 : E ≠ M) (h2 : N ≠ M) (x : ByteArray) : C3 (w.setCell ⟨M, 0, none⟩ (.string x)) E N M e a x :=
  ⟨(Below.heap_setCell _ _ _ _ h1).trans k.e, (Below.heap_setCell _ _ _ _ h2).trans k.a, at_set k.b 0 _⟩
theorem C3.se (k : C3 w E N M e a b) (h1 : N ≠ E) (h2 : M ≠ E) (x : Int) : C3 (w.setCell ⟨E, 0, none⟩ (.int .i64 x)) E N M x a b :=
  ⟨at_set k.e 0 _, (Below.heap_setCell _ _ _ _ h1).trans k.a, (Below.heap_setCell _ _ _ _ h2).trans k.b⟩
theorem C3.but {w' : World} (k : C3 w E N M e a b) (h : But w w' E) (h1 : N ≠ E) (h2 : M ≠ E) (x : Int) (he : w'.heap[E]? = some (.cells #[.int .i64 x] 35 (0, 0))) : C3 w' E N M x a b := ⟨he, h.at h1 k.a, h.at h2 k.b⟩
end
theorem partF_cons {x : Int} {xs p r : List Int} (h : partF (x :: xs) = some (p, r)) : p = xs.take x.toNat ∧ r = xs.drop x.toNat := by
  have h' : (if (xs.length : Int) < x then none else some (xs.take x.toNat, xs.drop x.toNat)) = some (p, r) := h
  split at h'
  · cases h'
  · injection h' with h'
    injection h' with h1 h2
    exact ⟨h1.symm, h2.symm⟩
theorem partF_len {xs p r : List Int} (h : partF xs = some (p, r)) : r.length ≤ xs.length := by
  cases xs with
  | nil => cases h
  | cons x xs =>
    rw [(partF_cons h).2, List.length_drop, List.length_cons]
    omega
theorem partF_byt {xs p r : List Int} (hb : Byt xs) (h : partF xs = some (p, r)) : Byt r := by
  cases xs with
  | nil => cases h
  | cons x xs =>
    rw [(partF_cons h).2]
    intro y hy
    exact hb y (List.mem_cons_of_mem _ (List.mem_of_mem_drop hy))
set_option maxRecDepth 100000 in
set_option maxHeartbeats 8000000 in
theorem readReq_any (code id : Int) (A : Option Addr) (n c : Nat) (xs : List Int) (hn : xs.length = n) (hn' : n ≤ 140737488355328) (hnc : n ≤ c) (hb : Byt xs) (w : World) (hx : Cells w A (nums .u8 xs)) :
    Calls Try.prog 62 #[.agg #[.int .i64 code, .int .i64 id, .slice A n c]] w fun e w' => RRTells (rrF code id xs) e ∧ Below w.heap.size w w' := by
  have Hn := Lib.hid hn
  have HX := Lib.hid hx
  have HB := Lib.hid hb
  clear hn hx hb
  have hmf : ∀ (fn : Fn) (first cap : Array Value) (w : World), (Instr.makeFunc fn first cap).run Try.prog w = .ok (.func fn first cap) w := fun _ _ _ _ => rfl
  by_cases h1 : id < 0 ∨ 255 < id
  · have HF : Hid (rrF code id xs = (([], []), 1)) := if_pos h1
    have HD := Lib.hid h1
    clear h1
    go_enter_defers Try.func62, Try.ntmps62
    go_upto_region 1 with fail
    obtain ⟨wb, hwb⟩ : ∃ wb, (((w.alloc (.cells #[.int .i64 code, .int .i64 id, .slice A n c] 43)).alloc (.cells #[.string ⟨#[]⟩] 9)).alloc (.cells #[.string ⟨#[]⟩] 9)).alloc (.cells #[.int .i64 0] 35) = wb := ⟨_, rfl⟩
    have HP : Hid (wb.heap[w.heap.size]? = some (.cells #[.int .i64 code, .int .i64 id, .slice A n c] 43 (0, 0))) := by unfold Hid; rw [← hwb]; exact at_ext (at_new w _)
    have HC : Hid (C3 wb (w.heap.size + 1 + 1 + 1) (w.heap.size + 1) (w.heap.size + 1 + 1) 0 ⟨#[]⟩ ⟨#[]⟩) := by
      unfold Hid
      rw [← hwb]
      exact ⟨at_new1 (by simp), at_ext (w := (w.alloc (.cells #[.int .i64 code, .int .i64 id, .slice A n c] 43)).alloc (.cells #[.string ⟨#[]⟩] 9)) (at_new1 (by simp)), at_ext (w := ((w.alloc (.cells #[.int .i64 code, .int .i64 id, .slice A n c] 43)).alloc (.cells #[.string ⟨#[]⟩] 9)).alloc (.cells #[.string ⟨#[]⟩] 9)) (at_new1 (by simp))⟩
    have HW : Hid (Ext w wb) := by unfold Hid; rw [← hwb]; exact inferInstance
    rw [hwb]
    clear hwb
    have p0 : wb.cell? ⟨w.heap.size, 0, none⟩ = some (.int .i64 code) := at_cell HP.out 0
    have p1 : wb.cell? ⟨w.heap.size, 1, none⟩ = some (.int .i64 id) := at_cell HP.out 1
    have p2 : wb.cell? ⟨w.heap.size, 2, none⟩ = some (.slice A n c) := at_cell HP.out 2
    go_wp2_with fail
    refine (isByte_no id HD.out _).mono ?_
    rintro e w1 ⟨rfl, rfl⟩
    have c1 := HC.out.sa (by omega) (by omega) ⟨#[]⟩
    have c2 := c1.sb (by omega) (by omega) ⟨#[]⟩
    have c3 := c2.se (by omega) (by omega) 1
    have q1 : wb.cell? ⟨w.heap.size + 1, 0, none⟩ = some (.string ⟨#[]⟩) := at_cell HC.out.a 0
    have f1 := at_frozen HC.out.a 0
    have q2 := at_cell c1.b 0
    have f2 := at_frozen c1.b 0
    have q3 := at_cell c2.e 0
    have f3 := at_frozen c2.e 0
    simp only [List.getElem?_toArray, List.getElem?_cons_zero] at q2 q3
    have HC3 := Lib.hid c3
    have HBB : Hid (Below w.heap.size w (((wb.setCell ⟨w.heap.size + 1, 0, none⟩ (.string ⟨#[]⟩)).setCell ⟨w.heap.size + 1 + 1, 0, none⟩ (.string ⟨#[]⟩)).setCell ⟨w.heap.size + 1 + 1 + 1, 0, none⟩ (.int .i64 1))) :=
      ((HW.out.out.setCell (p := ⟨w.heap.size + 1, 0, none⟩) (by show _ ≤ w.heap.size + 1; omega) _).setCell (p := ⟨w.heap.size + 1 + 1, 0, none⟩) (by show _ ≤ w.heap.size + 1 + 1; omega) _).setCell (p := ⟨w.heap.size + 1 + 1 + 1, 0, none⟩) (by show _ ≤ w.heap.size + 1 + 1 + 1; omega) _
    clear c1 c2 c3
    go_wp2
    unfold bodyPostD
    show Leaves _ _ _ _ [] .returning _
    exact ⟨_, results_ccc Try.results62 _ _ ⟨w.heap.size + 1, 0, none⟩ ⟨w.heap.size + 1 + 1, 0, none⟩ ⟨w.heap.size + 1 + 1 + 1, 0, none⟩ (.string ⟨#[]⟩) (.string ⟨#[]⟩) (.int .i64 1) rfl rfl rfl (run_loadVar_str Try.underlying9 (at_cell HC3.out.a 0)) (run_loadVar_str Try.underlying9 (at_cell HC3.out.b 0)) (run_loadVar_int Try.underlying35 (at_cell HC3.out.e 0)), rr_tells (p := []) (q := []) HF.out, HBB.out⟩
  have HD := Lib.hid h1
  by_cases h2 : code = 1
  · subst h2
    rcases hp1 : partF xs with _ | ⟨p, r⟩
    · have HF : Hid (rrF 1 id xs = (([], []), 8)) := by unfold Hid rrF; rw [if_neg h1, if_neg (by simp), hp1]
      have HPF := Lib.hid hp1
      clear h1 hp1
      go_enter_defers Try.func62, Try.ntmps62
      go_upto_region 1 with fail
      obtain ⟨wb, hwb⟩ : ∃ wb, (((w.alloc (.cells #[.int .i64 1, .int .i64 id, .slice A n c] 43)).alloc (.cells #[.string ⟨#[]⟩] 9)).alloc (.cells #[.string ⟨#[]⟩] 9)).alloc (.cells #[.int .i64 0] 35) = wb := ⟨_, rfl⟩
      have HP : Hid (wb.heap[w.heap.size]? = some (.cells #[.int .i64 1, .int .i64 id, .slice A n c] 43 (0, 0))) := by unfold Hid; rw [← hwb]; exact at_ext (at_new w _)
      have HC : Hid (C3 wb (w.heap.size + 1 + 1 + 1) (w.heap.size + 1) (w.heap.size + 1 + 1) 0 ⟨#[]⟩ ⟨#[]⟩) := by
        unfold Hid
        rw [← hwb]
        exact ⟨at_new1 (by simp), at_ext (w := (w.alloc (.cells #[.int .i64 1, .int .i64 id, .slice A n c] 43)).alloc (.cells #[.string ⟨#[]⟩] 9)) (at_new1 (by simp)), at_ext (w := ((w.alloc (.cells #[.int .i64 1, .int .i64 id, .slice A n c] 43)).alloc (.cells #[.string ⟨#[]⟩] 9)).alloc (.cells #[.string ⟨#[]⟩] 9)) (at_new1 (by simp))⟩
      have HW : Hid (Ext w wb) := by unfold Hid; rw [← hwb]; exact inferInstance
      rw [hwb]
      clear hwb
      have p0 : wb.cell? ⟨w.heap.size, 0, none⟩ = some (.int .i64 1) := at_cell HP.out 0
      have p1 : wb.cell? ⟨w.heap.size, 1, none⟩ = some (.int .i64 id) := at_cell HP.out 1
      have p2 : wb.cell? ⟨w.heap.size, 2, none⟩ = some (.slice A n c) := at_cell HP.out 2
      go_wp2_with fail
      refine (isByte_yes id HD.out _).mono ?_
      rintro e w1 ⟨rfl, rfl⟩
      go_wp2_with fail
      refine (part_any A n c xs Hn.out hn' hnc HB.out _ (by have := HW.out; exact HX.out.ext)).mono ?_
      rintro e w2 ⟨hb2, he2⟩
      rw [HPF.out] at he2
      simp only at he2
      subst he2
      have X2 : Ext wb w2 := ⟨hb2⟩
      have HC2 := Lib.hid (HC.out.ext (w' := w2))
      have HW2 : Hid (Ext w w2) := Ext.trans_ HW.out X2
      clear hb2 p0 p1 p2
      go_wp2_with fail
      refine leaves_cons (f := 110) (args := #[.pointer (some ⟨w.heap.size + 1 + 1 + 1, 0, none⟩)]) (by simp) (by simp [go_sem]) ?_
      refine (told_panicking 0 (w.heap.size + 1 + 1 + 1) _ HC2.out.e).mono ?_
      rintro e u' wy ⟨rfl, rfl, hEy, hby⟩
      have hCy := C3.but HC2.out hby (by omega) (by omega) 8 hEy
      have hBy : Ext w wy := hby.ext HW2.out (by omega)
      show Leaves _ _ _ _ [_] .returning _
      refine leaves_cons (f := 109) (args := #[.pointer (some ⟨w.heap.size + 1 + 1 + 1, 0, none⟩), .pointer (some ⟨w.heap.size + 1, 0, none⟩), .pointer (some ⟨w.heap.size + 1 + 1, 0, none⟩)]) (by simp) (by simp [go_sem]) ?_
      refine (empty_any .returning (w.heap.size + 1 + 1 + 1) (w.heap.size + 1) (w.heap.size + 1 + 1) 8 ⟨#[]⟩ ⟨#[]⟩ _ (by omega) hCy (by omega) (by omega)).mono ?_
      rintro e u' wz ⟨rfl, rfl, hCz, hbz⟩
      show Leaves _ _ _ _ [] .returning _
      exact ⟨_, results_ccc Try.results62 _ _ ⟨w.heap.size + 1, 0, none⟩ ⟨w.heap.size + 1 + 1, 0, none⟩ ⟨w.heap.size + 1 + 1 + 1, 0, none⟩ (.string ⟨#[]⟩) (.string ⟨#[]⟩) (.int .i64 8) rfl rfl rfl (run_loadVar_str Try.underlying9 (at_cell hCz.a 0)) (run_loadVar_str Try.underlying9 (at_cell hCz.b 0)) (run_loadVar_int Try.underlying35 (at_cell hCz.e 0)), rr_tells (p := []) (q := []) HF.out, hbz _ _ hBy.out (by omega) (by omega)⟩
    · rcases hp2 : partF r with _ | ⟨q, r2⟩
      · have HF : Hid (rrF 1 id xs = (([], []), 8)) := by unfold Hid rrF; rw [if_neg h1, if_neg (by simp), hp1]; simp only; rw [hp2]
        have HPF := Lib.hid hp1
        have HPF2 := Lib.hid hp2
        clear h1 hp1 hp2
        go_enter_defers Try.func62, Try.ntmps62
        go_upto_region 1 with fail
        obtain ⟨wb, hwb⟩ : ∃ wb, (((w.alloc (.cells #[.int .i64 1, .int .i64 id, .slice A n c] 43)).alloc (.cells #[.string ⟨#[]⟩] 9)).alloc (.cells #[.string ⟨#[]⟩] 9)).alloc (.cells #[.int .i64 0] 35) = wb := ⟨_, rfl⟩
        have HP : Hid (wb.heap[w.heap.size]? = some (.cells #[.int .i64 1, .int .i64 id, .slice A n c] 43 (0, 0))) := by unfold Hid; rw [← hwb]; exact at_ext (at_new w _)
        have HC : Hid (C3 wb (w.heap.size + 1 + 1 + 1) (w.heap.size + 1) (w.heap.size + 1 + 1) 0 ⟨#[]⟩ ⟨#[]⟩) := by
          unfold Hid
          rw [← hwb]
          exact ⟨at_new1 (by simp), at_ext (w := (w.alloc (.cells #[.int .i64 1, .int .i64 id, .slice A n c] 43)).alloc (.cells #[.string ⟨#[]⟩] 9)) (at_new1 (by simp)), at_ext (w := ((w.alloc (.cells #[.int .i64 1, .int .i64 id, .slice A n c] 43)).alloc (.cells #[.string ⟨#[]⟩] 9)).alloc (.cells #[.string ⟨#[]⟩] 9)) (at_new1 (by simp))⟩
        have HW : Hid (Ext w wb) := by unfold Hid; rw [← hwb]; exact inferInstance
        rw [hwb]
        clear hwb
        have p0 : wb.cell? ⟨w.heap.size, 0, none⟩ = some (.int .i64 1) := at_cell HP.out 0
        have p1 : wb.cell? ⟨w.heap.size, 1, none⟩ = some (.int .i64 id) := at_cell HP.out 1
        have p2 : wb.cell? ⟨w.heap.size, 2, none⟩ = some (.slice A n c) := at_cell HP.out 2
        go_wp2_with fail
        refine (isByte_yes id HD.out _).mono ?_
        rintro e w1 ⟨rfl, rfl⟩
        go_wp2_with fail
        refine (part_any A n c xs Hn.out hn' hnc HB.out _ (by have := HW.out; exact HX.out.ext)).mono ?_
        rintro e w2 ⟨hb2, he2⟩
        rw [HPF.out] at he2
        simp only at he2
        obtain ⟨A2, c2, rfl, hrc, hC2⟩ := he2
        have X2 : Ext wb w2 := ⟨hb2⟩
        have HC2 := Lib.hid (HC.out.ext (w' := w2))
        have HW2 : Hid (Ext w w2) := Ext.trans_ HW.out X2
        have hrl : r.length ≤ 140737488355328 := by have h1 := partF_len HPF.out; have h2 := Hn.out; omega
        have HRB := Lib.hid (partF_byt HB.out HPF.out)
        have q1 : w2.cell? ⟨w.heap.size + 1, 0, none⟩ = some (.string ⟨#[]⟩) := at_cell HC2.out.a 0
        have f1 := at_frozen HC2.out.a 0
        have HWS : Hid (Below w.heap.size w (w2.setCell ⟨w.heap.size + 1, 0, none⟩ (.string (strOfNums p)))) := HW2.out.out.setCell (p := ⟨w.heap.size + 1, 0, none⟩) (by show _ ≤ w.heap.size + 1; omega) _
        have HR0 := Lib.hid (hC2 w HX.out)
        have HRC : Hid (Cells (w2.setCell ⟨w.heap.size + 1, 0, none⟩ (.string (strOfNums p))) A2 (nums .u8 r)) := by have : Ext w (w2.setCell ⟨w.heap.size + 1, 0, none⟩ (.string (strOfNums p))) := ⟨HWS.out⟩; exact HR0.out.ext
        clear hb2 p0 p1 p2 hC2
        go_wp2_with fail
        refine (part_any A2 r.length c2 r rfl hrl hrc HRB.out _ HRC.out).mono ?_
        rintro e w3 ⟨hb3, he3⟩
        have X3 : Ext (w2.setCell ⟨w.heap.size + 1, 0, none⟩ (.string (strOfNums p))) w3 := ⟨hb3⟩
        have c1 := HC2.out.sa (by omega) (by omega) (strOfNums p)
        have HC3 := Lib.hid (c1.ext (w' := w3))
        have HW3 : Hid (Ext w w3) := Ext.trans_ ⟨HWS.out⟩ ⟨hb3⟩
        rw [HPF2.out] at he3
        simp only at he3
        subst he3
        clear hb3 c1
        go_wp2_with fail
        refine leaves_cons (f := 110) (args := #[.pointer (some ⟨w.heap.size + 1 + 1 + 1, 0, none⟩)]) (by simp) (by simp [go_sem]) ?_
        refine (told_panicking 0 (w.heap.size + 1 + 1 + 1) _ HC3.out.e).mono ?_
        rintro e u' wy ⟨rfl, rfl, hEy, hby⟩
        have hCy := C3.but HC3.out hby (by omega) (by omega) 8 hEy
        have hBy : Ext w wy := hby.ext HW3.out (by omega)
        show Leaves _ _ _ _ [_] .returning _
        refine leaves_cons (f := 109) (args := #[.pointer (some ⟨w.heap.size + 1 + 1 + 1, 0, none⟩), .pointer (some ⟨w.heap.size + 1, 0, none⟩), .pointer (some ⟨w.heap.size + 1 + 1, 0, none⟩)]) (by simp) (by simp [go_sem]) ?_
        refine (empty_any .returning (w.heap.size + 1 + 1 + 1) (w.heap.size + 1) (w.heap.size + 1 + 1) 8 (strOfNums p) ⟨#[]⟩ _ (by omega) hCy (by omega) (by omega)).mono ?_
        rintro e u' wz ⟨rfl, rfl, hCz, hbz⟩
        show Leaves _ _ _ _ [] .returning _
        exact ⟨_, results_ccc Try.results62 _ _ ⟨w.heap.size + 1, 0, none⟩ ⟨w.heap.size + 1 + 1, 0, none⟩ ⟨w.heap.size + 1 + 1 + 1, 0, none⟩ (.string ⟨#[]⟩) (.string ⟨#[]⟩) (.int .i64 8) rfl rfl rfl (run_loadVar_str Try.underlying9 (at_cell hCz.a 0)) (run_loadVar_str Try.underlying9 (at_cell hCz.b 0)) (run_loadVar_int Try.underlying35 (at_cell hCz.e 0)), rr_tells (p := []) (q := []) HF.out, hbz _ _ hBy.out (by omega) (by omega)⟩
      · have HPF := Lib.hid hp1
        have HPF2 := Lib.hid hp2
        rcases r2 with _ | ⟨r0, r2⟩
        · have HF : Hid (rrF 1 id xs = ((p, q), 0)) := by unfold Hid rrF; rw [if_neg h1, if_neg (by simp), hp1]; simp only; rw [hp2]; simp
          clear h1 hp1 hp2
          go_enter_defers Try.func62, Try.ntmps62
          go_upto_region 1 with fail
          obtain ⟨wb, hwb⟩ : ∃ wb, (((w.alloc (.cells #[.int .i64 1, .int .i64 id, .slice A n c] 43)).alloc (.cells #[.string ⟨#[]⟩] 9)).alloc (.cells #[.string ⟨#[]⟩] 9)).alloc (.cells #[.int .i64 0] 35) = wb := ⟨_, rfl⟩
          have HP : Hid (wb.heap[w.heap.size]? = some (.cells #[.int .i64 1, .int .i64 id, .slice A n c] 43 (0, 0))) := by unfold Hid; rw [← hwb]; exact at_ext (at_new w _)
          have HC : Hid (C3 wb (w.heap.size + 1 + 1 + 1) (w.heap.size + 1) (w.heap.size + 1 + 1) 0 ⟨#[]⟩ ⟨#[]⟩) := by
            unfold Hid
            rw [← hwb]
            exact ⟨at_new1 (by simp), at_ext (w := (w.alloc (.cells #[.int .i64 1, .int .i64 id, .slice A n c] 43)).alloc (.cells #[.string ⟨#[]⟩] 9)) (at_new1 (by simp)), at_ext (w := ((w.alloc (.cells #[.int .i64 1, .int .i64 id, .slice A n c] 43)).alloc (.cells #[.string ⟨#[]⟩] 9)).alloc (.cells #[.string ⟨#[]⟩] 9)) (at_new1 (by simp))⟩
          have HW : Hid (Ext w wb) := by unfold Hid; rw [← hwb]; exact inferInstance
          rw [hwb]
          clear hwb
          have p0 : wb.cell? ⟨w.heap.size, 0, none⟩ = some (.int .i64 1) := at_cell HP.out 0
          have p1 : wb.cell? ⟨w.heap.size, 1, none⟩ = some (.int .i64 id) := at_cell HP.out 1
          have p2 : wb.cell? ⟨w.heap.size, 2, none⟩ = some (.slice A n c) := at_cell HP.out 2
          go_wp2_with fail
          refine (isByte_yes id HD.out _).mono ?_
          rintro e w1 ⟨rfl, rfl⟩
          go_wp2_with fail
          refine (part_any A n c xs Hn.out hn' hnc HB.out _ (by have := HW.out; exact HX.out.ext)).mono ?_
          rintro e w2 ⟨hb2, he2⟩
          rw [HPF.out] at he2
          simp only at he2
          obtain ⟨A2, c2, rfl, hrc, hC2⟩ := he2
          have X2 : Ext wb w2 := ⟨hb2⟩
          have HC2 := Lib.hid (HC.out.ext (w' := w2))
          have HW2 : Hid (Ext w w2) := Ext.trans_ HW.out X2
          have hrl : r.length ≤ 140737488355328 := by have h1 := partF_len HPF.out; have h2 := Hn.out; omega
          have HRB := Lib.hid (partF_byt HB.out HPF.out)
          have q1 : w2.cell? ⟨w.heap.size + 1, 0, none⟩ = some (.string ⟨#[]⟩) := at_cell HC2.out.a 0
          have f1 := at_frozen HC2.out.a 0
          have HWS : Hid (Below w.heap.size w (w2.setCell ⟨w.heap.size + 1, 0, none⟩ (.string (strOfNums p)))) := HW2.out.out.setCell (p := ⟨w.heap.size + 1, 0, none⟩) (by show _ ≤ w.heap.size + 1; omega) _
          have HR0 := Lib.hid (hC2 w HX.out)
          have HRC : Hid (Cells (w2.setCell ⟨w.heap.size + 1, 0, none⟩ (.string (strOfNums p))) A2 (nums .u8 r)) := by have : Ext w (w2.setCell ⟨w.heap.size + 1, 0, none⟩ (.string (strOfNums p))) := ⟨HWS.out⟩; exact HR0.out.ext
          clear hb2 p0 p1 p2 hC2
          go_wp2_with fail
          refine (part_any A2 r.length c2 r rfl hrl hrc HRB.out _ HRC.out).mono ?_
          rintro e w3 ⟨hb3, he3⟩
          have X3 : Ext (w2.setCell ⟨w.heap.size + 1, 0, none⟩ (.string (strOfNums p))) w3 := ⟨hb3⟩
          have c1 := HC2.out.sa (by omega) (by omega) (strOfNums p)
          have c2 := c1.ext (w' := w3)
          have HC3 := Lib.hid c2
          have HW3 : Hid (Ext w w3) := Ext.trans_ ⟨HWS.out⟩ ⟨hb3⟩
          rw [HPF2.out] at he3
          simp only at he3
          obtain ⟨A3, c3, rfl, hrc3, hC3⟩ := he3
          have q2 : w3.cell? ⟨w.heap.size + 1 + 1, 0, none⟩ = some (.string ⟨#[]⟩) := at_cell c2.b 0
          have f2 := at_frozen c2.b 0
          clear hb3 c1 c2 hC3
          go_upto_region 11 with fail
          obtain ⟨w5, hw5⟩ : ∃ w5, w3.setCell ⟨w.heap.size + 1 + 1, 0, none⟩ (.string (strOfNums q)) = w5 := ⟨_, rfl⟩
          have HC5 : Hid (C3 w5 (w.heap.size + 1 + 1 + 1) (w.heap.size + 1) (w.heap.size + 1 + 1) 0 (strOfNums p) (strOfNums q)) := by unfold Hid; rw [← hw5]; exact HC3.out.sb (by omega) (by omega) _
          have HW5 : Hid (Below w.heap.size w w5) := by unfold Hid; rw [← hw5]; exact HW3.out.out.setCell (p := ⟨w.heap.size + 1 + 1, 0, none⟩) (by show _ ≤ w.heap.size + 1 + 1; omega) _
          rw [hw5]
          clear hw5
          have c0 : C3 w5.drew _ _ _ _ _ _ := HC5.out.ext
          have c1 := c0.sa (by omega) (by omega) (strOfNums p)
          have c2 := c1.sb (by omega) (by omega) (strOfNums q)
          have c3' := c2.se (by omega) (by omega) 0
          have b0 : Below w.heap.size w w5.drew := ((⟨HW5.out⟩ : Ext w w5).trans_ inferInstance).out
          have b1 : Below w.heap.size w (w5.drew.setCell ⟨w.heap.size + 1, 0, none⟩ (.string (strOfNums p))) := b0.setCell (p := ⟨w.heap.size + 1, 0, none⟩) (by show _ ≤ w.heap.size + 1; omega) _
          have b2 : Below w.heap.size w ((w5.drew.setCell ⟨w.heap.size + 1, 0, none⟩ (.string (strOfNums p))).setCell ⟨w.heap.size + 1 + 1, 0, none⟩ (.string (strOfNums q))) := b1.setCell (p := ⟨w.heap.size + 1 + 1, 0, none⟩) (by show _ ≤ w.heap.size + 1 + 1; omega) _
          have b3 : Below w.heap.size w (((w5.drew.setCell ⟨w.heap.size + 1, 0, none⟩ (.string (strOfNums p))).setCell ⟨w.heap.size + 1 + 1, 0, none⟩ (.string (strOfNums q))).setCell ⟨w.heap.size + 1 + 1 + 1, 0, none⟩ (.int .i64 0)) := b2.setCell (p := ⟨w.heap.size + 1 + 1 + 1, 0, none⟩) (by show _ ≤ w.heap.size + 1 + 1 + 1; omega) _
          have r1 := at_cell HC5.out.a 0
          have f1 := at_frozen HC5.out.a 0
          have r2' := at_cell HC5.out.b 0
          have f2 := at_frozen HC5.out.b 0
          have r3 := at_cell HC5.out.e 0
          have f3 := at_frozen HC5.out.e 0
          simp only [List.getElem?_toArray, List.getElem?_cons_zero] at r1 r2' r3
          have HC7 := Lib.hid c3'
          have HW7 := Lib.hid b3
          have HK0 := Lib.hid c0
          have HK1 := Lib.hid c1
          have HK2 := Lib.hid c2
          have HL1 := Lib.hid b1
          have HL2 := Lib.hid b2
          refine wp_region_noPanic ?_
          refine wp_region_held_drew (S := fun W => C3 W (w.heap.size + 1 + 1 + 1) (w.heap.size + 1) (w.heap.size + 1 + 1) 0 (strOfNums p) (strOfNums q) ∧ Below w.heap.size w W) (by kernel_rfl) ⟨c0, b0⟩ (fun hHeld => ?_)
          clear c0 c1 c2 c3' b0 b1 b2 b3
          refine wpAnyH_take (i := 0) (v := ?_) rfl (by kernel_rfl) (by kernel_rfl) (by kernel_rfl) (fun _ _ _ h => h) (Or.inl ⟨by rfl, ?_⟩) hHeld ?_
          rotate_left
          · intro W hS
            have g0 := at_cell hS.1.e 0
            have g1 := at_cell hS.1.a 0
            have g2 := at_cell hS.1.b 0
            simp only [List.getElem?_toArray, List.getElem?_cons_zero] at g0 g1 g2
            go_simp
            try with_reducible rfl
          simp only [List.getElem_toArray, List.getElem_cons_succ, List.getElem_cons_zero, Act.put, List.setIfInBounds_toArray, List.set_cons_zero, List.set_cons_succ]
          refine wpAnyH_take (i := 1) (v := ?_) rfl (by kernel_rfl) (by kernel_rfl) (by kernel_rfl) (fun _ _ _ h => h) (Or.inl ⟨by rfl, ?_⟩) hHeld ?_
          rotate_left
          · intro W hS
            have g0 := at_cell hS.1.e 0
            have g1 := at_cell hS.1.a 0
            have g2 := at_cell hS.1.b 0
            simp only [List.getElem?_toArray, List.getElem?_cons_zero] at g0 g1 g2
            go_simp
            try with_reducible rfl
          simp only [List.getElem_toArray, List.getElem_cons_succ, List.getElem_cons_zero, Act.put, List.setIfInBounds_toArray, List.set_cons_zero, List.set_cons_succ]
          refine wpAnyH_take (i := 2) (v := ?_) rfl (by kernel_rfl) (by kernel_rfl) (by kernel_rfl) (fun _ _ _ h => h) (Or.inl ⟨by rfl, ?_⟩) hHeld ?_
          rotate_left
          · intro W hS
            have g0 := at_cell hS.1.e 0
            have g1 := at_cell hS.1.a 0
            have g2 := at_cell hS.1.b 0
            simp only [List.getElem?_toArray, List.getElem?_cons_zero] at g0 g1 g2
            go_simp
            try with_reducible rfl
          simp only [List.getElem_toArray, List.getElem_cons_succ, List.getElem_cons_zero, Act.put, List.setIfInBounds_toArray, List.set_cons_zero, List.set_cons_succ]
          refine wpAnyH_ready (rs := [3]) (by kernel_rfl) (by simp) ?_
          refine AllReadyH.cons rfl (fun K hK => ?_) AllReadyH.nil
          rw [if_pos (by rfl)]
          unfold Oper.wp
          go_simp
          clear hHeld
          refine hK.out _ _ ⟨HK1.out, HL1.out⟩ (fun hHeld => ?_)
          clear hK K
          try simp only [List.getElem_toArray, List.getElem_cons_succ, List.getElem_cons_zero, Act.put, List.setIfInBounds_toArray, List.set_cons_zero, List.set_cons_succ]
          refine wpAnyH_ready (rs := [4]) (by kernel_rfl) (by simp) ?_
          refine AllReadyH.cons rfl (fun K hK => ?_) AllReadyH.nil
          rw [if_pos (by rfl)]
          unfold Oper.wp
          go_simp
          clear hHeld
          refine hK.out _ _ ⟨HK2.out, HL2.out⟩ (fun hHeld => ?_)
          clear hK K
          try simp only [List.getElem_toArray, List.getElem_cons_succ, List.getElem_cons_zero, Act.put, List.setIfInBounds_toArray, List.set_cons_zero, List.set_cons_succ]
          refine wpAnyH_ready (rs := [5]) (by kernel_rfl) (by simp) ?_
          refine AllReadyH.cons rfl (fun K hK => ?_) AllReadyH.nil
          rw [if_pos (by rfl)]
          unfold Oper.wp
          go_simp
          clear hHeld
          refine hK.out _ _ ⟨HC7.out, HW7.out⟩ (fun hHeld => ?_)
          clear hK K
          try simp only [List.getElem_toArray, List.getElem_cons_succ, List.getElem_cons_zero, Act.put, List.setIfInBounds_toArray, List.set_cons_zero, List.set_cons_succ]
          refine wpAnyH_done (by kernel_rfl) ?_ _
          clear hHeld
          refine NoPanic.normal ?_
          go_wp2
          unfold bodyPostD
          show Leaves _ _ _ _ [_, _] .returning _
          refine leaves_cons (f := 110) (args := #[.pointer (some ⟨w.heap.size + 1 + 1 + 1, 0, none⟩)]) (by simp) (by simp [go_sem]) ?_
          refine (told_idle (w.heap.size + 1 + 1 + 1) _).mono ?_
          rintro e u' wy ⟨rfl, rfl, hby⟩
          have hCy : C3 wy (w.heap.size + 1 + 1 + 1) (w.heap.size + 1) (w.heap.size + 1 + 1) 0 (strOfNums p) (strOfNums q) := C3.ext (h := ⟨hby⟩) HC7.out
          have hBy : Below w.heap.size w wy := (Ext.trans_ (⟨HW7.out⟩ : Ext w _) ⟨hby⟩).out
          show Leaves _ _ _ _ [_] .returning _
          refine leaves_cons (f := 109) (args := #[.pointer (some ⟨w.heap.size + 1 + 1 + 1, 0, none⟩), .pointer (some ⟨w.heap.size + 1, 0, none⟩), .pointer (some ⟨w.heap.size + 1 + 1, 0, none⟩)]) (by simp) (by simp [go_sem]) ?_
          refine (empty_any .returning (w.heap.size + 1 + 1 + 1) (w.heap.size + 1) (w.heap.size + 1 + 1) 0 (strOfNums p) (strOfNums q) _ (by omega) hCy (by omega) (by omega)).mono ?_
          rintro e u' wz ⟨rfl, rfl, hCz, hbz⟩
          show Leaves _ _ _ _ [] .returning _
          exact ⟨_, results_ccc Try.results62 _ _ ⟨w.heap.size + 1, 0, none⟩ ⟨w.heap.size + 1 + 1, 0, none⟩ ⟨w.heap.size + 1 + 1 + 1, 0, none⟩ (.string (strOfNums p)) (.string (strOfNums q)) (.int .i64 0) rfl rfl rfl (run_loadVar_str Try.underlying9 (at_cell hCz.a 0)) (run_loadVar_str Try.underlying9 (at_cell hCz.b 0)) (run_loadVar_int Try.underlying35 (at_cell hCz.e 0)), rr_tells HF.out, hbz _ _ hBy (by omega) (by omega)⟩
        · have HF : Hid (rrF 1 id xs = (([], []), 3)) := by unfold Hid rrF; rw [if_neg h1, if_neg (by simp), hp1]; simp only; rw [hp2]; simp
          clear h1 hp1 hp2
          go_enter_defers Try.func62, Try.ntmps62
          go_upto_region 1 with fail
          obtain ⟨wb, hwb⟩ : ∃ wb, (((w.alloc (.cells #[.int .i64 1, .int .i64 id, .slice A n c] 43)).alloc (.cells #[.string ⟨#[]⟩] 9)).alloc (.cells #[.string ⟨#[]⟩] 9)).alloc (.cells #[.int .i64 0] 35) = wb := ⟨_, rfl⟩
          have HP : Hid (wb.heap[w.heap.size]? = some (.cells #[.int .i64 1, .int .i64 id, .slice A n c] 43 (0, 0))) := by unfold Hid; rw [← hwb]; exact at_ext (at_new w _)
          have HC : Hid (C3 wb (w.heap.size + 1 + 1 + 1) (w.heap.size + 1) (w.heap.size + 1 + 1) 0 ⟨#[]⟩ ⟨#[]⟩) := by
            unfold Hid
            rw [← hwb]
            exact ⟨at_new1 (by simp), at_ext (w := (w.alloc (.cells #[.int .i64 1, .int .i64 id, .slice A n c] 43)).alloc (.cells #[.string ⟨#[]⟩] 9)) (at_new1 (by simp)), at_ext (w := ((w.alloc (.cells #[.int .i64 1, .int .i64 id, .slice A n c] 43)).alloc (.cells #[.string ⟨#[]⟩] 9)).alloc (.cells #[.string ⟨#[]⟩] 9)) (at_new1 (by simp))⟩
          have HW : Hid (Ext w wb) := by unfold Hid; rw [← hwb]; exact inferInstance
          rw [hwb]
          clear hwb
          have p0 : wb.cell? ⟨w.heap.size, 0, none⟩ = some (.int .i64 1) := at_cell HP.out 0
          have p1 : wb.cell? ⟨w.heap.size, 1, none⟩ = some (.int .i64 id) := at_cell HP.out 1
          have p2 : wb.cell? ⟨w.heap.size, 2, none⟩ = some (.slice A n c) := at_cell HP.out 2
          go_wp2_with fail
          refine (isByte_yes id HD.out _).mono ?_
          rintro e w1 ⟨rfl, rfl⟩
          go_wp2_with fail
          refine (part_any A n c xs Hn.out hn' hnc HB.out _ (by have := HW.out; exact HX.out.ext)).mono ?_
          rintro e w2 ⟨hb2, he2⟩
          rw [HPF.out] at he2
          simp only at he2
          obtain ⟨A2, c2, rfl, hrc, hC2⟩ := he2
          have X2 : Ext wb w2 := ⟨hb2⟩
          have HC2 := Lib.hid (HC.out.ext (w' := w2))
          have HW2 : Hid (Ext w w2) := Ext.trans_ HW.out X2
          have hrl : r.length ≤ 140737488355328 := by have h1 := partF_len HPF.out; have h2 := Hn.out; omega
          have HRB := Lib.hid (partF_byt HB.out HPF.out)
          have q1 : w2.cell? ⟨w.heap.size + 1, 0, none⟩ = some (.string ⟨#[]⟩) := at_cell HC2.out.a 0
          have f1 := at_frozen HC2.out.a 0
          have HWS : Hid (Below w.heap.size w (w2.setCell ⟨w.heap.size + 1, 0, none⟩ (.string (strOfNums p)))) := HW2.out.out.setCell (p := ⟨w.heap.size + 1, 0, none⟩) (by show _ ≤ w.heap.size + 1; omega) _
          have HR0 := Lib.hid (hC2 w HX.out)
          have HRC : Hid (Cells (w2.setCell ⟨w.heap.size + 1, 0, none⟩ (.string (strOfNums p))) A2 (nums .u8 r)) := by have : Ext w (w2.setCell ⟨w.heap.size + 1, 0, none⟩ (.string (strOfNums p))) := ⟨HWS.out⟩; exact HR0.out.ext
          clear hb2 p0 p1 p2 hC2
          go_wp2_with fail
          refine (part_any A2 r.length c2 r rfl hrl hrc HRB.out _ HRC.out).mono ?_
          rintro e w3 ⟨hb3, he3⟩
          have X3 : Ext (w2.setCell ⟨w.heap.size + 1, 0, none⟩ (.string (strOfNums p))) w3 := ⟨hb3⟩
          have c1 := HC2.out.sa (by omega) (by omega) (strOfNums p)
          have c2 := c1.ext (w' := w3)
          have HC3 := Lib.hid c2
          have HW3 : Hid (Ext w w3) := Ext.trans_ ⟨HWS.out⟩ ⟨hb3⟩
          rw [HPF2.out] at he3
          simp only at he3
          obtain ⟨A3, c3, rfl, hrc3, hC3⟩ := he3
          have q2 : w3.cell? ⟨w.heap.size + 1 + 1, 0, none⟩ = some (.string ⟨#[]⟩) := at_cell c2.b 0
          have f2 := at_frozen c2.b 0
          clear hb3 c1 c2 hC3
          have c4 := HC3.out.sb (by omega) (by omega) (strOfNums q)
          have r3 := at_cell c4.e 0
          have f3 := at_frozen c4.e 0
          simp only [List.getElem?_toArray, List.getElem?_cons_zero] at r3
          clear c4
          go_upto_region 11 with fail
          obtain ⟨w5, hw5⟩ : ∃ w5, (w3.setCell ⟨w.heap.size + 1 + 1, 0, none⟩ (.string (strOfNums q))).setCell ⟨w.heap.size + 1 + 1 + 1, 0, none⟩ (.int .i64 3) = w5 := ⟨_, rfl⟩
          have HC5 : Hid (C3 w5 (w.heap.size + 1 + 1 + 1) (w.heap.size + 1) (w.heap.size + 1 + 1) 3 (strOfNums p) (strOfNums q)) := by unfold Hid; rw [← hw5]; exact (HC3.out.sb (by omega) (by omega) _).se (by omega) (by omega) _
          have HW5 : Hid (Below w.heap.size w w5) := by unfold Hid; rw [← hw5]; exact (HW3.out.out.setCell (p := ⟨w.heap.size + 1 + 1, 0, none⟩) (by show _ ≤ w.heap.size + 1 + 1; omega) _).setCell (p := ⟨w.heap.size + 1 + 1 + 1, 0, none⟩) (by show _ ≤ w.heap.size + 1 + 1 + 1; omega) _
          rw [hw5]
          clear hw5
          clear r3 f3
          have c0 : C3 w5.drew _ _ _ _ _ _ := HC5.out.ext
          have c1 := c0.sa (by omega) (by omega) (strOfNums p)
          have c2 := c1.sb (by omega) (by omega) (strOfNums q)
          have c3' := c2.se (by omega) (by omega) 3
          have b0 : Below w.heap.size w w5.drew := ((⟨HW5.out⟩ : Ext w w5).trans_ inferInstance).out
          have b1 : Below w.heap.size w (w5.drew.setCell ⟨w.heap.size + 1, 0, none⟩ (.string (strOfNums p))) := b0.setCell (p := ⟨w.heap.size + 1, 0, none⟩) (by show _ ≤ w.heap.size + 1; omega) _
          have b2 : Below w.heap.size w ((w5.drew.setCell ⟨w.heap.size + 1, 0, none⟩ (.string (strOfNums p))).setCell ⟨w.heap.size + 1 + 1, 0, none⟩ (.string (strOfNums q))) := b1.setCell (p := ⟨w.heap.size + 1 + 1, 0, none⟩) (by show _ ≤ w.heap.size + 1 + 1; omega) _
          have b3 : Below w.heap.size w (((w5.drew.setCell ⟨w.heap.size + 1, 0, none⟩ (.string (strOfNums p))).setCell ⟨w.heap.size + 1 + 1, 0, none⟩ (.string (strOfNums q))).setCell ⟨w.heap.size + 1 + 1 + 1, 0, none⟩ (.int .i64 3)) := b2.setCell (p := ⟨w.heap.size + 1 + 1 + 1, 0, none⟩) (by show _ ≤ w.heap.size + 1 + 1 + 1; omega) _
          have r1 := at_cell HC5.out.a 0
          have f1 := at_frozen HC5.out.a 0
          have r2' := at_cell HC5.out.b 0
          have f2 := at_frozen HC5.out.b 0
          have r3 := at_cell HC5.out.e 0
          have f3 := at_frozen HC5.out.e 0
          simp only [List.getElem?_toArray, List.getElem?_cons_zero] at r1 r2' r3
          have HC7 := Lib.hid c3'
          have HW7 := Lib.hid b3
          have HK0 := Lib.hid c0
          have HK1 := Lib.hid c1
          have HK2 := Lib.hid c2
          have HL1 := Lib.hid b1
          have HL2 := Lib.hid b2
          refine wp_region_noPanic ?_
          refine wp_region_held_drew (S := fun W => C3 W (w.heap.size + 1 + 1 + 1) (w.heap.size + 1) (w.heap.size + 1 + 1) 3 (strOfNums p) (strOfNums q) ∧ Below w.heap.size w W) (by kernel_rfl) ⟨c0, b0⟩ (fun hHeld => ?_)
          clear c0 c1 c2 c3' b0 b1 b2 b3
          refine wpAnyH_take (i := 0) (v := ?_) rfl (by kernel_rfl) (by kernel_rfl) (by kernel_rfl) (fun _ _ _ h => h) (Or.inl ⟨by rfl, ?_⟩) hHeld ?_
          rotate_left
          · intro W hS
            have g0 := at_cell hS.1.e 0
            have g1 := at_cell hS.1.a 0
            have g2 := at_cell hS.1.b 0
            simp only [List.getElem?_toArray, List.getElem?_cons_zero] at g0 g1 g2
            go_simp
            try with_reducible rfl
          simp only [List.getElem_toArray, List.getElem_cons_succ, List.getElem_cons_zero, Act.put, List.setIfInBounds_toArray, List.set_cons_zero, List.set_cons_succ]
          refine wpAnyH_take (i := 1) (v := ?_) rfl (by kernel_rfl) (by kernel_rfl) (by kernel_rfl) (fun _ _ _ h => h) (Or.inl ⟨by rfl, ?_⟩) hHeld ?_
          rotate_left
          · intro W hS
            have g0 := at_cell hS.1.e 0
            have g1 := at_cell hS.1.a 0
            have g2 := at_cell hS.1.b 0
            simp only [List.getElem?_toArray, List.getElem?_cons_zero] at g0 g1 g2
            go_simp
            try with_reducible rfl
          simp only [List.getElem_toArray, List.getElem_cons_succ, List.getElem_cons_zero, Act.put, List.setIfInBounds_toArray, List.set_cons_zero, List.set_cons_succ]
          refine wpAnyH_take (i := 2) (v := ?_) rfl (by kernel_rfl) (by kernel_rfl) (by kernel_rfl) (fun _ _ _ h => h) (Or.inl ⟨by rfl, ?_⟩) hHeld ?_
          rotate_left
          · intro W hS
            have g0 := at_cell hS.1.e 0
            have g1 := at_cell hS.1.a 0
            have g2 := at_cell hS.1.b 0
            simp only [List.getElem?_toArray, List.getElem?_cons_zero] at g0 g1 g2
            go_simp
            try with_reducible rfl
          simp only [List.getElem_toArray, List.getElem_cons_succ, List.getElem_cons_zero, Act.put, List.setIfInBounds_toArray, List.set_cons_zero, List.set_cons_succ]
          refine wpAnyH_ready (rs := [3]) (by kernel_rfl) (by simp) ?_
          refine AllReadyH.cons rfl (fun K hK => ?_) AllReadyH.nil
          rw [if_pos (by rfl)]
          unfold Oper.wp
          go_simp
          clear hHeld
          refine hK.out _ _ ⟨HK1.out, HL1.out⟩ (fun hHeld => ?_)
          clear hK K
          try simp only [List.getElem_toArray, List.getElem_cons_succ, List.getElem_cons_zero, Act.put, List.setIfInBounds_toArray, List.set_cons_zero, List.set_cons_succ]
          refine wpAnyH_ready (rs := [4]) (by kernel_rfl) (by simp) ?_
          refine AllReadyH.cons rfl (fun K hK => ?_) AllReadyH.nil
          rw [if_pos (by rfl)]
          unfold Oper.wp
          go_simp
          clear hHeld
          refine hK.out _ _ ⟨HK2.out, HL2.out⟩ (fun hHeld => ?_)
          clear hK K
          try simp only [List.getElem_toArray, List.getElem_cons_succ, List.getElem_cons_zero, Act.put, List.setIfInBounds_toArray, List.set_cons_zero, List.set_cons_succ]
          refine wpAnyH_ready (rs := [5]) (by kernel_rfl) (by simp) ?_
          refine AllReadyH.cons rfl (fun K hK => ?_) AllReadyH.nil
          rw [if_pos (by rfl)]
          unfold Oper.wp
          go_simp
          clear hHeld
          refine hK.out _ _ ⟨HC7.out, HW7.out⟩ (fun hHeld => ?_)
          clear hK K
          try simp only [List.getElem_toArray, List.getElem_cons_succ, List.getElem_cons_zero, Act.put, List.setIfInBounds_toArray, List.set_cons_zero, List.set_cons_succ]
          refine wpAnyH_done (by kernel_rfl) ?_ _
          clear hHeld
          refine NoPanic.normal ?_
          go_wp2
          unfold bodyPostD
          show Leaves _ _ _ _ [_, _] .returning _
          refine leaves_cons (f := 110) (args := #[.pointer (some ⟨w.heap.size + 1 + 1 + 1, 0, none⟩)]) (by simp) (by simp [go_sem]) ?_
          refine (told_idle (w.heap.size + 1 + 1 + 1) _).mono ?_
          rintro e u' wy ⟨rfl, rfl, hby⟩
          have hCy : C3 wy (w.heap.size + 1 + 1 + 1) (w.heap.size + 1) (w.heap.size + 1 + 1) 3 (strOfNums p) (strOfNums q) := C3.ext (h := ⟨hby⟩) HC7.out
          have hBy : Below w.heap.size w wy := (Ext.trans_ (⟨HW7.out⟩ : Ext w _) ⟨hby⟩).out
          show Leaves _ _ _ _ [_] .returning _
          refine leaves_cons (f := 109) (args := #[.pointer (some ⟨w.heap.size + 1 + 1 + 1, 0, none⟩), .pointer (some ⟨w.heap.size + 1, 0, none⟩), .pointer (some ⟨w.heap.size + 1 + 1, 0, none⟩)]) (by simp) (by simp [go_sem]) ?_
          refine (empty_any .returning (w.heap.size + 1 + 1 + 1) (w.heap.size + 1) (w.heap.size + 1 + 1) 3 (strOfNums p) (strOfNums q) _ (by omega) hCy (by omega) (by omega)).mono ?_
          rintro e u' wz ⟨rfl, rfl, hCz, hbz⟩
          show Leaves _ _ _ _ [] .returning _
          exact ⟨_, results_ccc Try.results62 _ _ ⟨w.heap.size + 1, 0, none⟩ ⟨w.heap.size + 1 + 1, 0, none⟩ ⟨w.heap.size + 1 + 1 + 1, 0, none⟩ (.string ⟨#[]⟩) (.string ⟨#[]⟩) (.int .i64 3) rfl rfl rfl (run_loadVar_str Try.underlying9 (at_cell hCz.a 0)) (run_loadVar_str Try.underlying9 (at_cell hCz.b 0)) (run_loadVar_int Try.underlying35 (at_cell hCz.e 0)), rr_tells (p := []) (q := []) HF.out, hbz _ _ hBy (by omega) (by omega)⟩
  · have HF : Hid (rrF code id xs = (([], []), 90)) := by unfold Hid rrF; rw [if_neg h1, if_pos h2]
    have h2' : (code != 1) = true := by simpa using h2
    clear h1 h2
    go_enter_defers Try.func62, Try.ntmps62
    go_upto_region 1 with fail
    obtain ⟨wb, hwb⟩ : ∃ wb, (((w.alloc (.cells #[.int .i64 code, .int .i64 id, .slice A n c] 43)).alloc (.cells #[.string ⟨#[]⟩] 9)).alloc (.cells #[.string ⟨#[]⟩] 9)).alloc (.cells #[.int .i64 0] 35) = wb := ⟨_, rfl⟩
    have HP : Hid (wb.heap[w.heap.size]? = some (.cells #[.int .i64 code, .int .i64 id, .slice A n c] 43 (0, 0))) := by unfold Hid; rw [← hwb]; exact at_ext (at_new w _)
    have HC : Hid (C3 wb (w.heap.size + 1 + 1 + 1) (w.heap.size + 1) (w.heap.size + 1 + 1) 0 ⟨#[]⟩ ⟨#[]⟩) := by
      unfold Hid
      rw [← hwb]
      exact ⟨at_new1 (by simp), at_ext (w := (w.alloc (.cells #[.int .i64 code, .int .i64 id, .slice A n c] 43)).alloc (.cells #[.string ⟨#[]⟩] 9)) (at_new1 (by simp)), at_ext (w := ((w.alloc (.cells #[.int .i64 code, .int .i64 id, .slice A n c] 43)).alloc (.cells #[.string ⟨#[]⟩] 9)).alloc (.cells #[.string ⟨#[]⟩] 9)) (at_new1 (by simp))⟩
    have HW : Hid (Ext w wb) := by unfold Hid; rw [← hwb]; exact inferInstance
    rw [hwb]
    clear hwb
    have p0 : wb.cell? ⟨w.heap.size, 0, none⟩ = some (.int .i64 code) := at_cell HP.out 0
    have p1 : wb.cell? ⟨w.heap.size, 1, none⟩ = some (.int .i64 id) := at_cell HP.out 1
    have p2 : wb.cell? ⟨w.heap.size, 2, none⟩ = some (.slice A n c) := at_cell HP.out 2
    go_wp2_with fail
    refine (isByte_yes id HD.out _).mono ?_
    rintro e w1 ⟨rfl, rfl⟩
    have c1 := HC.out.sa (by omega) (by omega) ⟨#[]⟩
    have c2 := c1.sb (by omega) (by omega) ⟨#[]⟩
    have c3 := c2.se (by omega) (by omega) 90
    have q1 : wb.cell? ⟨w.heap.size + 1, 0, none⟩ = some (.string ⟨#[]⟩) := at_cell HC.out.a 0
    have f1 := at_frozen HC.out.a 0
    have q2 := at_cell c1.b 0
    have f2 := at_frozen c1.b 0
    have q3 := at_cell c2.e 0
    have f3 := at_frozen c2.e 0
    simp only [List.getElem?_toArray, List.getElem?_cons_zero] at q2 q3
    have HC3 := Lib.hid c3
    have HBB : Hid (Below w.heap.size w (((wb.setCell ⟨w.heap.size + 1, 0, none⟩ (.string ⟨#[]⟩)).setCell ⟨w.heap.size + 1 + 1, 0, none⟩ (.string ⟨#[]⟩)).setCell ⟨w.heap.size + 1 + 1 + 1, 0, none⟩ (.int .i64 90))) :=
      ((HW.out.out.setCell (p := ⟨w.heap.size + 1, 0, none⟩) (by show _ ≤ w.heap.size + 1; omega) _).setCell (p := ⟨w.heap.size + 1 + 1, 0, none⟩) (by show _ ≤ w.heap.size + 1 + 1; omega) _).setCell (p := ⟨w.heap.size + 1 + 1 + 1, 0, none⟩) (by show _ ≤ w.heap.size + 1 + 1 + 1; omega) _
    clear c1 c2 c3
    go_wp2
    unfold bodyPostD
    show Leaves _ _ _ _ [] .returning _
    exact ⟨_, results_ccc Try.results62 _ _ ⟨w.heap.size + 1, 0, none⟩ ⟨w.heap.size + 1 + 1, 0, none⟩ ⟨w.heap.size + 1 + 1 + 1, 0, none⟩ (.string ⟨#[]⟩) (.string ⟨#[]⟩) (.int .i64 90) rfl rfl rfl (run_loadVar_str Try.underlying9 (at_cell HC3.out.a 0)) (run_loadVar_str Try.underlying9 (at_cell HC3.out.b 0)) (run_loadVar_int Try.underlying35 (at_cell HC3.out.e 0)), rr_tells (p := []) (q := []) HF.out, HBB.out⟩
end Go.Proofs.Ytodibldfolognaa
