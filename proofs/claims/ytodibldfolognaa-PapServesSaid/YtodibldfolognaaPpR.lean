/-
  pap.ReadAnswer: what an answer says. Conditions: the data are no longer than the model's memory.
-/
import Derived.Test.YtodibldfolognaaPpN
namespace Go.Proofs.Ytodibldfolognaa
open Go.RowKit
set_option linter.unusedVariables false
set_option linter.unusedSimpArgs false

def raF (code id : Int) (xs : List Int) : (Bool × List Int) × Int :=
  if id < 0 ∨ 255 < id then ((false, []), 1) else if code ≠ 2 ∧ code ≠ 3 then ((false, []), 90) else if xs = [] then ((decide (code = 2), []), 0) else match partF xs with
    | none => ((false, []), 8)
    | some (p, r) => if r ≠ [] ∨ plainF p = false then ((false, []), 3) else ((decide (code = 2), p), 0)
def RATells (r : (Bool × List Int) × Int) (e : Ending) : Prop := e = .returned (.tuple #[.bool r.1.1, .string (strOfNums r.1.2), .int .i64 r.2])
theorem ra_tells {F : (Bool × List Int) × Int} {b : Bool} {q : List Int} {x : Int} (h : F = ((b, q), x)) : RATells F (.returned (.tuple #[.bool b, .string (strOfNums q), .int .i64 x])) := by rw [h]; rfl
theorem run_loadVar_bool {P : Program} {w : World} {a : Addr} {v : Value} {ty : TypeId} (hu : P.underlying ty = some .bool) (hc : w.cell? a = some v) : (loadVar ty a).run P w = .ok v w := by
  simp [loadVar, isAgg, Go.underlying, go_sem, hu, hc]
/-- The cells of ReadAnswer's own: the packet, why, ok, message. -/
structure A3 (w : World) (G E N M : Nat) (code id : Int) (A : Option Addr) (n c : Nat) (e : Int) (a : Bool) (b : ByteArray) : Prop where
  p : w.heap[G]? = some (.cells #[.int .i64 code, .int .i64 id, .slice A n c] 43 (0, 0))
  e : w.heap[E]? = some (.cells #[.int .i64 e] 35 (0, 0))
  a : w.heap[N]? = some (.cells #[.bool a] 4 (0, 0))
  b : w.heap[M]? = some (.cells #[.string b] 9 (0, 0))
section
variable {w w' : World} {G E N M : Nat} {code id : Int} {A : Option Addr} {n c : Nat} {e : Int} {a : Bool} {b : ByteArray}
theorem A3.ext [h : Ext w w'] (k : A3 w G E N M code id A n c e a b) : A3 w' G E N M code id A n c e a b := ⟨at_ext k.p, at_ext k.e, at_ext k.a, at_ext k.b⟩
theorem A3.sa (k : A3 w G E N M code id A n c e a b) (h0 : G ≠ N) (h1 : E ≠ N) (h2 : M ≠ N) (x : Bool) : A3 (w.setCell ⟨N, 0, none⟩ (.bool x)) G E N M code id A n c e x b :=
  ⟨(Below.heap_setCell _ _ _ _ h0).trans k.p, (Below.heap_setCell _ _ _ _ h1).trans k.e, at_set k.a 0 _, (Below.heap_setCell _ _ _ _ h2).trans k.b⟩
theorem A3.sb (k : A3 w G E N M code id A n c e a b) (h0 : G ≠ M) (h1 : E ≠ M) (h2 : N ≠ M) (x : ByteArray) : A3 (w.setCell ⟨M, 0, none⟩ (.string x)) G E N M code id A n c e a x :=
  ⟨(Below.heap_setCell _ _ _ _ h0).trans k.p, (Below.heap_setCell _ _ _ _ h1).trans k.e, (Below.heap_setCell _ _ _ _ h2).trans k.a, at_set k.b 0 _⟩
theorem A3.se (k : A3 w G E N M code id A n c e a b) (h0 : G ≠ E) (h1 : N ≠ E) (h2 : M ≠ E) (x : Int) : A3 (w.setCell ⟨E, 0, none⟩ (.int .i64 x)) G E N M code id A n c x a b :=
  ⟨(Below.heap_setCell _ _ _ _ h0).trans k.p, at_set k.e 0 _, (Below.heap_setCell _ _ _ _ h1).trans k.a, (Below.heap_setCell _ _ _ _ h2).trans k.b⟩
theorem A3.but (k : A3 w G E N M code id A n c e a b) (h : But w w' E) (h0 : G ≠ E) (h1 : N ≠ E) (h2 : M ≠ E) (x : Int) (he : w'.heap[E]? = some (.cells #[.int .i64 x] 35 (0, 0))) : A3 w' G E N M code id A n c x a b := ⟨h.at h0 k.p, he, h.at h1 k.a, h.at h2 k.b⟩
end
set_option maxRecDepth 100000 in
theorem emptyA_any (u : FrameMode) (G E N M : Nat) (code id : Int) (A : Option Addr) (n c : Nat) (e : Int) (a : Bool) (b : ByteArray) (w : World) (h : A3 w G E N M code id A n c e a b) (hGN : G ≠ N) (hGM : G ≠ M) (hNM : N ≠ M) (hEN : E ≠ N) (hEM : E ≠ M) :
    CallsD Try.prog 112 #[.pointer (some ⟨E, 0, none⟩), .pointer (some ⟨N, 0, none⟩), .pointer (some ⟨M, 0, none⟩)] u w fun r u' w' => u' = u ∧ (r = .returned (.tuple #[]) ∧ A3 w' G E N M code id A n c e (if e = 0 then a else false) (if e = 0 then b else ⟨#[]⟩) ∧ ∀ B w0, Below B w0 w → B ≤ N → B ≤ M → Below B w0 w') := by
  have HC := Lib.hid h
  have h2 := h.sa hGN hEN hNM.symm false
  have HD := Lib.hid (h2.sb hGM hEM hNM ⟨#[]⟩)
  have q0 : w.cell? ⟨E, 0, none⟩ = some (.int .i64 e) := at_cell h.e 0
  have q1 : w.cell? ⟨N, 0, none⟩ = some (.bool a) := at_cell h.a 0
  have f1 : w.frozen? ⟨N, 0, none⟩ = false := at_frozen h.a 0
  have q2 : (w.setCell ⟨N, 0, none⟩ (.bool false)).cell? ⟨M, 0, none⟩ = some (.string b) := at_cell h2.b 0
  have f2 : (w.setCell ⟨N, 0, none⟩ (.bool false)).frozen? ⟨M, 0, none⟩ = false := at_frozen h2.b 0
  clear h h2
  by_cases he : e = 0
  · subst he
    go_enter_d Try.func112, Try.ntmps112
    go_wp2
    go_end0
    exact ⟨rfl, HC.out, fun B w0 hb _ _ => hb⟩
  · have he' : (e != 0) = true := by simpa using he
    have HN0 := Lib.hid he
    clear he
    go_enter_d Try.func112, Try.ntmps112
    go_wp2
    go_end0
    exact ⟨rfl, HD.out, fun B w0 hb h1 h2 => (hb.setCell (p := ⟨N, 0, none⟩) h1 _).setCell (p := ⟨M, 0, none⟩) h2 _⟩
set_option maxRecDepth 100000 in
set_option maxHeartbeats 8000000 in
theorem readAns_any (code id : Int) (A : Option Addr) (n c : Nat) (xs : List Int) (hn : xs.length = n) (hn' : n ≤ 140737488355328) (hnc : n ≤ c) (hb : Byt xs) (w : World) (hx : Cells w A (nums .u8 xs)) :
    Calls Try.prog 63 #[.agg #[.int .i64 code, .int .i64 id, .slice A n c]] w fun e w' => RATells (raF code id xs) e ∧ Below w.heap.size w w' := by
  have Hn := Lib.hid hn
  have HX := Lib.hid hx
  have HB := Lib.hid hb
  clear hn hx hb
  have hmf : ∀ (fn : Fn) (first cap : Array Value) (w : World), (Instr.makeFunc fn first cap).run Try.prog w = .ok (.func fn first cap) w := fun _ _ _ _ => rfl
  by_cases h1 : id < 0 ∨ 255 < id
  · have HF : Hid (raF code id xs = ((false, []), 1)) := if_pos h1
    have HD := Lib.hid h1
    clear h1
    go_enter_defers Try.func63, Try.ntmps63
    go_upto_region 1 with fail
    obtain ⟨wb, hwb⟩ : ∃ wb, (((w.alloc (.cells #[.int .i64 code, .int .i64 id, .slice A n c] 43)).alloc (.cells #[.bool false] 4)).alloc (.cells #[.string ⟨#[]⟩] 9)).alloc (.cells #[.int .i64 0] 35) = wb := ⟨_, rfl⟩
    have HC : Hid (A3 wb w.heap.size (w.heap.size + 1 + 1 + 1) (w.heap.size + 1) (w.heap.size + 1 + 1) code id A n c 0 false ⟨#[]⟩) := by
      unfold Hid
      rw [← hwb]
      exact ⟨at_ext (at_new w _), at_new1 (by simp), at_ext (w := (w.alloc (.cells #[.int .i64 code, .int .i64 id, .slice A n c] 43)).alloc (.cells #[.bool false] 4)) (at_new1 (by simp)), at_ext (w := ((w.alloc (.cells #[.int .i64 code, .int .i64 id, .slice A n c] 43)).alloc (.cells #[.bool false] 4)).alloc (.cells #[.string ⟨#[]⟩] 9)) (at_new1 (by simp))⟩
    have HW : Hid (Ext w wb) := by unfold Hid; rw [← hwb]; exact inferInstance
    rw [hwb]
    clear hwb
    have p0 : wb.cell? ⟨w.heap.size, 0, none⟩ = some (.int .i64 code) := at_cell HC.out.p 0
    have p1 : wb.cell? ⟨w.heap.size, 1, none⟩ = some (.int .i64 id) := at_cell HC.out.p 1
    have p2 : wb.cell? ⟨w.heap.size, 2, none⟩ = some (.slice A n c) := at_cell HC.out.p 2
    go_wp2_with fail
    refine (isByte_no id HD.out _).mono ?_
    rintro e w1 ⟨rfl, rfl⟩
    have c1 := HC.out.sa (by omega) (by omega) (by omega) false
    have c2 := c1.sb (by omega) (by omega) (by omega) ⟨#[]⟩
    have c3 := c2.se (by omega) (by omega) (by omega) 1
    have q1 : wb.cell? ⟨w.heap.size + 1, 0, none⟩ = some (.bool false) := at_cell HC.out.a 0
    have f1 := at_frozen HC.out.a 0
    have q2 := at_cell c1.b 0
    have f2 := at_frozen c1.b 0
    have q3 := at_cell c2.e 0
    have f3 := at_frozen c2.e 0
    simp only [List.getElem?_toArray, List.getElem?_cons_zero] at q2 q3
    have HC3 := Lib.hid c3
    have HBB : Hid (Below w.heap.size w (((wb.setCell ⟨w.heap.size + 1, 0, none⟩ (.bool false)).setCell ⟨w.heap.size + 1 + 1, 0, none⟩ (.string ⟨#[]⟩)).setCell ⟨w.heap.size + 1 + 1 + 1, 0, none⟩ (.int .i64 1))) :=
      ((HW.out.out.setCell (p := ⟨w.heap.size + 1, 0, none⟩) (by show _ ≤ w.heap.size + 1; omega) _).setCell (p := ⟨w.heap.size + 1 + 1, 0, none⟩) (by show _ ≤ w.heap.size + 1 + 1; omega) _).setCell (p := ⟨w.heap.size + 1 + 1 + 1, 0, none⟩) (by show _ ≤ w.heap.size + 1 + 1 + 1; omega) _
    clear c1 c2 c3
    go_wp2
    unfold bodyPostD
    show Leaves _ _ _ _ [] .returning _
    exact ⟨_, results_ccc Try.results63 _ _ ⟨w.heap.size + 1, 0, none⟩ ⟨w.heap.size + 1 + 1, 0, none⟩ ⟨w.heap.size + 1 + 1 + 1, 0, none⟩ (.bool false) (.string ⟨#[]⟩) (.int .i64 1) rfl rfl rfl (run_loadVar_bool Try.underlying4 (at_cell HC3.out.a 0)) (run_loadVar_str Try.underlying9 (at_cell HC3.out.b 0)) (run_loadVar_int Try.underlying35 (at_cell HC3.out.e 0)), ra_tells (q := []) HF.out, HBB.out⟩
  have HD := Lib.hid h1
  by_cases h2 : code = 2
  · subst h2
    clear h1
    rcases xs with _ | ⟨x0, xs⟩
    · have HF : Hid (raF 2 id [] = ((true, []), 0)) := by unfold Hid raF; rw [if_neg HD.out, if_neg (by simp), if_pos rfl]; rfl
      have hnz : ((n : Int) == 0) = true := by have h : n = 0 := Hn.out.symm; rw [h]; rfl
      go_enter_defers Try.func63, Try.ntmps63
      go_upto_region 1 with fail
      obtain ⟨wb, hwb⟩ : ∃ wb, (((w.alloc (.cells #[.int .i64 2, .int .i64 id, .slice A n c] 43)).alloc (.cells #[.bool false] 4)).alloc (.cells #[.string ⟨#[]⟩] 9)).alloc (.cells #[.int .i64 0] 35) = wb := ⟨_, rfl⟩
      have HC : Hid (A3 wb w.heap.size (w.heap.size + 1 + 1 + 1) (w.heap.size + 1) (w.heap.size + 1 + 1) 2 id A n c 0 false ⟨#[]⟩) := by
        unfold Hid
        rw [← hwb]
        exact ⟨at_ext (at_new w _), at_new1 (by simp), at_ext (w := (w.alloc (.cells #[.int .i64 2, .int .i64 id, .slice A n c] 43)).alloc (.cells #[.bool false] 4)) (at_new1 (by simp)), at_ext (w := ((w.alloc (.cells #[.int .i64 2, .int .i64 id, .slice A n c] 43)).alloc (.cells #[.bool false] 4)).alloc (.cells #[.string ⟨#[]⟩] 9)) (at_new1 (by simp))⟩
      have HW : Hid (Ext w wb) := by unfold Hid; rw [← hwb]; exact inferInstance
      rw [hwb]
      clear hwb
      have p0 : wb.cell? ⟨w.heap.size, 0, none⟩ = some (.int .i64 2) := at_cell HC.out.p 0
      have p1 : wb.cell? ⟨w.heap.size, 1, none⟩ = some (.int .i64 id) := at_cell HC.out.p 1
      have p2 : wb.cell? ⟨w.heap.size, 2, none⟩ = some (.slice A n c) := at_cell HC.out.p 2
      go_wp2_with fail
      refine (isByte_yes id HD.out _).mono ?_
      rintro e w1 ⟨rfl, rfl⟩
      have c1 := HC.out.sa (by omega) (by omega) (by omega) true
      have c2 := c1.sb (by omega) (by omega) (by omega) ⟨#[]⟩
      have c3 := c2.se (by omega) (by omega) (by omega) 0
      have q1 : wb.cell? ⟨w.heap.size + 1, 0, none⟩ = some (.bool false) := at_cell HC.out.a 0
      have f1 := at_frozen HC.out.a 0
      have q2 := at_cell c1.b 0
      have f2 := at_frozen c1.b 0
      have q3 := at_cell c2.e 0
      have f3 := at_frozen c2.e 0
      simp only [List.getElem?_toArray, List.getElem?_cons_zero] at q2 q3
      have HC3 := Lib.hid c3
      have HBB : Hid (Below w.heap.size w (((wb.setCell ⟨w.heap.size + 1, 0, none⟩ (.bool true)).setCell ⟨w.heap.size + 1 + 1, 0, none⟩ (.string ⟨#[]⟩)).setCell ⟨w.heap.size + 1 + 1 + 1, 0, none⟩ (.int .i64 0))) :=
        ((HW.out.out.setCell (p := ⟨w.heap.size + 1, 0, none⟩) (by show _ ≤ w.heap.size + 1; omega) _).setCell (p := ⟨w.heap.size + 1 + 1, 0, none⟩) (by show _ ≤ w.heap.size + 1 + 1; omega) _).setCell (p := ⟨w.heap.size + 1 + 1 + 1, 0, none⟩) (by show _ ≤ w.heap.size + 1 + 1 + 1; omega) _
      clear c1 c2 c3
      go_wp2
      unfold bodyPostD
      show Leaves _ _ _ _ [] .returning _
      exact ⟨_, results_ccc Try.results63 _ _ ⟨w.heap.size + 1, 0, none⟩ ⟨w.heap.size + 1 + 1, 0, none⟩ ⟨w.heap.size + 1 + 1 + 1, 0, none⟩ (.bool true) (.string ⟨#[]⟩) (.int .i64 0) rfl rfl rfl (run_loadVar_bool Try.underlying4 (at_cell HC3.out.a 0)) (run_loadVar_str Try.underlying9 (at_cell HC3.out.b 0)) (run_loadVar_int Try.underlying35 (at_cell HC3.out.e 0)), ra_tells (q := []) HF.out, HBB.out⟩
    have HN0 : Hid (0 < n) := by unfold Hid; rw [← Hn.out]; simp
    have hnz : ((n : Int) == 0) = false := by have := HN0.out; simp; omega
    have HF0 : Hid (raF 2 id (x0 :: xs) = match partF (x0 :: xs) with
        | none => ((false, []), 8)
        | some (p, r) => if r ≠ [] ∨ plainF p = false then ((false, []), 3) else ((true, p), 0)) := by unfold Hid raF; rw [if_neg HD.out, if_neg (by simp), if_neg (by simp)]; rfl
    obtain ⟨ys, hys⟩ : ∃ ys, x0 :: xs = ys := ⟨_, rfl⟩
    rw [hys] at Hn HX HB HF0 ⊢
    clear hys
    rcases hp1 : partF ys with _ | ⟨p, r⟩
    · have HF : Hid (raF 2 id ys = ((false, []), 8)) := by have h := HF0.out; rw [hp1] at h; exact h
      have HPF := Lib.hid hp1
      clear hp1
      go_enter_defers Try.func63, Try.ntmps63
      go_upto_region 1 with fail
      obtain ⟨wb, hwb⟩ : ∃ wb, (((w.alloc (.cells #[.int .i64 2, .int .i64 id, .slice A n c] 43)).alloc (.cells #[.bool false] 4)).alloc (.cells #[.string ⟨#[]⟩] 9)).alloc (.cells #[.int .i64 0] 35) = wb := ⟨_, rfl⟩
      have HC : Hid (A3 wb w.heap.size (w.heap.size + 1 + 1 + 1) (w.heap.size + 1) (w.heap.size + 1 + 1) 2 id A n c 0 false ⟨#[]⟩) := by
        unfold Hid
        rw [← hwb]
        exact ⟨at_ext (at_new w _), at_new1 (by simp), at_ext (w := (w.alloc (.cells #[.int .i64 2, .int .i64 id, .slice A n c] 43)).alloc (.cells #[.bool false] 4)) (at_new1 (by simp)), at_ext (w := ((w.alloc (.cells #[.int .i64 2, .int .i64 id, .slice A n c] 43)).alloc (.cells #[.bool false] 4)).alloc (.cells #[.string ⟨#[]⟩] 9)) (at_new1 (by simp))⟩
      have HW : Hid (Ext w wb) := by unfold Hid; rw [← hwb]; exact inferInstance
      rw [hwb]
      clear hwb
      have p0 : wb.cell? ⟨w.heap.size, 0, none⟩ = some (.int .i64 2) := at_cell HC.out.p 0
      have p1 : wb.cell? ⟨w.heap.size, 1, none⟩ = some (.int .i64 id) := at_cell HC.out.p 1
      have p2 : wb.cell? ⟨w.heap.size, 2, none⟩ = some (.slice A n c) := at_cell HC.out.p 2
      go_wp2_with fail
      refine (isByte_yes id HD.out _).mono ?_
      rintro e w1 ⟨rfl, rfl⟩
      go_wp2_with fail
      refine (part_any A n c ys Hn.out hn' hnc HB.out _ (by have := HW.out; exact HX.out.ext)).mono ?_
      rintro e w2 ⟨hb2, he2⟩
      rw [HPF.out] at he2
      simp only at he2
      have X2 : Ext wb w2 := ⟨hb2⟩
      have HC2 := Lib.hid (HC.out.ext (w' := w2))
      have HW2 : Hid (Ext w w2) := Ext.trans_ HW.out X2
      clear hb2 p0 p1 p2
      subst he2
      go_wp2_with fail
      refine leaves_cons (f := 110) (args := #[.pointer (some ⟨w.heap.size + 1 + 1 + 1, 0, none⟩)]) (by simp) (by simp [go_sem]) ?_
      refine (told_panicking 0 (w.heap.size + 1 + 1 + 1) _ HC2.out.e).mono ?_
      rintro e u' wy ⟨rfl, rfl, hEy, hby⟩
      have hCy := A3.but HC2.out hby (by omega) (by omega) (by omega) 8 hEy
      have hBy : Ext w wy := hby.ext HW2.out (by omega)
      show Leaves _ _ _ _ [_] .returning _
      refine leaves_cons (f := 112) (args := #[.pointer (some ⟨w.heap.size + 1 + 1 + 1, 0, none⟩), .pointer (some ⟨w.heap.size + 1, 0, none⟩), .pointer (some ⟨w.heap.size + 1 + 1, 0, none⟩)]) (by simp) (by simp [go_sem]) ?_
      refine (emptyA_any .returning w.heap.size (w.heap.size + 1 + 1 + 1) (w.heap.size + 1) (w.heap.size + 1 + 1) 2 id A n c 8 false ⟨#[]⟩ _ hCy (by omega) (by omega) (by omega) (by omega) (by omega)).mono ?_
      rintro e u' wz ⟨rfl, rfl, hCz, hbz⟩
      show Leaves _ _ _ _ [] .returning _
      exact ⟨_, results_ccc Try.results63 _ _ ⟨w.heap.size + 1, 0, none⟩ ⟨w.heap.size + 1 + 1, 0, none⟩ ⟨w.heap.size + 1 + 1 + 1, 0, none⟩ (.bool false) (.string ⟨#[]⟩) (.int .i64 8) rfl rfl rfl (run_loadVar_bool Try.underlying4 (at_cell hCz.a 0)) (run_loadVar_str Try.underlying9 (at_cell hCz.b 0)) (run_loadVar_int Try.underlying35 (at_cell hCz.e 0)), ra_tells (q := []) HF.out, hbz _ _ hBy.out (by omega) (by omega)⟩
    have HPF := Lib.hid hp1
    have HPL := Lib.hid (partF_left HB.out hp1)
    have HPS : Hid ((strOfNums p).size ≤ 140737488355328) := by
      unfold Hid
      rw [← strB_len, strB_str _ HPL.out.1]
      have h1 := HPL.out.2
      have h2 := Hn.out
      omega
    clear hp1
    rcases r with _ | ⟨r0, r2⟩
    · rcases hpl : plainF p with _ | _
      · have HF : Hid (raF 2 id ys = ((false, []), 3)) := by have h := HF0.out; rw [HPF.out] at h; exact h.trans (if_pos (.inr hpl))
        have HPP : Hid (plainF (strB (strOfNums p)) = false) := by unfold Hid; rw [strB_str _ HPL.out.1]; exact hpl
        clear hpl
        go_enter_defers Try.func63, Try.ntmps63
        go_upto_region 1 with fail
        obtain ⟨wb, hwb⟩ : ∃ wb, (((w.alloc (.cells #[.int .i64 2, .int .i64 id, .slice A n c] 43)).alloc (.cells #[.bool false] 4)).alloc (.cells #[.string ⟨#[]⟩] 9)).alloc (.cells #[.int .i64 0] 35) = wb := ⟨_, rfl⟩
        have HC : Hid (A3 wb w.heap.size (w.heap.size + 1 + 1 + 1) (w.heap.size + 1) (w.heap.size + 1 + 1) 2 id A n c 0 false ⟨#[]⟩) := by
          unfold Hid
          rw [← hwb]
          exact ⟨at_ext (at_new w _), at_new1 (by simp), at_ext (w := (w.alloc (.cells #[.int .i64 2, .int .i64 id, .slice A n c] 43)).alloc (.cells #[.bool false] 4)) (at_new1 (by simp)), at_ext (w := ((w.alloc (.cells #[.int .i64 2, .int .i64 id, .slice A n c] 43)).alloc (.cells #[.bool false] 4)).alloc (.cells #[.string ⟨#[]⟩] 9)) (at_new1 (by simp))⟩
        have HW : Hid (Ext w wb) := by unfold Hid; rw [← hwb]; exact inferInstance
        rw [hwb]
        clear hwb
        have p0 : wb.cell? ⟨w.heap.size, 0, none⟩ = some (.int .i64 2) := at_cell HC.out.p 0
        have p1 : wb.cell? ⟨w.heap.size, 1, none⟩ = some (.int .i64 id) := at_cell HC.out.p 1
        have p2 : wb.cell? ⟨w.heap.size, 2, none⟩ = some (.slice A n c) := at_cell HC.out.p 2
        go_wp2_with fail
        refine (isByte_yes id HD.out _).mono ?_
        rintro e w1 ⟨rfl, rfl⟩
        go_wp2_with fail
        refine (part_any A n c ys Hn.out hn' hnc HB.out _ (by have := HW.out; exact HX.out.ext)).mono ?_
        rintro e w2 ⟨hb2, he2⟩
        rw [HPF.out] at he2
        simp only at he2
        have X2 : Ext wb w2 := ⟨hb2⟩
        have HC2 := Lib.hid (HC.out.ext (w' := w2))
        have HW2 : Hid (Ext w w2) := Ext.trans_ HW.out X2
        clear hb2 p0 p1 p2
        obtain ⟨A2, c2, rfl, hrc, hC2⟩ := he2
        clear hC2
        have c3 := HC2.out.sb (by omega) (by omega) (by omega) (strOfNums p)
        have HC3 := Lib.hid c3
        have q1 := at_cell HC2.out.b 0
        have f1 := at_frozen HC2.out.b 0
        have q2 := at_cell c3.b 0
        simp only [List.getElem?_toArray, List.getElem?_cons_zero] at q1 q2
        have HW3 : Hid (Below w.heap.size w (w2.setCell ⟨w.heap.size + 1 + 1, 0, none⟩ (.string (strOfNums p)))) := HW2.out.out.setCell (p := ⟨w.heap.size + 1 + 1, 0, none⟩) (by show _ ≤ w.heap.size + 1 + 1; omega) _
        clear c3
        go_wp2_with fail
        refine (plain_any12 (strOfNums p) HPS.out _).mono ?_
        rintro e w4 ⟨rfl, hb4⟩
        have X4 : Ext (w2.setCell ⟨w.heap.size + 1 + 1, 0, none⟩ (.string (strOfNums p))) w4 := ⟨hb4⟩
        rw [HPP.out]
        have c4 := HC3.out.ext (w' := w4)
        have HC4 := Lib.hid c4
        have HW4 : Hid (Below w.heap.size w w4) := (Ext.trans_ (⟨HW3.out⟩ : Ext w _) X4).out
        have r3 := at_cell c4.e 0
        have f3 := at_frozen c4.e 0
        simp only [List.getElem?_toArray, List.getElem?_cons_zero] at r3
        clear c4 hb4
        go_upto_region 12 with fail
        obtain ⟨w5, hw5⟩ : ∃ w5, w4.setCell ⟨w.heap.size + 1 + 1 + 1, 0, none⟩ (.int .i64 3) = w5 := ⟨_, rfl⟩
        have HC5 : Hid (A3 w5 w.heap.size (w.heap.size + 1 + 1 + 1) (w.heap.size + 1) (w.heap.size + 1 + 1) 2 id A n c 3 false (strOfNums p)) := by unfold Hid; rw [← hw5]; exact HC4.out.se (by omega) (by omega) (by omega) _
        have HW5 : Hid (Below w.heap.size w w5) := by unfold Hid; rw [← hw5]; exact HW4.out.setCell (p := ⟨w.heap.size + 1 + 1 + 1, 0, none⟩) (by show _ ≤ w.heap.size + 1 + 1 + 1; omega) _
        rw [hw5]
        clear hw5
        clear r3 f3 q1 f1 q2
        have c0 : A3 w5.drew _ _ _ _ _ _ _ _ _ _ _ _ := HC5.out.ext
        have c1 := c0.sa (by omega) (by omega) (by omega) true
        have c2 := c1.sb (by omega) (by omega) (by omega) (strOfNums p)
        have c3' := c2.se (by omega) (by omega) (by omega) 3
        have b0 : Below w.heap.size w w5.drew := ((⟨HW5.out⟩ : Ext w w5).trans_ inferInstance).out
        have b1 : Below w.heap.size w (w5.drew.setCell ⟨w.heap.size + 1, 0, none⟩ (.bool true)) := b0.setCell (p := ⟨w.heap.size + 1, 0, none⟩) (by show _ ≤ w.heap.size + 1; omega) _
        have b2 : Below w.heap.size w ((w5.drew.setCell ⟨w.heap.size + 1, 0, none⟩ (.bool true)).setCell ⟨w.heap.size + 1 + 1, 0, none⟩ (.string (strOfNums p))) := b1.setCell (p := ⟨w.heap.size + 1 + 1, 0, none⟩) (by show _ ≤ w.heap.size + 1 + 1; omega) _
        have b3 : Below w.heap.size w (((w5.drew.setCell ⟨w.heap.size + 1, 0, none⟩ (.bool true)).setCell ⟨w.heap.size + 1 + 1, 0, none⟩ (.string (strOfNums p))).setCell ⟨w.heap.size + 1 + 1 + 1, 0, none⟩ (.int .i64 3)) := b2.setCell (p := ⟨w.heap.size + 1 + 1 + 1, 0, none⟩) (by show _ ≤ w.heap.size + 1 + 1 + 1; omega) _
        have r1 := at_cell HC5.out.a 0
        have f1 := at_frozen HC5.out.a 0
        have r2' := at_cell HC5.out.b 0
        have f2 := at_frozen HC5.out.b 0
        have r3 := at_cell HC5.out.e 0
        have f3 := at_frozen HC5.out.e 0
        simp only [List.getElem?_toArray, List.getElem?_cons_zero] at r1 r2' r3
        have HC7 := Lib.hid c3'
        have HW7 := Lib.hid b3
        have HK0 := Lib.hid c0
        have HK1 := Lib.hid c1
        have HK2 := Lib.hid c2
        have HL1 := Lib.hid b1
        have HL2 := Lib.hid b2
        refine wp_region_noPanic ?_
        refine wp_region_held_drew (S := fun W => (∃ a, A3 W w.heap.size (w.heap.size + 1 + 1 + 1) (w.heap.size + 1) (w.heap.size + 1 + 1) 2 id A n c 3 a (strOfNums p)) ∧ Below w.heap.size w W) (by kernel_rfl) ⟨⟨_, c0⟩, b0⟩ (fun hHeld => ?_)
        clear c0 c1 c2 c3' b0 b1 b2 b3
        refine wpAnyH_take (i := 0) (v := ?_) rfl (by kernel_rfl) (by kernel_rfl) (by kernel_rfl) (fun _ _ _ h => h) (Or.inl ⟨by rfl, ?_⟩) hHeld ?_
        rotate_left
        · intro W hS
          obtain ⟨⟨_, hS⟩, _⟩ := hS
          have g0 := at_cell hS.e 0
          have g1 := at_cell hS.p 0
          have g2 := at_cell hS.b 0
          simp only [List.getElem?_toArray, List.getElem?_cons_zero] at g0 g1 g2
          go_simp
          try with_reducible rfl
        simp only [List.getElem_toArray, List.getElem_cons_succ, List.getElem_cons_zero, Act.put, List.setIfInBounds_toArray, List.set_cons_zero, List.set_cons_succ]
        refine wpAnyH_take (i := 1) (v := ?_) rfl (by kernel_rfl) (by kernel_rfl) (by kernel_rfl) (fun _ _ _ h => h) (Or.inl ⟨by rfl, ?_⟩) hHeld ?_
        rotate_left
        · intro W hS
          obtain ⟨⟨_, hS⟩, _⟩ := hS
          have g0 := at_cell hS.e 0
          have g1 := at_cell hS.p 0
          have g2 := at_cell hS.b 0
          simp only [List.getElem?_toArray, List.getElem?_cons_zero] at g0 g1 g2
          go_simp
          try with_reducible rfl
        simp only [List.getElem_toArray, List.getElem_cons_succ, List.getElem_cons_zero, Act.put, List.setIfInBounds_toArray, List.set_cons_zero, List.set_cons_succ]
        refine wpAnyH_take (i := 2) (v := ?_) rfl (by kernel_rfl) (by kernel_rfl) (by kernel_rfl) (fun _ _ _ h => h) (Or.inl ⟨by rfl, ?_⟩) hHeld ?_
        rotate_left
        · intro W hS
          obtain ⟨⟨_, hS⟩, _⟩ := hS
          have g0 := at_cell hS.e 0
          have g1 := at_cell hS.p 0
          have g2 := at_cell hS.b 0
          simp only [List.getElem?_toArray, List.getElem?_cons_zero] at g0 g1 g2
          go_simp
          try with_reducible rfl
        simp only [List.getElem_toArray, List.getElem_cons_succ, List.getElem_cons_zero, Act.put, List.setIfInBounds_toArray, List.set_cons_zero, List.set_cons_succ]
        refine wpAnyH_take (i := 3) (v := ?_) rfl (by kernel_rfl) (by kernel_rfl) (by kernel_rfl) (fun _ _ _ h => h) (Or.inl ⟨by rfl, ?_⟩) hHeld ?_
        rotate_left
        · intro W hS
          obtain ⟨⟨_, hS⟩, _⟩ := hS
          have g0 := at_cell hS.e 0
          have g1 := at_cell hS.p 0
          have g2 := at_cell hS.b 0
          simp only [List.getElem?_toArray, List.getElem?_cons_zero] at g0 g1 g2
          go_simp
          try with_reducible rfl
        simp only [List.getElem_toArray, List.getElem_cons_succ, List.getElem_cons_zero, Act.put, List.setIfInBounds_toArray, List.set_cons_zero, List.set_cons_succ]
        refine wpAnyH_take (i := 4) (v := ?_) rfl (by kernel_rfl) (by kernel_rfl) (by kernel_rfl) (fun _ _ _ h => h) (Or.inl ⟨by rfl, ?_⟩) hHeld ?_
        rotate_left
        · intro W hS
          obtain ⟨⟨_, hS⟩, _⟩ := hS
          have g0 := at_cell hS.e 0
          have g1 := at_cell hS.p 0
          have g2 := at_cell hS.b 0
          simp only [List.getElem?_toArray, List.getElem?_cons_zero] at g0 g1 g2
          go_simp
          try with_reducible rfl
        simp only [List.getElem_toArray, List.getElem_cons_succ, List.getElem_cons_zero, Act.put, List.setIfInBounds_toArray, List.set_cons_zero, List.set_cons_succ]
        refine wpAnyH_ready (rs := [5]) (by kernel_rfl) (by simp) ?_
        refine AllReadyH.cons rfl (fun K hK => ?_) AllReadyH.nil
        rw [if_pos (by rfl)]
        unfold Oper.wp
        go_simp
        clear hHeld
        refine hK.out _ _ ⟨⟨_, HK1.out⟩, HL1.out⟩ (fun hHeld => ?_)
        clear hK K
        try simp only [List.getElem_toArray, List.getElem_cons_succ, List.getElem_cons_zero, Act.put, List.setIfInBounds_toArray, List.set_cons_zero, List.set_cons_succ]
        refine wpAnyH_ready (rs := [6]) (by kernel_rfl) (by simp) ?_
        refine AllReadyH.cons rfl (fun K hK => ?_) AllReadyH.nil
        rw [if_pos (by rfl)]
        unfold Oper.wp
        go_simp
        clear hHeld
        refine hK.out _ _ ⟨⟨_, HK2.out⟩, HL2.out⟩ (fun hHeld => ?_)
        clear hK K
        try simp only [List.getElem_toArray, List.getElem_cons_succ, List.getElem_cons_zero, Act.put, List.setIfInBounds_toArray, List.set_cons_zero, List.set_cons_succ]
        refine wpAnyH_ready (rs := [7]) (by kernel_rfl) (by simp) ?_
        refine AllReadyH.cons rfl (fun K hK => ?_) AllReadyH.nil
        rw [if_pos (by rfl)]
        unfold Oper.wp
        go_simp
        clear hHeld
        refine hK.out _ _ ⟨⟨_, HC7.out⟩, HW7.out⟩ (fun hHeld => ?_)
        clear hK K
        try simp only [List.getElem_toArray, List.getElem_cons_succ, List.getElem_cons_zero, Act.put, List.setIfInBounds_toArray, List.set_cons_zero, List.set_cons_succ]
        refine wpAnyH_done (by kernel_rfl) ?_ _
        clear hHeld
        refine NoPanic.normal ?_
        go_wp2
        unfold bodyPostD
        show Leaves _ _ _ _ [_, _] .returning _
        refine leaves_cons (f := 110) (args := #[.pointer (some ⟨w.heap.size + 1 + 1 + 1, 0, none⟩)]) (by simp) (by simp [go_sem]) ?_
        refine (told_idle (w.heap.size + 1 + 1 + 1) _).mono ?_
        rintro e u' wy ⟨rfl, rfl, hby⟩
        have hCy : A3 wy w.heap.size (w.heap.size + 1 + 1 + 1) (w.heap.size + 1) (w.heap.size + 1 + 1) 2 id A n c 3 true (strOfNums p) := A3.ext (h := ⟨hby⟩) HC7.out
        have hBy : Below w.heap.size w wy := (Ext.trans_ (⟨HW7.out⟩ : Ext w _) ⟨hby⟩).out
        show Leaves _ _ _ _ [_] .returning _
        refine leaves_cons (f := 112) (args := #[.pointer (some ⟨w.heap.size + 1 + 1 + 1, 0, none⟩), .pointer (some ⟨w.heap.size + 1, 0, none⟩), .pointer (some ⟨w.heap.size + 1 + 1, 0, none⟩)]) (by simp) (by simp [go_sem]) ?_
        refine (emptyA_any .returning w.heap.size (w.heap.size + 1 + 1 + 1) (w.heap.size + 1) (w.heap.size + 1 + 1) 2 id A n c 3 true (strOfNums p) _ hCy (by omega) (by omega) (by omega) (by omega) (by omega)).mono ?_
        rintro e u' wz ⟨rfl, rfl, hCz, hbz⟩
        show Leaves _ _ _ _ [] .returning _
        exact ⟨_, results_ccc Try.results63 _ _ ⟨w.heap.size + 1, 0, none⟩ ⟨w.heap.size + 1 + 1, 0, none⟩ ⟨w.heap.size + 1 + 1 + 1, 0, none⟩ (.bool false) (.string ⟨#[]⟩) (.int .i64 3) rfl rfl rfl (run_loadVar_bool Try.underlying4 (at_cell hCz.a 0)) (run_loadVar_str Try.underlying9 (at_cell hCz.b 0)) (run_loadVar_int Try.underlying35 (at_cell hCz.e 0)), ra_tells (q := []) HF.out, hbz _ _ hBy (by omega) (by omega)⟩
      · have HF : Hid (raF 2 id ys = ((true, p), 0)) := by have h := HF0.out; rw [HPF.out] at h; exact h.trans (if_neg (by rintro (h | h); exact h rfl; rw [hpl] at h; cases h))
        have HPP : Hid (plainF (strB (strOfNums p)) = true) := by unfold Hid; rw [strB_str _ HPL.out.1]; exact hpl
        clear hpl
        go_enter_defers Try.func63, Try.ntmps63
        go_upto_region 1 with fail
        obtain ⟨wb, hwb⟩ : ∃ wb, (((w.alloc (.cells #[.int .i64 2, .int .i64 id, .slice A n c] 43)).alloc (.cells #[.bool false] 4)).alloc (.cells #[.string ⟨#[]⟩] 9)).alloc (.cells #[.int .i64 0] 35) = wb := ⟨_, rfl⟩
        have HC : Hid (A3 wb w.heap.size (w.heap.size + 1 + 1 + 1) (w.heap.size + 1) (w.heap.size + 1 + 1) 2 id A n c 0 false ⟨#[]⟩) := by
          unfold Hid
          rw [← hwb]
          exact ⟨at_ext (at_new w _), at_new1 (by simp), at_ext (w := (w.alloc (.cells #[.int .i64 2, .int .i64 id, .slice A n c] 43)).alloc (.cells #[.bool false] 4)) (at_new1 (by simp)), at_ext (w := ((w.alloc (.cells #[.int .i64 2, .int .i64 id, .slice A n c] 43)).alloc (.cells #[.bool false] 4)).alloc (.cells #[.string ⟨#[]⟩] 9)) (at_new1 (by simp))⟩
        have HW : Hid (Ext w wb) := by unfold Hid; rw [← hwb]; exact inferInstance
        rw [hwb]
        clear hwb
        have p0 : wb.cell? ⟨w.heap.size, 0, none⟩ = some (.int .i64 2) := at_cell HC.out.p 0
        have p1 : wb.cell? ⟨w.heap.size, 1, none⟩ = some (.int .i64 id) := at_cell HC.out.p 1
        have p2 : wb.cell? ⟨w.heap.size, 2, none⟩ = some (.slice A n c) := at_cell HC.out.p 2
        go_wp2_with fail
        refine (isByte_yes id HD.out _).mono ?_
        rintro e w1 ⟨rfl, rfl⟩
        go_wp2_with fail
        refine (part_any A n c ys Hn.out hn' hnc HB.out _ (by have := HW.out; exact HX.out.ext)).mono ?_
        rintro e w2 ⟨hb2, he2⟩
        rw [HPF.out] at he2
        simp only at he2
        have X2 : Ext wb w2 := ⟨hb2⟩
        have HC2 := Lib.hid (HC.out.ext (w' := w2))
        have HW2 : Hid (Ext w w2) := Ext.trans_ HW.out X2
        clear hb2 p0 p1 p2
        obtain ⟨A2, c2, rfl, hrc, hC2⟩ := he2
        clear hC2
        have c3 := HC2.out.sb (by omega) (by omega) (by omega) (strOfNums p)
        have HC3 := Lib.hid c3
        have q1 := at_cell HC2.out.b 0
        have f1 := at_frozen HC2.out.b 0
        have q2 := at_cell c3.b 0
        simp only [List.getElem?_toArray, List.getElem?_cons_zero] at q1 q2
        have HW3 : Hid (Below w.heap.size w (w2.setCell ⟨w.heap.size + 1 + 1, 0, none⟩ (.string (strOfNums p)))) := HW2.out.out.setCell (p := ⟨w.heap.size + 1 + 1, 0, none⟩) (by show _ ≤ w.heap.size + 1 + 1; omega) _
        clear c3
        go_wp2_with fail
        refine (plain_any12 (strOfNums p) HPS.out _).mono ?_
        rintro e w4 ⟨rfl, hb4⟩
        have X4 : Ext (w2.setCell ⟨w.heap.size + 1 + 1, 0, none⟩ (.string (strOfNums p))) w4 := ⟨hb4⟩
        rw [HPP.out]
        have HC4 := Lib.hid (HC3.out.ext (w' := w4))
        have HW4 : Hid (Below w.heap.size w w4) := (Ext.trans_ (⟨HW3.out⟩ : Ext w _) X4).out
        clear hb4
        go_upto_region 12 with fail
        obtain ⟨w5, hw5⟩ : ∃ w5, w4 = w5 := ⟨_, rfl⟩
        have HC5 : Hid (A3 w5 w.heap.size (w.heap.size + 1 + 1 + 1) (w.heap.size + 1) (w.heap.size + 1 + 1) 2 id A n c 0 false (strOfNums p)) := by unfold Hid; rw [← hw5]; exact HC4.out
        have HW5 : Hid (Below w.heap.size w w5) := by unfold Hid; rw [← hw5]; exact HW4.out
        rw [hw5]
        clear hw5
        clear q1 f1 q2
        have c0 : A3 w5.drew _ _ _ _ _ _ _ _ _ _ _ _ := HC5.out.ext
        have c1 := c0.sa (by omega) (by omega) (by omega) true
        have c2 := c1.sb (by omega) (by omega) (by omega) (strOfNums p)
        have c3' := c2.se (by omega) (by omega) (by omega) 0
        have b0 : Below w.heap.size w w5.drew := ((⟨HW5.out⟩ : Ext w w5).trans_ inferInstance).out
        have b1 : Below w.heap.size w (w5.drew.setCell ⟨w.heap.size + 1, 0, none⟩ (.bool true)) := b0.setCell (p := ⟨w.heap.size + 1, 0, none⟩) (by show _ ≤ w.heap.size + 1; omega) _
        have b2 : Below w.heap.size w ((w5.drew.setCell ⟨w.heap.size + 1, 0, none⟩ (.bool true)).setCell ⟨w.heap.size + 1 + 1, 0, none⟩ (.string (strOfNums p))) := b1.setCell (p := ⟨w.heap.size + 1 + 1, 0, none⟩) (by show _ ≤ w.heap.size + 1 + 1; omega) _
        have b3 : Below w.heap.size w (((w5.drew.setCell ⟨w.heap.size + 1, 0, none⟩ (.bool true)).setCell ⟨w.heap.size + 1 + 1, 0, none⟩ (.string (strOfNums p))).setCell ⟨w.heap.size + 1 + 1 + 1, 0, none⟩ (.int .i64 0)) := b2.setCell (p := ⟨w.heap.size + 1 + 1 + 1, 0, none⟩) (by show _ ≤ w.heap.size + 1 + 1 + 1; omega) _
        have r1 := at_cell HC5.out.a 0
        have f1 := at_frozen HC5.out.a 0
        have r2' := at_cell HC5.out.b 0
        have f2 := at_frozen HC5.out.b 0
        have r3 := at_cell HC5.out.e 0
        have f3 := at_frozen HC5.out.e 0
        simp only [List.getElem?_toArray, List.getElem?_cons_zero] at r1 r2' r3
        have HC7 := Lib.hid c3'
        have HW7 := Lib.hid b3
        have HK0 := Lib.hid c0
        have HK1 := Lib.hid c1
        have HK2 := Lib.hid c2
        have HL1 := Lib.hid b1
        have HL2 := Lib.hid b2
        refine wp_region_noPanic ?_
        refine wp_region_held_drew (S := fun W => (∃ a, A3 W w.heap.size (w.heap.size + 1 + 1 + 1) (w.heap.size + 1) (w.heap.size + 1 + 1) 2 id A n c 0 a (strOfNums p)) ∧ Below w.heap.size w W) (by kernel_rfl) ⟨⟨_, c0⟩, b0⟩ (fun hHeld => ?_)
        clear c0 c1 c2 c3' b0 b1 b2 b3
        refine wpAnyH_take (i := 0) (v := ?_) rfl (by kernel_rfl) (by kernel_rfl) (by kernel_rfl) (fun _ _ _ h => h) (Or.inl ⟨by rfl, ?_⟩) hHeld ?_
        rotate_left
        · intro W hS
          obtain ⟨⟨_, hS⟩, _⟩ := hS
          have g0 := at_cell hS.e 0
          have g1 := at_cell hS.p 0
          have g2 := at_cell hS.b 0
          simp only [List.getElem?_toArray, List.getElem?_cons_zero] at g0 g1 g2
          go_simp
          try with_reducible rfl
        simp only [List.getElem_toArray, List.getElem_cons_succ, List.getElem_cons_zero, Act.put, List.setIfInBounds_toArray, List.set_cons_zero, List.set_cons_succ]
        refine wpAnyH_take (i := 1) (v := ?_) rfl (by kernel_rfl) (by kernel_rfl) (by kernel_rfl) (fun _ _ _ h => h) (Or.inl ⟨by rfl, ?_⟩) hHeld ?_
        rotate_left
        · intro W hS
          obtain ⟨⟨_, hS⟩, _⟩ := hS
          have g0 := at_cell hS.e 0
          have g1 := at_cell hS.p 0
          have g2 := at_cell hS.b 0
          simp only [List.getElem?_toArray, List.getElem?_cons_zero] at g0 g1 g2
          go_simp
          try with_reducible rfl
        simp only [List.getElem_toArray, List.getElem_cons_succ, List.getElem_cons_zero, Act.put, List.setIfInBounds_toArray, List.set_cons_zero, List.set_cons_succ]
        refine wpAnyH_take (i := 2) (v := ?_) rfl (by kernel_rfl) (by kernel_rfl) (by kernel_rfl) (fun _ _ _ h => h) (Or.inl ⟨by rfl, ?_⟩) hHeld ?_
        rotate_left
        · intro W hS
          obtain ⟨⟨_, hS⟩, _⟩ := hS
          have g0 := at_cell hS.e 0
          have g1 := at_cell hS.p 0
          have g2 := at_cell hS.b 0
          simp only [List.getElem?_toArray, List.getElem?_cons_zero] at g0 g1 g2
          go_simp
          try with_reducible rfl
        simp only [List.getElem_toArray, List.getElem_cons_succ, List.getElem_cons_zero, Act.put, List.setIfInBounds_toArray, List.set_cons_zero, List.set_cons_succ]
        refine wpAnyH_take (i := 3) (v := ?_) rfl (by kernel_rfl) (by kernel_rfl) (by kernel_rfl) (fun _ _ _ h => h) (Or.inl ⟨by rfl, ?_⟩) hHeld ?_
        rotate_left
        · intro W hS
          obtain ⟨⟨_, hS⟩, _⟩ := hS
          have g0 := at_cell hS.e 0
          have g1 := at_cell hS.p 0
          have g2 := at_cell hS.b 0
          simp only [List.getElem?_toArray, List.getElem?_cons_zero] at g0 g1 g2
          go_simp
          try with_reducible rfl
        simp only [List.getElem_toArray, List.getElem_cons_succ, List.getElem_cons_zero, Act.put, List.setIfInBounds_toArray, List.set_cons_zero, List.set_cons_succ]
        refine wpAnyH_take (i := 4) (v := ?_) rfl (by kernel_rfl) (by kernel_rfl) (by kernel_rfl) (fun _ _ _ h => h) (Or.inl ⟨by rfl, ?_⟩) hHeld ?_
        rotate_left
        · intro W hS
          obtain ⟨⟨_, hS⟩, _⟩ := hS
          have g0 := at_cell hS.e 0
          have g1 := at_cell hS.p 0
          have g2 := at_cell hS.b 0
          simp only [List.getElem?_toArray, List.getElem?_cons_zero] at g0 g1 g2
          go_simp
          try with_reducible rfl
        simp only [List.getElem_toArray, List.getElem_cons_succ, List.getElem_cons_zero, Act.put, List.setIfInBounds_toArray, List.set_cons_zero, List.set_cons_succ]
        refine wpAnyH_ready (rs := [5]) (by kernel_rfl) (by simp) ?_
        refine AllReadyH.cons rfl (fun K hK => ?_) AllReadyH.nil
        rw [if_pos (by rfl)]
        unfold Oper.wp
        go_simp
        clear hHeld
        refine hK.out _ _ ⟨⟨_, HK1.out⟩, HL1.out⟩ (fun hHeld => ?_)
        clear hK K
        try simp only [List.getElem_toArray, List.getElem_cons_succ, List.getElem_cons_zero, Act.put, List.setIfInBounds_toArray, List.set_cons_zero, List.set_cons_succ]
        refine wpAnyH_ready (rs := [6]) (by kernel_rfl) (by simp) ?_
        refine AllReadyH.cons rfl (fun K hK => ?_) AllReadyH.nil
        rw [if_pos (by rfl)]
        unfold Oper.wp
        go_simp
        clear hHeld
        refine hK.out _ _ ⟨⟨_, HK2.out⟩, HL2.out⟩ (fun hHeld => ?_)
        clear hK K
        try simp only [List.getElem_toArray, List.getElem_cons_succ, List.getElem_cons_zero, Act.put, List.setIfInBounds_toArray, List.set_cons_zero, List.set_cons_succ]
        refine wpAnyH_ready (rs := [7]) (by kernel_rfl) (by simp) ?_
        refine AllReadyH.cons rfl (fun K hK => ?_) AllReadyH.nil
        rw [if_pos (by rfl)]
        unfold Oper.wp
        go_simp
        clear hHeld
        refine hK.out _ _ ⟨⟨_, HC7.out⟩, HW7.out⟩ (fun hHeld => ?_)
        clear hK K
        try simp only [List.getElem_toArray, List.getElem_cons_succ, List.getElem_cons_zero, Act.put, List.setIfInBounds_toArray, List.set_cons_zero, List.set_cons_succ]
        refine wpAnyH_done (by kernel_rfl) ?_ _
        clear hHeld
        refine NoPanic.normal ?_
        go_wp2
        unfold bodyPostD
        show Leaves _ _ _ _ [_, _] .returning _
        refine leaves_cons (f := 110) (args := #[.pointer (some ⟨w.heap.size + 1 + 1 + 1, 0, none⟩)]) (by simp) (by simp [go_sem]) ?_
        refine (told_idle (w.heap.size + 1 + 1 + 1) _).mono ?_
        rintro e u' wy ⟨rfl, rfl, hby⟩
        have hCy : A3 wy w.heap.size (w.heap.size + 1 + 1 + 1) (w.heap.size + 1) (w.heap.size + 1 + 1) 2 id A n c 0 true (strOfNums p) := A3.ext (h := ⟨hby⟩) HC7.out
        have hBy : Below w.heap.size w wy := (Ext.trans_ (⟨HW7.out⟩ : Ext w _) ⟨hby⟩).out
        show Leaves _ _ _ _ [_] .returning _
        refine leaves_cons (f := 112) (args := #[.pointer (some ⟨w.heap.size + 1 + 1 + 1, 0, none⟩), .pointer (some ⟨w.heap.size + 1, 0, none⟩), .pointer (some ⟨w.heap.size + 1 + 1, 0, none⟩)]) (by simp) (by simp [go_sem]) ?_
        refine (emptyA_any .returning w.heap.size (w.heap.size + 1 + 1 + 1) (w.heap.size + 1) (w.heap.size + 1 + 1) 2 id A n c 0 true (strOfNums p) _ hCy (by omega) (by omega) (by omega) (by omega) (by omega)).mono ?_
        rintro e u' wz ⟨rfl, rfl, hCz, hbz⟩
        show Leaves _ _ _ _ [] .returning _
        exact ⟨_, results_ccc Try.results63 _ _ ⟨w.heap.size + 1, 0, none⟩ ⟨w.heap.size + 1 + 1, 0, none⟩ ⟨w.heap.size + 1 + 1 + 1, 0, none⟩ (.bool true) (.string (strOfNums p)) (.int .i64 0) rfl rfl rfl (run_loadVar_bool Try.underlying4 (at_cell hCz.a 0)) (run_loadVar_str Try.underlying9 (at_cell hCz.b 0)) (run_loadVar_int Try.underlying35 (at_cell hCz.e 0)), ra_tells HF.out, hbz _ _ hBy (by omega) (by omega)⟩
    · have HF : Hid (raF 2 id ys = ((false, []), 3)) := by have h := HF0.out; rw [HPF.out] at h; exact h.trans (if_pos (.inl (by simp)))
      go_enter_defers Try.func63, Try.ntmps63
      go_upto_region 1 with fail
      obtain ⟨wb, hwb⟩ : ∃ wb, (((w.alloc (.cells #[.int .i64 2, .int .i64 id, .slice A n c] 43)).alloc (.cells #[.bool false] 4)).alloc (.cells #[.string ⟨#[]⟩] 9)).alloc (.cells #[.int .i64 0] 35) = wb := ⟨_, rfl⟩
      have HC : Hid (A3 wb w.heap.size (w.heap.size + 1 + 1 + 1) (w.heap.size + 1) (w.heap.size + 1 + 1) 2 id A n c 0 false ⟨#[]⟩) := by
        unfold Hid
        rw [← hwb]
        exact ⟨at_ext (at_new w _), at_new1 (by simp), at_ext (w := (w.alloc (.cells #[.int .i64 2, .int .i64 id, .slice A n c] 43)).alloc (.cells #[.bool false] 4)) (at_new1 (by simp)), at_ext (w := ((w.alloc (.cells #[.int .i64 2, .int .i64 id, .slice A n c] 43)).alloc (.cells #[.bool false] 4)).alloc (.cells #[.string ⟨#[]⟩] 9)) (at_new1 (by simp))⟩
      have HW : Hid (Ext w wb) := by unfold Hid; rw [← hwb]; exact inferInstance
      rw [hwb]
      clear hwb
      have p0 : wb.cell? ⟨w.heap.size, 0, none⟩ = some (.int .i64 2) := at_cell HC.out.p 0
      have p1 : wb.cell? ⟨w.heap.size, 1, none⟩ = some (.int .i64 id) := at_cell HC.out.p 1
      have p2 : wb.cell? ⟨w.heap.size, 2, none⟩ = some (.slice A n c) := at_cell HC.out.p 2
      go_wp2_with fail
      refine (isByte_yes id HD.out _).mono ?_
      rintro e w1 ⟨rfl, rfl⟩
      go_wp2_with fail
      refine (part_any A n c ys Hn.out hn' hnc HB.out _ (by have := HW.out; exact HX.out.ext)).mono ?_
      rintro e w2 ⟨hb2, he2⟩
      rw [HPF.out] at he2
      simp only at he2
      have X2 : Ext wb w2 := ⟨hb2⟩
      have HC2 := Lib.hid (HC.out.ext (w' := w2))
      have HW2 : Hid (Ext w w2) := Ext.trans_ HW.out X2
      clear hb2 p0 p1 p2
      obtain ⟨A2, c2, rfl, hrc, hC2⟩ := he2
      clear hC2
      have c3 := HC2.out.sb (by omega) (by omega) (by omega) (strOfNums p)
      have HC3 := Lib.hid c3
      have q1 := at_cell HC2.out.b 0
      have f1 := at_frozen HC2.out.b 0
      have q2 := at_cell c3.b 0
      simp only [List.getElem?_toArray, List.getElem?_cons_zero] at q1 q2
      have HW3 : Hid (Below w.heap.size w (w2.setCell ⟨w.heap.size + 1 + 1, 0, none⟩ (.string (strOfNums p)))) := HW2.out.out.setCell (p := ⟨w.heap.size + 1 + 1, 0, none⟩) (by show _ ≤ w.heap.size + 1 + 1; omega) _
      clear c3
      have r3 := at_cell HC3.out.e 0
      have f3 := at_frozen HC3.out.e 0
      simp only [List.getElem?_toArray, List.getElem?_cons_zero] at r3
      go_upto_region 12 with fail
      obtain ⟨w5, hw5⟩ : ∃ w5, (w2.setCell ⟨w.heap.size + 1 + 1, 0, none⟩ (.string (strOfNums p))).setCell ⟨w.heap.size + 1 + 1 + 1, 0, none⟩ (.int .i64 3) = w5 := ⟨_, rfl⟩
      have HC5 : Hid (A3 w5 w.heap.size (w.heap.size + 1 + 1 + 1) (w.heap.size + 1) (w.heap.size + 1 + 1) 2 id A n c 3 false (strOfNums p)) := by unfold Hid; rw [← hw5]; exact HC3.out.se (by omega) (by omega) (by omega) _
      have HW5 : Hid (Below w.heap.size w w5) := by unfold Hid; rw [← hw5]; exact HW3.out.setCell (p := ⟨w.heap.size + 1 + 1 + 1, 0, none⟩) (by show _ ≤ w.heap.size + 1 + 1 + 1; omega) _
      rw [hw5]
      clear hw5
      clear r3 f3 q1 f1 q2
      have c0 : A3 w5.drew _ _ _ _ _ _ _ _ _ _ _ _ := HC5.out.ext
      have c1 := c0.sa (by omega) (by omega) (by omega) true
      have c2 := c1.sb (by omega) (by omega) (by omega) (strOfNums p)
      have c3' := c2.se (by omega) (by omega) (by omega) 3
      have b0 : Below w.heap.size w w5.drew := ((⟨HW5.out⟩ : Ext w w5).trans_ inferInstance).out
      have b1 : Below w.heap.size w (w5.drew.setCell ⟨w.heap.size + 1, 0, none⟩ (.bool true)) := b0.setCell (p := ⟨w.heap.size + 1, 0, none⟩) (by show _ ≤ w.heap.size + 1; omega) _
      have b2 : Below w.heap.size w ((w5.drew.setCell ⟨w.heap.size + 1, 0, none⟩ (.bool true)).setCell ⟨w.heap.size + 1 + 1, 0, none⟩ (.string (strOfNums p))) := b1.setCell (p := ⟨w.heap.size + 1 + 1, 0, none⟩) (by show _ ≤ w.heap.size + 1 + 1; omega) _
      have b3 : Below w.heap.size w (((w5.drew.setCell ⟨w.heap.size + 1, 0, none⟩ (.bool true)).setCell ⟨w.heap.size + 1 + 1, 0, none⟩ (.string (strOfNums p))).setCell ⟨w.heap.size + 1 + 1 + 1, 0, none⟩ (.int .i64 3)) := b2.setCell (p := ⟨w.heap.size + 1 + 1 + 1, 0, none⟩) (by show _ ≤ w.heap.size + 1 + 1 + 1; omega) _
      have r1 := at_cell HC5.out.a 0
      have f1 := at_frozen HC5.out.a 0
      have r2' := at_cell HC5.out.b 0
      have f2 := at_frozen HC5.out.b 0
      have r3 := at_cell HC5.out.e 0
      have f3 := at_frozen HC5.out.e 0
      simp only [List.getElem?_toArray, List.getElem?_cons_zero] at r1 r2' r3
      have HC7 := Lib.hid c3'
      have HW7 := Lib.hid b3
      have HK0 := Lib.hid c0
      have HK1 := Lib.hid c1
      have HK2 := Lib.hid c2
      have HL1 := Lib.hid b1
      have HL2 := Lib.hid b2
      refine wp_region_noPanic ?_
      refine wp_region_held_drew (S := fun W => (∃ a, A3 W w.heap.size (w.heap.size + 1 + 1 + 1) (w.heap.size + 1) (w.heap.size + 1 + 1) 2 id A n c 3 a (strOfNums p)) ∧ Below w.heap.size w W) (by kernel_rfl) ⟨⟨_, c0⟩, b0⟩ (fun hHeld => ?_)
      clear c0 c1 c2 c3' b0 b1 b2 b3
      refine wpAnyH_take (i := 0) (v := ?_) rfl (by kernel_rfl) (by kernel_rfl) (by kernel_rfl) (fun _ _ _ h => h) (Or.inl ⟨by rfl, ?_⟩) hHeld ?_
      rotate_left
      · intro W hS
        obtain ⟨⟨_, hS⟩, _⟩ := hS
        have g0 := at_cell hS.e 0
        have g1 := at_cell hS.p 0
        have g2 := at_cell hS.b 0
        simp only [List.getElem?_toArray, List.getElem?_cons_zero] at g0 g1 g2
        go_simp
        try with_reducible rfl
      simp only [List.getElem_toArray, List.getElem_cons_succ, List.getElem_cons_zero, Act.put, List.setIfInBounds_toArray, List.set_cons_zero, List.set_cons_succ]
      refine wpAnyH_take (i := 1) (v := ?_) rfl (by kernel_rfl) (by kernel_rfl) (by kernel_rfl) (fun _ _ _ h => h) (Or.inl ⟨by rfl, ?_⟩) hHeld ?_
      rotate_left
      · intro W hS
        obtain ⟨⟨_, hS⟩, _⟩ := hS
        have g0 := at_cell hS.e 0
        have g1 := at_cell hS.p 0
        have g2 := at_cell hS.b 0
        simp only [List.getElem?_toArray, List.getElem?_cons_zero] at g0 g1 g2
        go_simp
        try with_reducible rfl
      simp only [List.getElem_toArray, List.getElem_cons_succ, List.getElem_cons_zero, Act.put, List.setIfInBounds_toArray, List.set_cons_zero, List.set_cons_succ]
      refine wpAnyH_take (i := 2) (v := ?_) rfl (by kernel_rfl) (by kernel_rfl) (by kernel_rfl) (fun _ _ _ h => h) (Or.inl ⟨by rfl, ?_⟩) hHeld ?_
      rotate_left
      · intro W hS
        obtain ⟨⟨_, hS⟩, _⟩ := hS
        have g0 := at_cell hS.e 0
        have g1 := at_cell hS.p 0
        have g2 := at_cell hS.b 0
        simp only [List.getElem?_toArray, List.getElem?_cons_zero] at g0 g1 g2
        go_simp
        try with_reducible rfl
      simp only [List.getElem_toArray, List.getElem_cons_succ, List.getElem_cons_zero, Act.put, List.setIfInBounds_toArray, List.set_cons_zero, List.set_cons_succ]
      refine wpAnyH_take (i := 3) (v := ?_) rfl (by kernel_rfl) (by kernel_rfl) (by kernel_rfl) (fun _ _ _ h => h) (Or.inl ⟨by rfl, ?_⟩) hHeld ?_
      rotate_left
      · intro W hS
        obtain ⟨⟨_, hS⟩, _⟩ := hS
        have g0 := at_cell hS.e 0
        have g1 := at_cell hS.p 0
        have g2 := at_cell hS.b 0
        simp only [List.getElem?_toArray, List.getElem?_cons_zero] at g0 g1 g2
        go_simp
        try with_reducible rfl
      simp only [List.getElem_toArray, List.getElem_cons_succ, List.getElem_cons_zero, Act.put, List.setIfInBounds_toArray, List.set_cons_zero, List.set_cons_succ]
      refine wpAnyH_take (i := 4) (v := ?_) rfl (by kernel_rfl) (by kernel_rfl) (by kernel_rfl) (fun _ _ _ h => h) (Or.inl ⟨by rfl, ?_⟩) hHeld ?_
      rotate_left
      · intro W hS
        obtain ⟨⟨_, hS⟩, _⟩ := hS
        have g0 := at_cell hS.e 0
        have g1 := at_cell hS.p 0
        have g2 := at_cell hS.b 0
        simp only [List.getElem?_toArray, List.getElem?_cons_zero] at g0 g1 g2
        go_simp
        try with_reducible rfl
      simp only [List.getElem_toArray, List.getElem_cons_succ, List.getElem_cons_zero, Act.put, List.setIfInBounds_toArray, List.set_cons_zero, List.set_cons_succ]
      refine wpAnyH_ready (rs := [5]) (by kernel_rfl) (by simp) ?_
      refine AllReadyH.cons rfl (fun K hK => ?_) AllReadyH.nil
      rw [if_pos (by rfl)]
      unfold Oper.wp
      go_simp
      clear hHeld
      refine hK.out _ _ ⟨⟨_, HK1.out⟩, HL1.out⟩ (fun hHeld => ?_)
      clear hK K
      try simp only [List.getElem_toArray, List.getElem_cons_succ, List.getElem_cons_zero, Act.put, List.setIfInBounds_toArray, List.set_cons_zero, List.set_cons_succ]
      refine wpAnyH_ready (rs := [6]) (by kernel_rfl) (by simp) ?_
      refine AllReadyH.cons rfl (fun K hK => ?_) AllReadyH.nil
      rw [if_pos (by rfl)]
      unfold Oper.wp
      go_simp
      clear hHeld
      refine hK.out _ _ ⟨⟨_, HK2.out⟩, HL2.out⟩ (fun hHeld => ?_)
      clear hK K
      try simp only [List.getElem_toArray, List.getElem_cons_succ, List.getElem_cons_zero, Act.put, List.setIfInBounds_toArray, List.set_cons_zero, List.set_cons_succ]
      refine wpAnyH_ready (rs := [7]) (by kernel_rfl) (by simp) ?_
      refine AllReadyH.cons rfl (fun K hK => ?_) AllReadyH.nil
      rw [if_pos (by rfl)]
      unfold Oper.wp
      go_simp
      clear hHeld
      refine hK.out _ _ ⟨⟨_, HC7.out⟩, HW7.out⟩ (fun hHeld => ?_)
      clear hK K
      try simp only [List.getElem_toArray, List.getElem_cons_succ, List.getElem_cons_zero, Act.put, List.setIfInBounds_toArray, List.set_cons_zero, List.set_cons_succ]
      refine wpAnyH_done (by kernel_rfl) ?_ _
      clear hHeld
      refine NoPanic.normal ?_
      go_wp2
      unfold bodyPostD
      show Leaves _ _ _ _ [_, _] .returning _
      refine leaves_cons (f := 110) (args := #[.pointer (some ⟨w.heap.size + 1 + 1 + 1, 0, none⟩)]) (by simp) (by simp [go_sem]) ?_
      refine (told_idle (w.heap.size + 1 + 1 + 1) _).mono ?_
      rintro e u' wy ⟨rfl, rfl, hby⟩
      have hCy : A3 wy w.heap.size (w.heap.size + 1 + 1 + 1) (w.heap.size + 1) (w.heap.size + 1 + 1) 2 id A n c 3 true (strOfNums p) := A3.ext (h := ⟨hby⟩) HC7.out
      have hBy : Below w.heap.size w wy := (Ext.trans_ (⟨HW7.out⟩ : Ext w _) ⟨hby⟩).out
      show Leaves _ _ _ _ [_] .returning _
      refine leaves_cons (f := 112) (args := #[.pointer (some ⟨w.heap.size + 1 + 1 + 1, 0, none⟩), .pointer (some ⟨w.heap.size + 1, 0, none⟩), .pointer (some ⟨w.heap.size + 1 + 1, 0, none⟩)]) (by simp) (by simp [go_sem]) ?_
      refine (emptyA_any .returning w.heap.size (w.heap.size + 1 + 1 + 1) (w.heap.size + 1) (w.heap.size + 1 + 1) 2 id A n c 3 true (strOfNums p) _ hCy (by omega) (by omega) (by omega) (by omega) (by omega)).mono ?_
      rintro e u' wz ⟨rfl, rfl, hCz, hbz⟩
      show Leaves _ _ _ _ [] .returning _
      exact ⟨_, results_ccc Try.results63 _ _ ⟨w.heap.size + 1, 0, none⟩ ⟨w.heap.size + 1 + 1, 0, none⟩ ⟨w.heap.size + 1 + 1 + 1, 0, none⟩ (.bool false) (.string ⟨#[]⟩) (.int .i64 3) rfl rfl rfl (run_loadVar_bool Try.underlying4 (at_cell hCz.a 0)) (run_loadVar_str Try.underlying9 (at_cell hCz.b 0)) (run_loadVar_int Try.underlying35 (at_cell hCz.e 0)), ra_tells (q := []) HF.out, hbz _ _ hBy (by omega) (by omega)⟩
  by_cases h3 : code = 3
  · subst h3
    clear h1
    rcases xs with _ | ⟨x0, xs⟩
    · have HF : Hid (raF 3 id [] = ((false, []), 0)) := by unfold Hid raF; rw [if_neg HD.out, if_neg (by simp), if_pos rfl]; rfl
      have hnz : ((n : Int) == 0) = true := by have h : n = 0 := Hn.out.symm; rw [h]; rfl
      go_enter_defers Try.func63, Try.ntmps63
      go_upto_region 1 with fail
      obtain ⟨wb, hwb⟩ : ∃ wb, (((w.alloc (.cells #[.int .i64 3, .int .i64 id, .slice A n c] 43)).alloc (.cells #[.bool false] 4)).alloc (.cells #[.string ⟨#[]⟩] 9)).alloc (.cells #[.int .i64 0] 35) = wb := ⟨_, rfl⟩
      have HC : Hid (A3 wb w.heap.size (w.heap.size + 1 + 1 + 1) (w.heap.size + 1) (w.heap.size + 1 + 1) 3 id A n c 0 false ⟨#[]⟩) := by
        unfold Hid
        rw [← hwb]
        exact ⟨at_ext (at_new w _), at_new1 (by simp), at_ext (w := (w.alloc (.cells #[.int .i64 3, .int .i64 id, .slice A n c] 43)).alloc (.cells #[.bool false] 4)) (at_new1 (by simp)), at_ext (w := ((w.alloc (.cells #[.int .i64 3, .int .i64 id, .slice A n c] 43)).alloc (.cells #[.bool false] 4)).alloc (.cells #[.string ⟨#[]⟩] 9)) (at_new1 (by simp))⟩
      have HW : Hid (Ext w wb) := by unfold Hid; rw [← hwb]; exact inferInstance
      rw [hwb]
      clear hwb
      have p0 : wb.cell? ⟨w.heap.size, 0, none⟩ = some (.int .i64 3) := at_cell HC.out.p 0
      have p1 : wb.cell? ⟨w.heap.size, 1, none⟩ = some (.int .i64 id) := at_cell HC.out.p 1
      have p2 : wb.cell? ⟨w.heap.size, 2, none⟩ = some (.slice A n c) := at_cell HC.out.p 2
      go_wp2_with fail
      refine (isByte_yes id HD.out _).mono ?_
      rintro e w1 ⟨rfl, rfl⟩
      have c1 := HC.out.sa (by omega) (by omega) (by omega) false
      have c2 := c1.sb (by omega) (by omega) (by omega) ⟨#[]⟩
      have c3 := c2.se (by omega) (by omega) (by omega) 0
      have q1 : wb.cell? ⟨w.heap.size + 1, 0, none⟩ = some (.bool false) := at_cell HC.out.a 0
      have f1 := at_frozen HC.out.a 0
      have q2 := at_cell c1.b 0
      have f2 := at_frozen c1.b 0
      have q3 := at_cell c2.e 0
      have f3 := at_frozen c2.e 0
      simp only [List.getElem?_toArray, List.getElem?_cons_zero] at q2 q3
      have HC3 := Lib.hid c3
      have HBB : Hid (Below w.heap.size w (((wb.setCell ⟨w.heap.size + 1, 0, none⟩ (.bool false)).setCell ⟨w.heap.size + 1 + 1, 0, none⟩ (.string ⟨#[]⟩)).setCell ⟨w.heap.size + 1 + 1 + 1, 0, none⟩ (.int .i64 0))) :=
        ((HW.out.out.setCell (p := ⟨w.heap.size + 1, 0, none⟩) (by show _ ≤ w.heap.size + 1; omega) _).setCell (p := ⟨w.heap.size + 1 + 1, 0, none⟩) (by show _ ≤ w.heap.size + 1 + 1; omega) _).setCell (p := ⟨w.heap.size + 1 + 1 + 1, 0, none⟩) (by show _ ≤ w.heap.size + 1 + 1 + 1; omega) _
      clear c1 c2 c3
      go_wp2
      unfold bodyPostD
      show Leaves _ _ _ _ [] .returning _
      exact ⟨_, results_ccc Try.results63 _ _ ⟨w.heap.size + 1, 0, none⟩ ⟨w.heap.size + 1 + 1, 0, none⟩ ⟨w.heap.size + 1 + 1 + 1, 0, none⟩ (.bool false) (.string ⟨#[]⟩) (.int .i64 0) rfl rfl rfl (run_loadVar_bool Try.underlying4 (at_cell HC3.out.a 0)) (run_loadVar_str Try.underlying9 (at_cell HC3.out.b 0)) (run_loadVar_int Try.underlying35 (at_cell HC3.out.e 0)), ra_tells (q := []) HF.out, HBB.out⟩
    have HN0 : Hid (0 < n) := by unfold Hid; rw [← Hn.out]; simp
    have hnz : ((n : Int) == 0) = false := by have := HN0.out; simp; omega
    have HF0 : Hid (raF 3 id (x0 :: xs) = match partF (x0 :: xs) with
        | none => ((false, []), 8)
        | some (p, r) => if r ≠ [] ∨ plainF p = false then ((false, []), 3) else ((false, p), 0)) := by unfold Hid raF; rw [if_neg HD.out, if_neg (by simp), if_neg (by simp)]; rfl
    obtain ⟨ys, hys⟩ : ∃ ys, x0 :: xs = ys := ⟨_, rfl⟩
    rw [hys] at Hn HX HB HF0 ⊢
    clear hys
    rcases hp1 : partF ys with _ | ⟨p, r⟩
    · have HF : Hid (raF 3 id ys = ((false, []), 8)) := by have h := HF0.out; rw [hp1] at h; exact h
      have HPF := Lib.hid hp1
      clear hp1
      go_enter_defers Try.func63, Try.ntmps63
      go_upto_region 1 with fail
      obtain ⟨wb, hwb⟩ : ∃ wb, (((w.alloc (.cells #[.int .i64 3, .int .i64 id, .slice A n c] 43)).alloc (.cells #[.bool false] 4)).alloc (.cells #[.string ⟨#[]⟩] 9)).alloc (.cells #[.int .i64 0] 35) = wb := ⟨_, rfl⟩
      have HC : Hid (A3 wb w.heap.size (w.heap.size + 1 + 1 + 1) (w.heap.size + 1) (w.heap.size + 1 + 1) 3 id A n c 0 false ⟨#[]⟩) := by
        unfold Hid
        rw [← hwb]
        exact ⟨at_ext (at_new w _), at_new1 (by simp), at_ext (w := (w.alloc (.cells #[.int .i64 3, .int .i64 id, .slice A n c] 43)).alloc (.cells #[.bool false] 4)) (at_new1 (by simp)), at_ext (w := ((w.alloc (.cells #[.int .i64 3, .int .i64 id, .slice A n c] 43)).alloc (.cells #[.bool false] 4)).alloc (.cells #[.string ⟨#[]⟩] 9)) (at_new1 (by simp))⟩
      have HW : Hid (Ext w wb) := by unfold Hid; rw [← hwb]; exact inferInstance
      rw [hwb]
      clear hwb
      have p0 : wb.cell? ⟨w.heap.size, 0, none⟩ = some (.int .i64 3) := at_cell HC.out.p 0
      have p1 : wb.cell? ⟨w.heap.size, 1, none⟩ = some (.int .i64 id) := at_cell HC.out.p 1
      have p2 : wb.cell? ⟨w.heap.size, 2, none⟩ = some (.slice A n c) := at_cell HC.out.p 2
      go_wp2_with fail
      refine (isByte_yes id HD.out _).mono ?_
      rintro e w1 ⟨rfl, rfl⟩
      go_wp2_with fail
      refine (part_any A n c ys Hn.out hn' hnc HB.out _ (by have := HW.out; exact HX.out.ext)).mono ?_
      rintro e w2 ⟨hb2, he2⟩
      rw [HPF.out] at he2
      simp only at he2
      have X2 : Ext wb w2 := ⟨hb2⟩
      have HC2 := Lib.hid (HC.out.ext (w' := w2))
      have HW2 : Hid (Ext w w2) := Ext.trans_ HW.out X2
      clear hb2 p0 p1 p2
      subst he2
      go_wp2_with fail
      refine leaves_cons (f := 110) (args := #[.pointer (some ⟨w.heap.size + 1 + 1 + 1, 0, none⟩)]) (by simp) (by simp [go_sem]) ?_
      refine (told_panicking 0 (w.heap.size + 1 + 1 + 1) _ HC2.out.e).mono ?_
      rintro e u' wy ⟨rfl, rfl, hEy, hby⟩
      have hCy := A3.but HC2.out hby (by omega) (by omega) (by omega) 8 hEy
      have hBy : Ext w wy := hby.ext HW2.out (by omega)
      show Leaves _ _ _ _ [_] .returning _
      refine leaves_cons (f := 112) (args := #[.pointer (some ⟨w.heap.size + 1 + 1 + 1, 0, none⟩), .pointer (some ⟨w.heap.size + 1, 0, none⟩), .pointer (some ⟨w.heap.size + 1 + 1, 0, none⟩)]) (by simp) (by simp [go_sem]) ?_
      refine (emptyA_any .returning w.heap.size (w.heap.size + 1 + 1 + 1) (w.heap.size + 1) (w.heap.size + 1 + 1) 3 id A n c 8 false ⟨#[]⟩ _ hCy (by omega) (by omega) (by omega) (by omega) (by omega)).mono ?_
      rintro e u' wz ⟨rfl, rfl, hCz, hbz⟩
      show Leaves _ _ _ _ [] .returning _
      exact ⟨_, results_ccc Try.results63 _ _ ⟨w.heap.size + 1, 0, none⟩ ⟨w.heap.size + 1 + 1, 0, none⟩ ⟨w.heap.size + 1 + 1 + 1, 0, none⟩ (.bool false) (.string ⟨#[]⟩) (.int .i64 8) rfl rfl rfl (run_loadVar_bool Try.underlying4 (at_cell hCz.a 0)) (run_loadVar_str Try.underlying9 (at_cell hCz.b 0)) (run_loadVar_int Try.underlying35 (at_cell hCz.e 0)), ra_tells (q := []) HF.out, hbz _ _ hBy.out (by omega) (by omega)⟩
    have HPF := Lib.hid hp1
    have HPL := Lib.hid (partF_left HB.out hp1)
    have HPS : Hid ((strOfNums p).size ≤ 140737488355328) := by
      unfold Hid
      rw [← strB_len, strB_str _ HPL.out.1]
      have h1 := HPL.out.2
      have h2 := Hn.out
      omega
    clear hp1
    rcases r with _ | ⟨r0, r2⟩
    · rcases hpl : plainF p with _ | _
      · have HF : Hid (raF 3 id ys = ((false, []), 3)) := by have h := HF0.out; rw [HPF.out] at h; exact h.trans (if_pos (.inr hpl))
        have HPP : Hid (plainF (strB (strOfNums p)) = false) := by unfold Hid; rw [strB_str _ HPL.out.1]; exact hpl
        clear hpl
        go_enter_defers Try.func63, Try.ntmps63
        go_upto_region 1 with fail
        obtain ⟨wb, hwb⟩ : ∃ wb, (((w.alloc (.cells #[.int .i64 3, .int .i64 id, .slice A n c] 43)).alloc (.cells #[.bool false] 4)).alloc (.cells #[.string ⟨#[]⟩] 9)).alloc (.cells #[.int .i64 0] 35) = wb := ⟨_, rfl⟩
        have HC : Hid (A3 wb w.heap.size (w.heap.size + 1 + 1 + 1) (w.heap.size + 1) (w.heap.size + 1 + 1) 3 id A n c 0 false ⟨#[]⟩) := by
          unfold Hid
          rw [← hwb]
          exact ⟨at_ext (at_new w _), at_new1 (by simp), at_ext (w := (w.alloc (.cells #[.int .i64 3, .int .i64 id, .slice A n c] 43)).alloc (.cells #[.bool false] 4)) (at_new1 (by simp)), at_ext (w := ((w.alloc (.cells #[.int .i64 3, .int .i64 id, .slice A n c] 43)).alloc (.cells #[.bool false] 4)).alloc (.cells #[.string ⟨#[]⟩] 9)) (at_new1 (by simp))⟩
        have HW : Hid (Ext w wb) := by unfold Hid; rw [← hwb]; exact inferInstance
        rw [hwb]
        clear hwb
        have p0 : wb.cell? ⟨w.heap.size, 0, none⟩ = some (.int .i64 3) := at_cell HC.out.p 0
        have p1 : wb.cell? ⟨w.heap.size, 1, none⟩ = some (.int .i64 id) := at_cell HC.out.p 1
        have p2 : wb.cell? ⟨w.heap.size, 2, none⟩ = some (.slice A n c) := at_cell HC.out.p 2
        go_wp2_with fail
        refine (isByte_yes id HD.out _).mono ?_
        rintro e w1 ⟨rfl, rfl⟩
        go_wp2_with fail
        refine (part_any A n c ys Hn.out hn' hnc HB.out _ (by have := HW.out; exact HX.out.ext)).mono ?_
        rintro e w2 ⟨hb2, he2⟩
        rw [HPF.out] at he2
        simp only at he2
        have X2 : Ext wb w2 := ⟨hb2⟩
        have HC2 := Lib.hid (HC.out.ext (w' := w2))
        have HW2 : Hid (Ext w w2) := Ext.trans_ HW.out X2
        clear hb2 p0 p1 p2
        obtain ⟨A2, c2, rfl, hrc, hC2⟩ := he2
        clear hC2
        have c3 := HC2.out.sb (by omega) (by omega) (by omega) (strOfNums p)
        have HC3 := Lib.hid c3
        have q1 := at_cell HC2.out.b 0
        have f1 := at_frozen HC2.out.b 0
        have q2 := at_cell c3.b 0
        simp only [List.getElem?_toArray, List.getElem?_cons_zero] at q1 q2
        have HW3 : Hid (Below w.heap.size w (w2.setCell ⟨w.heap.size + 1 + 1, 0, none⟩ (.string (strOfNums p)))) := HW2.out.out.setCell (p := ⟨w.heap.size + 1 + 1, 0, none⟩) (by show _ ≤ w.heap.size + 1 + 1; omega) _
        clear c3
        go_wp2_with fail
        refine (plain_any12 (strOfNums p) HPS.out _).mono ?_
        rintro e w4 ⟨rfl, hb4⟩
        have X4 : Ext (w2.setCell ⟨w.heap.size + 1 + 1, 0, none⟩ (.string (strOfNums p))) w4 := ⟨hb4⟩
        rw [HPP.out]
        have c4 := HC3.out.ext (w' := w4)
        have HC4 := Lib.hid c4
        have HW4 : Hid (Below w.heap.size w w4) := (Ext.trans_ (⟨HW3.out⟩ : Ext w _) X4).out
        have r3 := at_cell c4.e 0
        have f3 := at_frozen c4.e 0
        simp only [List.getElem?_toArray, List.getElem?_cons_zero] at r3
        clear c4 hb4
        go_upto_region 12 with fail
        obtain ⟨w5, hw5⟩ : ∃ w5, w4.setCell ⟨w.heap.size + 1 + 1 + 1, 0, none⟩ (.int .i64 3) = w5 := ⟨_, rfl⟩
        have HC5 : Hid (A3 w5 w.heap.size (w.heap.size + 1 + 1 + 1) (w.heap.size + 1) (w.heap.size + 1 + 1) 3 id A n c 3 false (strOfNums p)) := by unfold Hid; rw [← hw5]; exact HC4.out.se (by omega) (by omega) (by omega) _
        have HW5 : Hid (Below w.heap.size w w5) := by unfold Hid; rw [← hw5]; exact HW4.out.setCell (p := ⟨w.heap.size + 1 + 1 + 1, 0, none⟩) (by show _ ≤ w.heap.size + 1 + 1 + 1; omega) _
        rw [hw5]
        clear hw5
        clear r3 f3 q1 f1 q2
        have c0 : A3 w5.drew _ _ _ _ _ _ _ _ _ _ _ _ := HC5.out.ext
        have c1 := c0.sa (by omega) (by omega) (by omega) false
        have c2 := c1.sb (by omega) (by omega) (by omega) (strOfNums p)
        have c3' := c2.se (by omega) (by omega) (by omega) 3
        have b0 : Below w.heap.size w w5.drew := ((⟨HW5.out⟩ : Ext w w5).trans_ inferInstance).out
        have b1 : Below w.heap.size w (w5.drew.setCell ⟨w.heap.size + 1, 0, none⟩ (.bool false)) := b0.setCell (p := ⟨w.heap.size + 1, 0, none⟩) (by show _ ≤ w.heap.size + 1; omega) _
        have b2 : Below w.heap.size w ((w5.drew.setCell ⟨w.heap.size + 1, 0, none⟩ (.bool false)).setCell ⟨w.heap.size + 1 + 1, 0, none⟩ (.string (strOfNums p))) := b1.setCell (p := ⟨w.heap.size + 1 + 1, 0, none⟩) (by show _ ≤ w.heap.size + 1 + 1; omega) _
        have b3 : Below w.heap.size w (((w5.drew.setCell ⟨w.heap.size + 1, 0, none⟩ (.bool false)).setCell ⟨w.heap.size + 1 + 1, 0, none⟩ (.string (strOfNums p))).setCell ⟨w.heap.size + 1 + 1 + 1, 0, none⟩ (.int .i64 3)) := b2.setCell (p := ⟨w.heap.size + 1 + 1 + 1, 0, none⟩) (by show _ ≤ w.heap.size + 1 + 1 + 1; omega) _
        have r1 := at_cell HC5.out.a 0
        have f1 := at_frozen HC5.out.a 0
        have r2' := at_cell HC5.out.b 0
        have f2 := at_frozen HC5.out.b 0
        have r3 := at_cell HC5.out.e 0
        have f3 := at_frozen HC5.out.e 0
        simp only [List.getElem?_toArray, List.getElem?_cons_zero] at r1 r2' r3
        have HC7 := Lib.hid c3'
        have HW7 := Lib.hid b3
        have HK0 := Lib.hid c0
        have HK1 := Lib.hid c1
        have HK2 := Lib.hid c2
        have HL1 := Lib.hid b1
        have HL2 := Lib.hid b2
        refine wp_region_noPanic ?_
        refine wp_region_held_drew (S := fun W => (∃ a, A3 W w.heap.size (w.heap.size + 1 + 1 + 1) (w.heap.size + 1) (w.heap.size + 1 + 1) 3 id A n c 3 a (strOfNums p)) ∧ Below w.heap.size w W) (by kernel_rfl) ⟨⟨_, c0⟩, b0⟩ (fun hHeld => ?_)
        clear c0 c1 c2 c3' b0 b1 b2 b3
        refine wpAnyH_take (i := 0) (v := ?_) rfl (by kernel_rfl) (by kernel_rfl) (by kernel_rfl) (fun _ _ _ h => h) (Or.inl ⟨by rfl, ?_⟩) hHeld ?_
        rotate_left
        · intro W hS
          obtain ⟨⟨_, hS⟩, _⟩ := hS
          have g0 := at_cell hS.e 0
          have g1 := at_cell hS.p 0
          have g2 := at_cell hS.b 0
          simp only [List.getElem?_toArray, List.getElem?_cons_zero] at g0 g1 g2
          go_simp
          try with_reducible rfl
        simp only [List.getElem_toArray, List.getElem_cons_succ, List.getElem_cons_zero, Act.put, List.setIfInBounds_toArray, List.set_cons_zero, List.set_cons_succ]
        refine wpAnyH_take (i := 1) (v := ?_) rfl (by kernel_rfl) (by kernel_rfl) (by kernel_rfl) (fun _ _ _ h => h) (Or.inl ⟨by rfl, ?_⟩) hHeld ?_
        rotate_left
        · intro W hS
          obtain ⟨⟨_, hS⟩, _⟩ := hS
          have g0 := at_cell hS.e 0
          have g1 := at_cell hS.p 0
          have g2 := at_cell hS.b 0
          simp only [List.getElem?_toArray, List.getElem?_cons_zero] at g0 g1 g2
          go_simp
          try with_reducible rfl
        simp only [List.getElem_toArray, List.getElem_cons_succ, List.getElem_cons_zero, Act.put, List.setIfInBounds_toArray, List.set_cons_zero, List.set_cons_succ]
        refine wpAnyH_take (i := 2) (v := ?_) rfl (by kernel_rfl) (by kernel_rfl) (by kernel_rfl) (fun _ _ _ h => h) (Or.inl ⟨by rfl, ?_⟩) hHeld ?_
        rotate_left
        · intro W hS
          obtain ⟨⟨_, hS⟩, _⟩ := hS
          have g0 := at_cell hS.e 0
          have g1 := at_cell hS.p 0
          have g2 := at_cell hS.b 0
          simp only [List.getElem?_toArray, List.getElem?_cons_zero] at g0 g1 g2
          go_simp
          try with_reducible rfl
        simp only [List.getElem_toArray, List.getElem_cons_succ, List.getElem_cons_zero, Act.put, List.setIfInBounds_toArray, List.set_cons_zero, List.set_cons_succ]
        refine wpAnyH_take (i := 3) (v := ?_) rfl (by kernel_rfl) (by kernel_rfl) (by kernel_rfl) (fun _ _ _ h => h) (Or.inl ⟨by rfl, ?_⟩) hHeld ?_
        rotate_left
        · intro W hS
          obtain ⟨⟨_, hS⟩, _⟩ := hS
          have g0 := at_cell hS.e 0
          have g1 := at_cell hS.p 0
          have g2 := at_cell hS.b 0
          simp only [List.getElem?_toArray, List.getElem?_cons_zero] at g0 g1 g2
          go_simp
          try with_reducible rfl
        simp only [List.getElem_toArray, List.getElem_cons_succ, List.getElem_cons_zero, Act.put, List.setIfInBounds_toArray, List.set_cons_zero, List.set_cons_succ]
        refine wpAnyH_take (i := 4) (v := ?_) rfl (by kernel_rfl) (by kernel_rfl) (by kernel_rfl) (fun _ _ _ h => h) (Or.inl ⟨by rfl, ?_⟩) hHeld ?_
        rotate_left
        · intro W hS
          obtain ⟨⟨_, hS⟩, _⟩ := hS
          have g0 := at_cell hS.e 0
          have g1 := at_cell hS.p 0
          have g2 := at_cell hS.b 0
          simp only [List.getElem?_toArray, List.getElem?_cons_zero] at g0 g1 g2
          go_simp
          try with_reducible rfl
        simp only [List.getElem_toArray, List.getElem_cons_succ, List.getElem_cons_zero, Act.put, List.setIfInBounds_toArray, List.set_cons_zero, List.set_cons_succ]
        refine wpAnyH_ready (rs := [5]) (by kernel_rfl) (by simp) ?_
        refine AllReadyH.cons rfl (fun K hK => ?_) AllReadyH.nil
        rw [if_pos (by rfl)]
        unfold Oper.wp
        go_simp
        clear hHeld
        refine hK.out _ _ ⟨⟨_, HK1.out⟩, HL1.out⟩ (fun hHeld => ?_)
        clear hK K
        try simp only [List.getElem_toArray, List.getElem_cons_succ, List.getElem_cons_zero, Act.put, List.setIfInBounds_toArray, List.set_cons_zero, List.set_cons_succ]
        refine wpAnyH_ready (rs := [6]) (by kernel_rfl) (by simp) ?_
        refine AllReadyH.cons rfl (fun K hK => ?_) AllReadyH.nil
        rw [if_pos (by rfl)]
        unfold Oper.wp
        go_simp
        clear hHeld
        refine hK.out _ _ ⟨⟨_, HK2.out⟩, HL2.out⟩ (fun hHeld => ?_)
        clear hK K
        try simp only [List.getElem_toArray, List.getElem_cons_succ, List.getElem_cons_zero, Act.put, List.setIfInBounds_toArray, List.set_cons_zero, List.set_cons_succ]
        refine wpAnyH_ready (rs := [7]) (by kernel_rfl) (by simp) ?_
        refine AllReadyH.cons rfl (fun K hK => ?_) AllReadyH.nil
        rw [if_pos (by rfl)]
        unfold Oper.wp
        go_simp
        clear hHeld
        refine hK.out _ _ ⟨⟨_, HC7.out⟩, HW7.out⟩ (fun hHeld => ?_)
        clear hK K
        try simp only [List.getElem_toArray, List.getElem_cons_succ, List.getElem_cons_zero, Act.put, List.setIfInBounds_toArray, List.set_cons_zero, List.set_cons_succ]
        refine wpAnyH_done (by kernel_rfl) ?_ _
        clear hHeld
        refine NoPanic.normal ?_
        go_wp2
        unfold bodyPostD
        show Leaves _ _ _ _ [_, _] .returning _
        refine leaves_cons (f := 110) (args := #[.pointer (some ⟨w.heap.size + 1 + 1 + 1, 0, none⟩)]) (by simp) (by simp [go_sem]) ?_
        refine (told_idle (w.heap.size + 1 + 1 + 1) _).mono ?_
        rintro e u' wy ⟨rfl, rfl, hby⟩
        have hCy : A3 wy w.heap.size (w.heap.size + 1 + 1 + 1) (w.heap.size + 1) (w.heap.size + 1 + 1) 3 id A n c 3 false (strOfNums p) := A3.ext (h := ⟨hby⟩) HC7.out
        have hBy : Below w.heap.size w wy := (Ext.trans_ (⟨HW7.out⟩ : Ext w _) ⟨hby⟩).out
        show Leaves _ _ _ _ [_] .returning _
        refine leaves_cons (f := 112) (args := #[.pointer (some ⟨w.heap.size + 1 + 1 + 1, 0, none⟩), .pointer (some ⟨w.heap.size + 1, 0, none⟩), .pointer (some ⟨w.heap.size + 1 + 1, 0, none⟩)]) (by simp) (by simp [go_sem]) ?_
        refine (emptyA_any .returning w.heap.size (w.heap.size + 1 + 1 + 1) (w.heap.size + 1) (w.heap.size + 1 + 1) 3 id A n c 3 false (strOfNums p) _ hCy (by omega) (by omega) (by omega) (by omega) (by omega)).mono ?_
        rintro e u' wz ⟨rfl, rfl, hCz, hbz⟩
        show Leaves _ _ _ _ [] .returning _
        exact ⟨_, results_ccc Try.results63 _ _ ⟨w.heap.size + 1, 0, none⟩ ⟨w.heap.size + 1 + 1, 0, none⟩ ⟨w.heap.size + 1 + 1 + 1, 0, none⟩ (.bool false) (.string ⟨#[]⟩) (.int .i64 3) rfl rfl rfl (run_loadVar_bool Try.underlying4 (at_cell hCz.a 0)) (run_loadVar_str Try.underlying9 (at_cell hCz.b 0)) (run_loadVar_int Try.underlying35 (at_cell hCz.e 0)), ra_tells (q := []) HF.out, hbz _ _ hBy (by omega) (by omega)⟩
      · have HF : Hid (raF 3 id ys = ((false, p), 0)) := by have h := HF0.out; rw [HPF.out] at h; exact h.trans (if_neg (by rintro (h | h); exact h rfl; rw [hpl] at h; cases h))
        have HPP : Hid (plainF (strB (strOfNums p)) = true) := by unfold Hid; rw [strB_str _ HPL.out.1]; exact hpl
        clear hpl
        go_enter_defers Try.func63, Try.ntmps63
        go_upto_region 1 with fail
        obtain ⟨wb, hwb⟩ : ∃ wb, (((w.alloc (.cells #[.int .i64 3, .int .i64 id, .slice A n c] 43)).alloc (.cells #[.bool false] 4)).alloc (.cells #[.string ⟨#[]⟩] 9)).alloc (.cells #[.int .i64 0] 35) = wb := ⟨_, rfl⟩
        have HC : Hid (A3 wb w.heap.size (w.heap.size + 1 + 1 + 1) (w.heap.size + 1) (w.heap.size + 1 + 1) 3 id A n c 0 false ⟨#[]⟩) := by
          unfold Hid
          rw [← hwb]
          exact ⟨at_ext (at_new w _), at_new1 (by simp), at_ext (w := (w.alloc (.cells #[.int .i64 3, .int .i64 id, .slice A n c] 43)).alloc (.cells #[.bool false] 4)) (at_new1 (by simp)), at_ext (w := ((w.alloc (.cells #[.int .i64 3, .int .i64 id, .slice A n c] 43)).alloc (.cells #[.bool false] 4)).alloc (.cells #[.string ⟨#[]⟩] 9)) (at_new1 (by simp))⟩
        have HW : Hid (Ext w wb) := by unfold Hid; rw [← hwb]; exact inferInstance
        rw [hwb]
        clear hwb
        have p0 : wb.cell? ⟨w.heap.size, 0, none⟩ = some (.int .i64 3) := at_cell HC.out.p 0
        have p1 : wb.cell? ⟨w.heap.size, 1, none⟩ = some (.int .i64 id) := at_cell HC.out.p 1
        have p2 : wb.cell? ⟨w.heap.size, 2, none⟩ = some (.slice A n c) := at_cell HC.out.p 2
        go_wp2_with fail
        refine (isByte_yes id HD.out _).mono ?_
        rintro e w1 ⟨rfl, rfl⟩
        go_wp2_with fail
        refine (part_any A n c ys Hn.out hn' hnc HB.out _ (by have := HW.out; exact HX.out.ext)).mono ?_
        rintro e w2 ⟨hb2, he2⟩
        rw [HPF.out] at he2
        simp only at he2
        have X2 : Ext wb w2 := ⟨hb2⟩
        have HC2 := Lib.hid (HC.out.ext (w' := w2))
        have HW2 : Hid (Ext w w2) := Ext.trans_ HW.out X2
        clear hb2 p0 p1 p2
        obtain ⟨A2, c2, rfl, hrc, hC2⟩ := he2
        clear hC2
        have c3 := HC2.out.sb (by omega) (by omega) (by omega) (strOfNums p)
        have HC3 := Lib.hid c3
        have q1 := at_cell HC2.out.b 0
        have f1 := at_frozen HC2.out.b 0
        have q2 := at_cell c3.b 0
        simp only [List.getElem?_toArray, List.getElem?_cons_zero] at q1 q2
        have HW3 : Hid (Below w.heap.size w (w2.setCell ⟨w.heap.size + 1 + 1, 0, none⟩ (.string (strOfNums p)))) := HW2.out.out.setCell (p := ⟨w.heap.size + 1 + 1, 0, none⟩) (by show _ ≤ w.heap.size + 1 + 1; omega) _
        clear c3
        go_wp2_with fail
        refine (plain_any12 (strOfNums p) HPS.out _).mono ?_
        rintro e w4 ⟨rfl, hb4⟩
        have X4 : Ext (w2.setCell ⟨w.heap.size + 1 + 1, 0, none⟩ (.string (strOfNums p))) w4 := ⟨hb4⟩
        rw [HPP.out]
        have HC4 := Lib.hid (HC3.out.ext (w' := w4))
        have HW4 : Hid (Below w.heap.size w w4) := (Ext.trans_ (⟨HW3.out⟩ : Ext w _) X4).out
        clear hb4
        go_upto_region 12 with fail
        obtain ⟨w5, hw5⟩ : ∃ w5, w4 = w5 := ⟨_, rfl⟩
        have HC5 : Hid (A3 w5 w.heap.size (w.heap.size + 1 + 1 + 1) (w.heap.size + 1) (w.heap.size + 1 + 1) 3 id A n c 0 false (strOfNums p)) := by unfold Hid; rw [← hw5]; exact HC4.out
        have HW5 : Hid (Below w.heap.size w w5) := by unfold Hid; rw [← hw5]; exact HW4.out
        rw [hw5]
        clear hw5
        clear q1 f1 q2
        have c0 : A3 w5.drew _ _ _ _ _ _ _ _ _ _ _ _ := HC5.out.ext
        have c1 := c0.sa (by omega) (by omega) (by omega) false
        have c2 := c1.sb (by omega) (by omega) (by omega) (strOfNums p)
        have c3' := c2.se (by omega) (by omega) (by omega) 0
        have b0 : Below w.heap.size w w5.drew := ((⟨HW5.out⟩ : Ext w w5).trans_ inferInstance).out
        have b1 : Below w.heap.size w (w5.drew.setCell ⟨w.heap.size + 1, 0, none⟩ (.bool false)) := b0.setCell (p := ⟨w.heap.size + 1, 0, none⟩) (by show _ ≤ w.heap.size + 1; omega) _
        have b2 : Below w.heap.size w ((w5.drew.setCell ⟨w.heap.size + 1, 0, none⟩ (.bool false)).setCell ⟨w.heap.size + 1 + 1, 0, none⟩ (.string (strOfNums p))) := b1.setCell (p := ⟨w.heap.size + 1 + 1, 0, none⟩) (by show _ ≤ w.heap.size + 1 + 1; omega) _
        have b3 : Below w.heap.size w (((w5.drew.setCell ⟨w.heap.size + 1, 0, none⟩ (.bool false)).setCell ⟨w.heap.size + 1 + 1, 0, none⟩ (.string (strOfNums p))).setCell ⟨w.heap.size + 1 + 1 + 1, 0, none⟩ (.int .i64 0)) := b2.setCell (p := ⟨w.heap.size + 1 + 1 + 1, 0, none⟩) (by show _ ≤ w.heap.size + 1 + 1 + 1; omega) _
        have r1 := at_cell HC5.out.a 0
        have f1 := at_frozen HC5.out.a 0
        have r2' := at_cell HC5.out.b 0
        have f2 := at_frozen HC5.out.b 0
        have r3 := at_cell HC5.out.e 0
        have f3 := at_frozen HC5.out.e 0
        simp only [List.getElem?_toArray, List.getElem?_cons_zero] at r1 r2' r3
        have HC7 := Lib.hid c3'
        have HW7 := Lib.hid b3
        have HK0 := Lib.hid c0
        have HK1 := Lib.hid c1
        have HK2 := Lib.hid c2
        have HL1 := Lib.hid b1
        have HL2 := Lib.hid b2
        refine wp_region_noPanic ?_
        refine wp_region_held_drew (S := fun W => (∃ a, A3 W w.heap.size (w.heap.size + 1 + 1 + 1) (w.heap.size + 1) (w.heap.size + 1 + 1) 3 id A n c 0 a (strOfNums p)) ∧ Below w.heap.size w W) (by kernel_rfl) ⟨⟨_, c0⟩, b0⟩ (fun hHeld => ?_)
        clear c0 c1 c2 c3' b0 b1 b2 b3
        refine wpAnyH_take (i := 0) (v := ?_) rfl (by kernel_rfl) (by kernel_rfl) (by kernel_rfl) (fun _ _ _ h => h) (Or.inl ⟨by rfl, ?_⟩) hHeld ?_
        rotate_left
        · intro W hS
          obtain ⟨⟨_, hS⟩, _⟩ := hS
          have g0 := at_cell hS.e 0
          have g1 := at_cell hS.p 0
          have g2 := at_cell hS.b 0
          simp only [List.getElem?_toArray, List.getElem?_cons_zero] at g0 g1 g2
          go_simp
          try with_reducible rfl
        simp only [List.getElem_toArray, List.getElem_cons_succ, List.getElem_cons_zero, Act.put, List.setIfInBounds_toArray, List.set_cons_zero, List.set_cons_succ]
        refine wpAnyH_take (i := 1) (v := ?_) rfl (by kernel_rfl) (by kernel_rfl) (by kernel_rfl) (fun _ _ _ h => h) (Or.inl ⟨by rfl, ?_⟩) hHeld ?_
        rotate_left
        · intro W hS
          obtain ⟨⟨_, hS⟩, _⟩ := hS
          have g0 := at_cell hS.e 0
          have g1 := at_cell hS.p 0
          have g2 := at_cell hS.b 0
          simp only [List.getElem?_toArray, List.getElem?_cons_zero] at g0 g1 g2
          go_simp
          try with_reducible rfl
        simp only [List.getElem_toArray, List.getElem_cons_succ, List.getElem_cons_zero, Act.put, List.setIfInBounds_toArray, List.set_cons_zero, List.set_cons_succ]
        refine wpAnyH_take (i := 2) (v := ?_) rfl (by kernel_rfl) (by kernel_rfl) (by kernel_rfl) (fun _ _ _ h => h) (Or.inl ⟨by rfl, ?_⟩) hHeld ?_
        rotate_left
        · intro W hS
          obtain ⟨⟨_, hS⟩, _⟩ := hS
          have g0 := at_cell hS.e 0
          have g1 := at_cell hS.p 0
          have g2 := at_cell hS.b 0
          simp only [List.getElem?_toArray, List.getElem?_cons_zero] at g0 g1 g2
          go_simp
          try with_reducible rfl
        simp only [List.getElem_toArray, List.getElem_cons_succ, List.getElem_cons_zero, Act.put, List.setIfInBounds_toArray, List.set_cons_zero, List.set_cons_succ]
        refine wpAnyH_take (i := 3) (v := ?_) rfl (by kernel_rfl) (by kernel_rfl) (by kernel_rfl) (fun _ _ _ h => h) (Or.inl ⟨by rfl, ?_⟩) hHeld ?_
        rotate_left
        · intro W hS
          obtain ⟨⟨_, hS⟩, _⟩ := hS
          have g0 := at_cell hS.e 0
          have g1 := at_cell hS.p 0
          have g2 := at_cell hS.b 0
          simp only [List.getElem?_toArray, List.getElem?_cons_zero] at g0 g1 g2
          go_simp
          try with_reducible rfl
        simp only [List.getElem_toArray, List.getElem_cons_succ, List.getElem_cons_zero, Act.put, List.setIfInBounds_toArray, List.set_cons_zero, List.set_cons_succ]
        refine wpAnyH_take (i := 4) (v := ?_) rfl (by kernel_rfl) (by kernel_rfl) (by kernel_rfl) (fun _ _ _ h => h) (Or.inl ⟨by rfl, ?_⟩) hHeld ?_
        rotate_left
        · intro W hS
          obtain ⟨⟨_, hS⟩, _⟩ := hS
          have g0 := at_cell hS.e 0
          have g1 := at_cell hS.p 0
          have g2 := at_cell hS.b 0
          simp only [List.getElem?_toArray, List.getElem?_cons_zero] at g0 g1 g2
          go_simp
          try with_reducible rfl
        simp only [List.getElem_toArray, List.getElem_cons_succ, List.getElem_cons_zero, Act.put, List.setIfInBounds_toArray, List.set_cons_zero, List.set_cons_succ]
        refine wpAnyH_ready (rs := [5]) (by kernel_rfl) (by simp) ?_
        refine AllReadyH.cons rfl (fun K hK => ?_) AllReadyH.nil
        rw [if_pos (by rfl)]
        unfold Oper.wp
        go_simp
        clear hHeld
        refine hK.out _ _ ⟨⟨_, HK1.out⟩, HL1.out⟩ (fun hHeld => ?_)
        clear hK K
        try simp only [List.getElem_toArray, List.getElem_cons_succ, List.getElem_cons_zero, Act.put, List.setIfInBounds_toArray, List.set_cons_zero, List.set_cons_succ]
        refine wpAnyH_ready (rs := [6]) (by kernel_rfl) (by simp) ?_
        refine AllReadyH.cons rfl (fun K hK => ?_) AllReadyH.nil
        rw [if_pos (by rfl)]
        unfold Oper.wp
        go_simp
        clear hHeld
        refine hK.out _ _ ⟨⟨_, HK2.out⟩, HL2.out⟩ (fun hHeld => ?_)
        clear hK K
        try simp only [List.getElem_toArray, List.getElem_cons_succ, List.getElem_cons_zero, Act.put, List.setIfInBounds_toArray, List.set_cons_zero, List.set_cons_succ]
        refine wpAnyH_ready (rs := [7]) (by kernel_rfl) (by simp) ?_
        refine AllReadyH.cons rfl (fun K hK => ?_) AllReadyH.nil
        rw [if_pos (by rfl)]
        unfold Oper.wp
        go_simp
        clear hHeld
        refine hK.out _ _ ⟨⟨_, HC7.out⟩, HW7.out⟩ (fun hHeld => ?_)
        clear hK K
        try simp only [List.getElem_toArray, List.getElem_cons_succ, List.getElem_cons_zero, Act.put, List.setIfInBounds_toArray, List.set_cons_zero, List.set_cons_succ]
        refine wpAnyH_done (by kernel_rfl) ?_ _
        clear hHeld
        refine NoPanic.normal ?_
        go_wp2
        unfold bodyPostD
        show Leaves _ _ _ _ [_, _] .returning _
        refine leaves_cons (f := 110) (args := #[.pointer (some ⟨w.heap.size + 1 + 1 + 1, 0, none⟩)]) (by simp) (by simp [go_sem]) ?_
        refine (told_idle (w.heap.size + 1 + 1 + 1) _).mono ?_
        rintro e u' wy ⟨rfl, rfl, hby⟩
        have hCy : A3 wy w.heap.size (w.heap.size + 1 + 1 + 1) (w.heap.size + 1) (w.heap.size + 1 + 1) 3 id A n c 0 false (strOfNums p) := A3.ext (h := ⟨hby⟩) HC7.out
        have hBy : Below w.heap.size w wy := (Ext.trans_ (⟨HW7.out⟩ : Ext w _) ⟨hby⟩).out
        show Leaves _ _ _ _ [_] .returning _
        refine leaves_cons (f := 112) (args := #[.pointer (some ⟨w.heap.size + 1 + 1 + 1, 0, none⟩), .pointer (some ⟨w.heap.size + 1, 0, none⟩), .pointer (some ⟨w.heap.size + 1 + 1, 0, none⟩)]) (by simp) (by simp [go_sem]) ?_
        refine (emptyA_any .returning w.heap.size (w.heap.size + 1 + 1 + 1) (w.heap.size + 1) (w.heap.size + 1 + 1) 3 id A n c 0 false (strOfNums p) _ hCy (by omega) (by omega) (by omega) (by omega) (by omega)).mono ?_
        rintro e u' wz ⟨rfl, rfl, hCz, hbz⟩
        show Leaves _ _ _ _ [] .returning _
        exact ⟨_, results_ccc Try.results63 _ _ ⟨w.heap.size + 1, 0, none⟩ ⟨w.heap.size + 1 + 1, 0, none⟩ ⟨w.heap.size + 1 + 1 + 1, 0, none⟩ (.bool false) (.string (strOfNums p)) (.int .i64 0) rfl rfl rfl (run_loadVar_bool Try.underlying4 (at_cell hCz.a 0)) (run_loadVar_str Try.underlying9 (at_cell hCz.b 0)) (run_loadVar_int Try.underlying35 (at_cell hCz.e 0)), ra_tells HF.out, hbz _ _ hBy (by omega) (by omega)⟩
    · have HF : Hid (raF 3 id ys = ((false, []), 3)) := by have h := HF0.out; rw [HPF.out] at h; exact h.trans (if_pos (.inl (by simp)))
      go_enter_defers Try.func63, Try.ntmps63
      go_upto_region 1 with fail
      obtain ⟨wb, hwb⟩ : ∃ wb, (((w.alloc (.cells #[.int .i64 3, .int .i64 id, .slice A n c] 43)).alloc (.cells #[.bool false] 4)).alloc (.cells #[.string ⟨#[]⟩] 9)).alloc (.cells #[.int .i64 0] 35) = wb := ⟨_, rfl⟩
      have HC : Hid (A3 wb w.heap.size (w.heap.size + 1 + 1 + 1) (w.heap.size + 1) (w.heap.size + 1 + 1) 3 id A n c 0 false ⟨#[]⟩) := by
        unfold Hid
        rw [← hwb]
        exact ⟨at_ext (at_new w _), at_new1 (by simp), at_ext (w := (w.alloc (.cells #[.int .i64 3, .int .i64 id, .slice A n c] 43)).alloc (.cells #[.bool false] 4)) (at_new1 (by simp)), at_ext (w := ((w.alloc (.cells #[.int .i64 3, .int .i64 id, .slice A n c] 43)).alloc (.cells #[.bool false] 4)).alloc (.cells #[.string ⟨#[]⟩] 9)) (at_new1 (by simp))⟩
      have HW : Hid (Ext w wb) := by unfold Hid; rw [← hwb]; exact inferInstance
      rw [hwb]
      clear hwb
      have p0 : wb.cell? ⟨w.heap.size, 0, none⟩ = some (.int .i64 3) := at_cell HC.out.p 0
      have p1 : wb.cell? ⟨w.heap.size, 1, none⟩ = some (.int .i64 id) := at_cell HC.out.p 1
      have p2 : wb.cell? ⟨w.heap.size, 2, none⟩ = some (.slice A n c) := at_cell HC.out.p 2
      go_wp2_with fail
      refine (isByte_yes id HD.out _).mono ?_
      rintro e w1 ⟨rfl, rfl⟩
      go_wp2_with fail
      refine (part_any A n c ys Hn.out hn' hnc HB.out _ (by have := HW.out; exact HX.out.ext)).mono ?_
      rintro e w2 ⟨hb2, he2⟩
      rw [HPF.out] at he2
      simp only at he2
      have X2 : Ext wb w2 := ⟨hb2⟩
      have HC2 := Lib.hid (HC.out.ext (w' := w2))
      have HW2 : Hid (Ext w w2) := Ext.trans_ HW.out X2
      clear hb2 p0 p1 p2
      obtain ⟨A2, c2, rfl, hrc, hC2⟩ := he2
      clear hC2
      have c3 := HC2.out.sb (by omega) (by omega) (by omega) (strOfNums p)
      have HC3 := Lib.hid c3
      have q1 := at_cell HC2.out.b 0
      have f1 := at_frozen HC2.out.b 0
      have q2 := at_cell c3.b 0
      simp only [List.getElem?_toArray, List.getElem?_cons_zero] at q1 q2
      have HW3 : Hid (Below w.heap.size w (w2.setCell ⟨w.heap.size + 1 + 1, 0, none⟩ (.string (strOfNums p)))) := HW2.out.out.setCell (p := ⟨w.heap.size + 1 + 1, 0, none⟩) (by show _ ≤ w.heap.size + 1 + 1; omega) _
      clear c3
      have r3 := at_cell HC3.out.e 0
      have f3 := at_frozen HC3.out.e 0
      simp only [List.getElem?_toArray, List.getElem?_cons_zero] at r3
      go_upto_region 12 with fail
      obtain ⟨w5, hw5⟩ : ∃ w5, (w2.setCell ⟨w.heap.size + 1 + 1, 0, none⟩ (.string (strOfNums p))).setCell ⟨w.heap.size + 1 + 1 + 1, 0, none⟩ (.int .i64 3) = w5 := ⟨_, rfl⟩
      have HC5 : Hid (A3 w5 w.heap.size (w.heap.size + 1 + 1 + 1) (w.heap.size + 1) (w.heap.size + 1 + 1) 3 id A n c 3 false (strOfNums p)) := by unfold Hid; rw [← hw5]; exact HC3.out.se (by omega) (by omega) (by omega) _
      have HW5 : Hid (Below w.heap.size w w5) := by unfold Hid; rw [← hw5]; exact HW3.out.setCell (p := ⟨w.heap.size + 1 + 1 + 1, 0, none⟩) (by show _ ≤ w.heap.size + 1 + 1 + 1; omega) _
      rw [hw5]
      clear hw5
      clear r3 f3 q1 f1 q2
      have c0 : A3 w5.drew _ _ _ _ _ _ _ _ _ _ _ _ := HC5.out.ext
      have c1 := c0.sa (by omega) (by omega) (by omega) false
      have c2 := c1.sb (by omega) (by omega) (by omega) (strOfNums p)
      have c3' := c2.se (by omega) (by omega) (by omega) 3
      have b0 : Below w.heap.size w w5.drew := ((⟨HW5.out⟩ : Ext w w5).trans_ inferInstance).out
      have b1 : Below w.heap.size w (w5.drew.setCell ⟨w.heap.size + 1, 0, none⟩ (.bool false)) := b0.setCell (p := ⟨w.heap.size + 1, 0, none⟩) (by show _ ≤ w.heap.size + 1; omega) _
      have b2 : Below w.heap.size w ((w5.drew.setCell ⟨w.heap.size + 1, 0, none⟩ (.bool false)).setCell ⟨w.heap.size + 1 + 1, 0, none⟩ (.string (strOfNums p))) := b1.setCell (p := ⟨w.heap.size + 1 + 1, 0, none⟩) (by show _ ≤ w.heap.size + 1 + 1; omega) _
      have b3 : Below w.heap.size w (((w5.drew.setCell ⟨w.heap.size + 1, 0, none⟩ (.bool false)).setCell ⟨w.heap.size + 1 + 1, 0, none⟩ (.string (strOfNums p))).setCell ⟨w.heap.size + 1 + 1 + 1, 0, none⟩ (.int .i64 3)) := b2.setCell (p := ⟨w.heap.size + 1 + 1 + 1, 0, none⟩) (by show _ ≤ w.heap.size + 1 + 1 + 1; omega) _
      have r1 := at_cell HC5.out.a 0
      have f1 := at_frozen HC5.out.a 0
      have r2' := at_cell HC5.out.b 0
      have f2 := at_frozen HC5.out.b 0
      have r3 := at_cell HC5.out.e 0
      have f3 := at_frozen HC5.out.e 0
      simp only [List.getElem?_toArray, List.getElem?_cons_zero] at r1 r2' r3
      have HC7 := Lib.hid c3'
      have HW7 := Lib.hid b3
      have HK0 := Lib.hid c0
      have HK1 := Lib.hid c1
      have HK2 := Lib.hid c2
      have HL1 := Lib.hid b1
      have HL2 := Lib.hid b2
      refine wp_region_noPanic ?_
      refine wp_region_held_drew (S := fun W => (∃ a, A3 W w.heap.size (w.heap.size + 1 + 1 + 1) (w.heap.size + 1) (w.heap.size + 1 + 1) 3 id A n c 3 a (strOfNums p)) ∧ Below w.heap.size w W) (by kernel_rfl) ⟨⟨_, c0⟩, b0⟩ (fun hHeld => ?_)
      clear c0 c1 c2 c3' b0 b1 b2 b3
      refine wpAnyH_take (i := 0) (v := ?_) rfl (by kernel_rfl) (by kernel_rfl) (by kernel_rfl) (fun _ _ _ h => h) (Or.inl ⟨by rfl, ?_⟩) hHeld ?_
      rotate_left
      · intro W hS
        obtain ⟨⟨_, hS⟩, _⟩ := hS
        have g0 := at_cell hS.e 0
        have g1 := at_cell hS.p 0
        have g2 := at_cell hS.b 0
        simp only [List.getElem?_toArray, List.getElem?_cons_zero] at g0 g1 g2
        go_simp
        try with_reducible rfl
      simp only [List.getElem_toArray, List.getElem_cons_succ, List.getElem_cons_zero, Act.put, List.setIfInBounds_toArray, List.set_cons_zero, List.set_cons_succ]
      refine wpAnyH_take (i := 1) (v := ?_) rfl (by kernel_rfl) (by kernel_rfl) (by kernel_rfl) (fun _ _ _ h => h) (Or.inl ⟨by rfl, ?_⟩) hHeld ?_
      rotate_left
      · intro W hS
        obtain ⟨⟨_, hS⟩, _⟩ := hS
        have g0 := at_cell hS.e 0
        have g1 := at_cell hS.p 0
        have g2 := at_cell hS.b 0
        simp only [List.getElem?_toArray, List.getElem?_cons_zero] at g0 g1 g2
        go_simp
        try with_reducible rfl
      simp only [List.getElem_toArray, List.getElem_cons_succ, List.getElem_cons_zero, Act.put, List.setIfInBounds_toArray, List.set_cons_zero, List.set_cons_succ]
      refine wpAnyH_take (i := 2) (v := ?_) rfl (by kernel_rfl) (by kernel_rfl) (by kernel_rfl) (fun _ _ _ h => h) (Or.inl ⟨by rfl, ?_⟩) hHeld ?_
      rotate_left
      · intro W hS
        obtain ⟨⟨_, hS⟩, _⟩ := hS
        have g0 := at_cell hS.e 0
        have g1 := at_cell hS.p 0
        have g2 := at_cell hS.b 0
        simp only [List.getElem?_toArray, List.getElem?_cons_zero] at g0 g1 g2
        go_simp
        try with_reducible rfl
      simp only [List.getElem_toArray, List.getElem_cons_succ, List.getElem_cons_zero, Act.put, List.setIfInBounds_toArray, List.set_cons_zero, List.set_cons_succ]
      refine wpAnyH_take (i := 3) (v := ?_) rfl (by kernel_rfl) (by kernel_rfl) (by kernel_rfl) (fun _ _ _ h => h) (Or.inl ⟨by rfl, ?_⟩) hHeld ?_
      rotate_left
      · intro W hS
        obtain ⟨⟨_, hS⟩, _⟩ := hS
        have g0 := at_cell hS.e 0
        have g1 := at_cell hS.p 0
        have g2 := at_cell hS.b 0
        simp only [List.getElem?_toArray, List.getElem?_cons_zero] at g0 g1 g2
        go_simp
        try with_reducible rfl
      simp only [List.getElem_toArray, List.getElem_cons_succ, List.getElem_cons_zero, Act.put, List.setIfInBounds_toArray, List.set_cons_zero, List.set_cons_succ]
      refine wpAnyH_take (i := 4) (v := ?_) rfl (by kernel_rfl) (by kernel_rfl) (by kernel_rfl) (fun _ _ _ h => h) (Or.inl ⟨by rfl, ?_⟩) hHeld ?_
      rotate_left
      · intro W hS
        obtain ⟨⟨_, hS⟩, _⟩ := hS
        have g0 := at_cell hS.e 0
        have g1 := at_cell hS.p 0
        have g2 := at_cell hS.b 0
        simp only [List.getElem?_toArray, List.getElem?_cons_zero] at g0 g1 g2
        go_simp
        try with_reducible rfl
      simp only [List.getElem_toArray, List.getElem_cons_succ, List.getElem_cons_zero, Act.put, List.setIfInBounds_toArray, List.set_cons_zero, List.set_cons_succ]
      refine wpAnyH_ready (rs := [5]) (by kernel_rfl) (by simp) ?_
      refine AllReadyH.cons rfl (fun K hK => ?_) AllReadyH.nil
      rw [if_pos (by rfl)]
      unfold Oper.wp
      go_simp
      clear hHeld
      refine hK.out _ _ ⟨⟨_, HK1.out⟩, HL1.out⟩ (fun hHeld => ?_)
      clear hK K
      try simp only [List.getElem_toArray, List.getElem_cons_succ, List.getElem_cons_zero, Act.put, List.setIfInBounds_toArray, List.set_cons_zero, List.set_cons_succ]
      refine wpAnyH_ready (rs := [6]) (by kernel_rfl) (by simp) ?_
      refine AllReadyH.cons rfl (fun K hK => ?_) AllReadyH.nil
      rw [if_pos (by rfl)]
      unfold Oper.wp
      go_simp
      clear hHeld
      refine hK.out _ _ ⟨⟨_, HK2.out⟩, HL2.out⟩ (fun hHeld => ?_)
      clear hK K
      try simp only [List.getElem_toArray, List.getElem_cons_succ, List.getElem_cons_zero, Act.put, List.setIfInBounds_toArray, List.set_cons_zero, List.set_cons_succ]
      refine wpAnyH_ready (rs := [7]) (by kernel_rfl) (by simp) ?_
      refine AllReadyH.cons rfl (fun K hK => ?_) AllReadyH.nil
      rw [if_pos (by rfl)]
      unfold Oper.wp
      go_simp
      clear hHeld
      refine hK.out _ _ ⟨⟨_, HC7.out⟩, HW7.out⟩ (fun hHeld => ?_)
      clear hK K
      try simp only [List.getElem_toArray, List.getElem_cons_succ, List.getElem_cons_zero, Act.put, List.setIfInBounds_toArray, List.set_cons_zero, List.set_cons_succ]
      refine wpAnyH_done (by kernel_rfl) ?_ _
      clear hHeld
      refine NoPanic.normal ?_
      go_wp2
      unfold bodyPostD
      show Leaves _ _ _ _ [_, _] .returning _
      refine leaves_cons (f := 110) (args := #[.pointer (some ⟨w.heap.size + 1 + 1 + 1, 0, none⟩)]) (by simp) (by simp [go_sem]) ?_
      refine (told_idle (w.heap.size + 1 + 1 + 1) _).mono ?_
      rintro e u' wy ⟨rfl, rfl, hby⟩
      have hCy : A3 wy w.heap.size (w.heap.size + 1 + 1 + 1) (w.heap.size + 1) (w.heap.size + 1 + 1) 3 id A n c 3 false (strOfNums p) := A3.ext (h := ⟨hby⟩) HC7.out
      have hBy : Below w.heap.size w wy := (Ext.trans_ (⟨HW7.out⟩ : Ext w _) ⟨hby⟩).out
      show Leaves _ _ _ _ [_] .returning _
      refine leaves_cons (f := 112) (args := #[.pointer (some ⟨w.heap.size + 1 + 1 + 1, 0, none⟩), .pointer (some ⟨w.heap.size + 1, 0, none⟩), .pointer (some ⟨w.heap.size + 1 + 1, 0, none⟩)]) (by simp) (by simp [go_sem]) ?_
      refine (emptyA_any .returning w.heap.size (w.heap.size + 1 + 1 + 1) (w.heap.size + 1) (w.heap.size + 1 + 1) 3 id A n c 3 false (strOfNums p) _ hCy (by omega) (by omega) (by omega) (by omega) (by omega)).mono ?_
      rintro e u' wz ⟨rfl, rfl, hCz, hbz⟩
      show Leaves _ _ _ _ [] .returning _
      exact ⟨_, results_ccc Try.results63 _ _ ⟨w.heap.size + 1, 0, none⟩ ⟨w.heap.size + 1 + 1, 0, none⟩ ⟨w.heap.size + 1 + 1 + 1, 0, none⟩ (.bool false) (.string ⟨#[]⟩) (.int .i64 3) rfl rfl rfl (run_loadVar_bool Try.underlying4 (at_cell hCz.a 0)) (run_loadVar_str Try.underlying9 (at_cell hCz.b 0)) (run_loadVar_int Try.underlying35 (at_cell hCz.e 0)), ra_tells (q := []) HF.out, hbz _ _ hBy (by omega) (by omega)⟩
  have HF : Hid (raF code id xs = ((false, []), 90)) := by unfold Hid raF; rw [if_neg h1, if_pos ⟨h2, h3⟩]
  have h2' : (code != 2) = true := by simpa using h2
  have h3' : (code != 3) = true := by simpa using h3
  clear h1 h2 h3
  go_enter_defers Try.func63, Try.ntmps63
  go_upto_region 1 with fail
  obtain ⟨wb, hwb⟩ : ∃ wb, (((w.alloc (.cells #[.int .i64 code, .int .i64 id, .slice A n c] 43)).alloc (.cells #[.bool false] 4)).alloc (.cells #[.string ⟨#[]⟩] 9)).alloc (.cells #[.int .i64 0] 35) = wb := ⟨_, rfl⟩
  have HC : Hid (A3 wb w.heap.size (w.heap.size + 1 + 1 + 1) (w.heap.size + 1) (w.heap.size + 1 + 1) code id A n c 0 false ⟨#[]⟩) := by
    unfold Hid
    rw [← hwb]
    exact ⟨at_ext (at_new w _), at_new1 (by simp), at_ext (w := (w.alloc (.cells #[.int .i64 code, .int .i64 id, .slice A n c] 43)).alloc (.cells #[.bool false] 4)) (at_new1 (by simp)), at_ext (w := ((w.alloc (.cells #[.int .i64 code, .int .i64 id, .slice A n c] 43)).alloc (.cells #[.bool false] 4)).alloc (.cells #[.string ⟨#[]⟩] 9)) (at_new1 (by simp))⟩
  have HW : Hid (Ext w wb) := by unfold Hid; rw [← hwb]; exact inferInstance
  rw [hwb]
  clear hwb
  have p0 : wb.cell? ⟨w.heap.size, 0, none⟩ = some (.int .i64 code) := at_cell HC.out.p 0
  have p1 : wb.cell? ⟨w.heap.size, 1, none⟩ = some (.int .i64 id) := at_cell HC.out.p 1
  have p2 : wb.cell? ⟨w.heap.size, 2, none⟩ = some (.slice A n c) := at_cell HC.out.p 2
  go_wp2_with fail
  refine (isByte_yes id HD.out _).mono ?_
  rintro e w1 ⟨rfl, rfl⟩
  have c1 := HC.out.sa (by omega) (by omega) (by omega) false
  have c2 := c1.sb (by omega) (by omega) (by omega) ⟨#[]⟩
  have c3 := c2.se (by omega) (by omega) (by omega) 90
  have q1 : wb.cell? ⟨w.heap.size + 1, 0, none⟩ = some (.bool false) := at_cell HC.out.a 0
  have f1 := at_frozen HC.out.a 0
  have q2 := at_cell c1.b 0
  have f2 := at_frozen c1.b 0
  have q3 := at_cell c2.e 0
  have f3 := at_frozen c2.e 0
  simp only [List.getElem?_toArray, List.getElem?_cons_zero] at q2 q3
  have HC3 := Lib.hid c3
  have HBB : Hid (Below w.heap.size w (((wb.setCell ⟨w.heap.size + 1, 0, none⟩ (.bool false)).setCell ⟨w.heap.size + 1 + 1, 0, none⟩ (.string ⟨#[]⟩)).setCell ⟨w.heap.size + 1 + 1 + 1, 0, none⟩ (.int .i64 90))) :=
    ((HW.out.out.setCell (p := ⟨w.heap.size + 1, 0, none⟩) (by show _ ≤ w.heap.size + 1; omega) _).setCell (p := ⟨w.heap.size + 1 + 1, 0, none⟩) (by show _ ≤ w.heap.size + 1 + 1; omega) _).setCell (p := ⟨w.heap.size + 1 + 1 + 1, 0, none⟩) (by show _ ≤ w.heap.size + 1 + 1 + 1; omega) _
  clear c1 c2 c3
  go_wp2
  unfold bodyPostD
  show Leaves _ _ _ _ [] .returning _
  exact ⟨_, results_ccc Try.results63 _ _ ⟨w.heap.size + 1, 0, none⟩ ⟨w.heap.size + 1 + 1, 0, none⟩ ⟨w.heap.size + 1 + 1 + 1, 0, none⟩ (.bool false) (.string ⟨#[]⟩) (.int .i64 90) rfl rfl rfl (run_loadVar_bool Try.underlying4 (at_cell HC3.out.a 0)) (run_loadVar_str Try.underlying9 (at_cell HC3.out.b 0)) (run_loadVar_int Try.underlying35 (at_cell HC3.out.e 0)), ra_tells (q := []) HF.out, HBB.out⟩
end Go.Proofs.Ytodibldfolognaa
