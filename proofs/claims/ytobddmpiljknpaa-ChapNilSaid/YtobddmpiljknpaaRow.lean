/-
  THE FRAME OF A LAW's ROW, over any program: what an argument's reading gives, and: a call that answers true and leaves all old memory alone meets the row. No condition beyond the row's own.
-/
import Derived.Test.YtobddmpiljknpaaBase
import Derived.Test.YtobddmpiljknpaaMath
import Derived.WalkKit
import Derived.ProofKit
import Derived.SizedLaws
import Derived.Carry
import Derived.OpenShut
import Derived.ShutString
import Derived.ChangeOld
import Derived.ChangeArms
import Derived.DataReads
import Derived.Deep.CondSized
import Derived.JoinedCond
import Derived.Test.YtobddmpiljknpaaRows
namespace Go.Proofs.Ytobddmpiljknpaa
open Go.ChangeShapes Go.WideShapes Go.ChangeAt Go.RowKit
set_option linter.unusedVariables false
set_option linter.unusedSimpArgs false

/-- What cells of type t tell: they can be read, and no slice in them is greater than memory. -/
def ArgC (U : Nat) (P : Program) (W : World) (t : TypeId) (cs : List Value) : Prop :=
  ∃ (H : Type) (enc : TypeId × Value → H) (fuel : Nat) (d : DataW H) (ps : List MemPlace), DataW.trod enc P W 0 (fun _ => true) true fuel t cs = some (d, ps) ∧ (∀ n ∈ d.weights P t, n ≤ reachBytes) ∧ Rows.uptoBulk d ≤ U
/-- What an argument tells. -/
def Arg (U : Nat) (P : Program) (W : World) (t : TypeId) (v : Value) : Prop := (∃ base, Value.okWide P W .any base t v) ∧ ArgC U P W t v.cells.toList
def Args (U : Nat) (P : Program) (W : World) : List TypeId → List Value → Prop
  | [], [] => True
  | t :: ts, v :: vs => Arg U P W t v ∧ Args U P W ts vs
  | _, _ => False

/-! ### Bulk -/
theorem bulk_part {H : Type} {d : DataW H} {l : List (DataW H)} (h : d ∈ l) : Rows.uptoBulk d ≤ Rows.uptoBulkAll l := by
  induction l with
  | nil => cases h
  | cons x r ih =>
    simp only [Rows.uptoBulkAll]
    rcases List.mem_cons.1 h with rfl | e
    · omega
    · have := ih e
      omega
theorem bulk_pos {H : Type} (d : DataW H) : 1 ≤ Rows.uptoBulk d := by
  cases d with
  | lit l => cases l <;> simp [Rows.uptoBulk]
  | nil => simp [Rows.uptoBulk]
  | ptr d => simp [Rows.uptoBulk]
  | slice elems spare => simp [Rows.uptoBulk]
  | agg parts => simp [Rows.uptoBulk]
  | iface t d => simp [Rows.uptoBulk]
  | map entries => simp [Rows.uptoBulk]
  | held h => simp [Rows.uptoBulk]
theorem bulk_length {H : Type} (l : List (DataW H)) : l.length ≤ Rows.uptoBulkAll l := by
  induction l with
  | nil => simp [Rows.uptoBulkAll]
  | cons x r ih =>
    have := bulk_pos x
    simp only [Rows.uptoBulkAll, List.length_cons]
    omega
theorem ArgC.big {U V : Nat} {P : Program} {W : World} {t : TypeId} {cs : List Value} (h : ArgC U P W t cs) (hU : U ≤ V) : ArgC V P W t cs := by
  obtain ⟨H, enc, fuel, d, ps, h, hw, hk⟩ := h
  exact ⟨H, enc, fuel, d, ps, h, hw, Nat.le_trans hk hU⟩
section
variable {U : Nat} {P : Program} {W : World} {t e : TypeId} {k : IntKind} {v : Value} {cs : List Value}
theorem wf_u8 {n : Int} (h : (Lit.int .u8 n).wf = true) : 0 ≤ n ∧ n < 256 := by
  simp only [Lit.wf, Bool.and_eq_true, decide_eq_true_eq, IntKind.min, IntKind.max, IntKind.signed, IntKind.bits] at h
  simp at h
  omega
theorem wf_u64 {n : Int} (h : (Lit.int .u64 n).wf = true) : 0 ≤ n ∧ n < 18446744073709551616 := by
  simp only [Lit.wf, Bool.and_eq_true, decide_eq_true_eq, IntKind.min, IntKind.max, IntKind.signed, IntKind.bits] at h
  simp at h
  omega
theorem wf_u32 {n : Int} (h : (Lit.int .u32 n).wf = true) : 0 ≤ n ∧ n < 4294967296 := by
  simp only [Lit.wf, Bool.and_eq_true, decide_eq_true_eq, IntKind.min, IntKind.max, IntKind.signed, IntKind.bits] at h
  simp at h
  omega
theorem wf_i64 {n : Int} (h : (Lit.int .i64 n).wf = true) : -9223372036854775808 ≤ n ∧ n ≤ 9223372036854775807 := by
  simp only [Lit.wf, Bool.and_eq_true, decide_eq_true_eq, IntKind.min, IntKind.max, IntKind.signed, IntKind.bits] at h
  simp at h
  omega
theorem ArgC.int (ht : P.underlying t = some (.int k)) (h : ArgC U P W t cs) : ∃ n, cs = [.int k n] ∧ (Lit.int k n).wf = true := by
  obtain ⟨H, enc, fuel, d, ps, h, _⟩ := h
  obtain ⟨n, h1, _, h3⟩ := DataW.trod_int ht h
  exact ⟨n, h1, h3⟩
theorem ArgC.bool (ht : P.underlying t = some .bool) (h : ArgC U P W t cs) : ∃ b, cs = [.bool b] := by
  obtain ⟨H, enc, fuel, d, ps, h, _⟩ := h
  obtain ⟨n, h1, _⟩ := DataW.trod_bool ht h
  exact ⟨n, h1⟩
theorem ArgC.str (ht : P.underlying t = some .string) (h : ArgC U P W t cs) : ∃ s : ByteArray, cs = [.string s] ∧ s.size ≤ 140737488351232 := by
  obtain ⟨H, enc, fuel, d, ps, h, hw, hU⟩ := h
  obtain ⟨s, h1, h2, _⟩ := DataW.trod_string ht h
  simp only [Prod.mk.injEq] at h2
  obtain ⟨rfl, _⟩ := h2
  have := hw s.data.toList.length (by simp [DataW.weights])
  refine ⟨s, h1, ?_⟩
  rw [Array.length_toList] at this
  exact this
theorem Arg.int (ht : P.underlying t = some (.int k)) (h : Arg U P W t v) : ∃ n, v = .int k n ∧ (Lit.int k n).wf = true := by
  obtain ⟨⟨base, hok⟩, h⟩ := h
  obtain ⟨n, rfl⟩ := okWide_int ht hok
  obtain ⟨m, h1, h2⟩ := h.int ht
  simp [Value.cells] at h1
  subst h1
  exact ⟨n, rfl, h2⟩
theorem Arg.bool (ht : P.underlying t = some .bool) (h : Arg U P W t v) : ∃ b, v = .bool b := by
  obtain ⟨⟨base, hok⟩, h⟩ := h
  exact okWide_bool ht hok
theorem Arg.str (ht : P.underlying t = some .string) (h : Arg U P W t v) : ∃ s : ByteArray, v = .string s ∧ s.size ≤ 140737488351232 := by
  obtain ⟨⟨base, hok⟩, h⟩ := h
  obtain ⟨s, rfl⟩ := okWide_string ht hok
  obtain ⟨s', h1, h2⟩ := h.str ht
  simp [Value.cells] at h1
  subst h1
  exact ⟨s, rfl, h2⟩
/-- A slice: its elements, one by one. -/
theorem ArgC.slice (ht : P.underlying t = some (.slice e)) (h : ArgC U P W t cs) : ∃ A n c, cs = [.slice A n c] ∧ n ≤ c ∧ c ≤ 9223372036854775807 ∧ n * P.bytesOf e ≤ 140737488351232 ∧ (A = none → n = 0 ∧ c = 0) ∧
    ∀ i, i < n → ∃ ad es, A = some ad ∧ es.length = P.cellsOf e ∧ (∀ j u, es[j]? = some u → W.cell? (ad.add (i * P.cellsOf e + j)) = some u) ∧ ArgC U P W e es := by
  obtain ⟨H, enc, fuel, d, ps, h, hw, hU⟩ := h
  rcases DataW.trod_slice ht h with ⟨rfl, hd⟩ | ⟨a, len, cap, elems, rest, n, _, rfl, hd, hb, hl, hm, hlen, hel, hsp, hns⟩
  · exact ⟨none, 0, 0, rfl, by omega, by omega, by omega, fun _ => ⟨rfl, rfl⟩, fun i hi => absurd hi (by omega)⟩
  · simp only [Prod.mk.injEq] at hd
    obtain ⟨rfl, rfl⟩ := hd
    have hwn := hw ((elems.length + rest.length) * P.bytesOf e) (by simp [DataW.weights, ht])
    refine ⟨some a, len, cap, rfl, hl, by simpa [maxLen] using hm, ?_, (fun h => by cases h), fun i hi => ?_⟩
    · refine Nat.le_trans (Nat.mul_le_mul_right _ ?_) hwn
      omega
    · have h1 := hel i hi
      have h2 : i < elems.length := by omega
      rw [List.getElem?_eq_getElem h2] at h1
      obtain ⟨es, h3, h4⟩ := Option.bind_eq_some_iff.1 h1
      obtain ⟨_, h5, h6⟩ := World.cells?_some h3
      refine ⟨a, es, rfl, h5, fun j u hu => ?_, H, enc, n, elems[i].1, elems[i].2, h4, fun m hm' => ?_, ?_⟩
      · have hj : j < es.length := (List.getElem?_eq_some_iff.1 hu).1
        have := h6 j (by omega)
        rw [add_of_add, hu] at this
        exact this
      · refine hw m ?_
        simp only [DataW.weights, ht, List.mem_cons, List.mem_append]
        right; left
        have key : ∀ (l : List (DataW H)) (x : DataW H), x ∈ l → ∀ m ∈ x.weights P e, m ∈ DataW.weightsAll P e l := by
          intro l
          induction l with
          | nil => intro x hx; cases hx
          | cons y l ih =>
            intro x hx m hm
            simp only [DataW.weightsAll, List.mem_append]
            rcases List.mem_cons.1 hx with rfl | hx
            · exact .inl hm
            · exact .inr (ih x hx m hm)
        exact key _ elems[i].1 (List.mem_map.2 ⟨elems[i], List.getElem_mem h2, rfl⟩) m hm'
      · have h7 := bulk_part (l := elems.map (·.1)) (List.mem_map.2 ⟨elems[i], List.getElem_mem h2, rfl⟩)
        simp only [Rows.uptoBulk] at hU
        omega
/-- How long a slice is, its spare places counted; how long a text. -/
theorem ArgC.room {A : Option Addr} {n c : Nat} (ht : P.underlying t = some (.slice e)) (h : ArgC U P W t [.slice A n c]) : c ≤ U := by
  obtain ⟨H, enc, fuel, d, ps, h, hw, hU⟩ := h
  rcases DataW.trod_slice ht h with ⟨h1, hd⟩ | ⟨a, len, cap, elems, rest, m, _, h1, hd, hb, hl, hm, hlen, hel, hsp, hns⟩
  · simp at h1
    omega
  · simp at h1
    obtain ⟨_, rfl, rfl⟩ := h1
    simp only [Prod.mk.injEq] at hd
    obtain ⟨rfl, rfl⟩ := hd
    have h2 := (hsp rfl).1
    have h3 := bulk_length (elems.map (·.1))
    have h4 := bulk_length (rest.map (·.1))
    simp only [Rows.uptoBulk, List.length_map] at hU h3 h4
    omega
theorem ArgC.letters {s : ByteArray} (ht : P.underlying t = some .string) (h : ArgC U P W t [.string s]) : s.size ≤ U := by
  obtain ⟨H, enc, fuel, d, ps, h, hw, hU⟩ := h
  obtain ⟨s', h1, h2, _⟩ := DataW.trod_string ht h
  simp at h1
  subst h1
  simp only [Prod.mk.injEq] at h2
  obtain ⟨rfl, _⟩ := h2
  simp only [Rows.uptoBulk, Array.length_toList] at hU
  have : s.size = s.data.size := rfl
  omega
theorem Arg.room {A : Option Addr} {n c : Nat} (ht : P.underlying t = some (.slice e)) (h : Arg U P W t (.slice A n c)) : c ≤ U := ArgC.room ht (by simpa [Value.cells] using h.2)
theorem Arg.letters {s : ByteArray} (ht : P.underlying t = some .string) (h : Arg U P W t (.string s)) : s.size ≤ U := ArgC.letters ht (by simpa [Value.cells] using h.2)
/-- A slice of bytes (of whole numbers of one kind). -/
theorem ArgC.nums (ht : P.underlying t = some (.slice e)) (he : P.underlying e = some (.int k)) (hc : P.cellsOf e = 1) (h : ArgC U P W t cs) :
    ∃ A n c xs, cs = [.slice A n c] ∧ xs.length = n ∧ n ≤ c ∧ c ≤ 9223372036854775807 ∧ n * P.bytesOf e ≤ 140737488351232 ∧ (A = none → n = 0 ∧ c = 0) ∧ Cells W A (nums k xs) ∧ ∀ x ∈ xs, (Lit.int k x).wf = true := by
  obtain ⟨A, n, c, rfl, hnc, hc', hb, hnil, hall⟩ := h.slice ht
  have hex : ∀ i, i < n → ∃ x : Int, (∃ ad, A = some ad ∧ W.cell? (ad.add i) = some (.int k x)) ∧ (Lit.int k x).wf = true := by
    intro i hi
    obtain ⟨ad, es, hA, hl, hcell, harg⟩ := hall i hi
    obtain ⟨x, rfl, hx⟩ := harg.int he
    have := hcell 0 _ rfl
    rw [hc, Nat.mul_one, Nat.add_zero] at this
    exact ⟨x, ⟨ad, hA, this⟩, hx⟩
  have hlist : ∃ xs : List Int, xs.length = n ∧ ∀ i, i < n → (∃ ad, A = some ad ∧ W.cell? (ad.add i) = some (.int k (xs.getD i 0))) ∧ (Lit.int k (xs.getD i 0)).wf = true := by
    clear hall hb hnc hnil h
    induction n with
    | zero => exact ⟨[], rfl, fun i hi => absurd hi (by omega)⟩
    | succ n ih =>
      obtain ⟨xs, hl, hxs⟩ := ih fun i hi => hex i (by omega)
      obtain ⟨x, hx⟩ := hex n (by omega)
      refine ⟨xs ++ [x], by simp [hl], fun i hi => ?_⟩
      rcases Nat.lt_or_ge i n with h | h
      · have : (xs ++ [x]).getD i 0 = xs.getD i 0 := by
          rw [List.getD_eq_getElem?_getD, List.getElem?_append_left (by omega), ← List.getD_eq_getElem?_getD]
        rw [this]
        exact hxs i h
      · obtain rfl : i = n := by omega
        have : (xs ++ [x]).getD i 0 = x := by
          rw [List.getD_eq_getElem?_getD, List.getElem?_append_right (by omega)]
          simp [hl]
        rw [this]
        exact hx
  obtain ⟨xs, hl, hxs⟩ := hlist
  refine ⟨A, n, c, xs, rfl, hl, hnc, hc', hb, hnil, fun hpos => ?_, fun x hx => ?_⟩
  · rw [nums_length] at hpos
    obtain ⟨⟨ad, hA, _⟩, _⟩ := hxs 0 (by omega)
    refine ⟨ad, hA, fun j u hu => ?_⟩
    have hj : j < xs.length := by have := (List.getElem?_eq_some_iff.1 hu).1; rwa [nums_length] at this
    obtain ⟨⟨ad', hA', hcell⟩, _⟩ := hxs j (by omega)
    rw [hA] at hA'
    injection hA' with hA'
    subst hA'
    rw [nums_get _ _ _ hj] at hu
    injection hu with hu
    rw [← hu]
    exact hcell
  · obtain ⟨i, hi, rfl⟩ := List.getElem_of_mem hx
    have := (hxs i (by omega)).2
    rwa [List.getD_eq_getElem?_getD, List.getElem?_eq_getElem hi] at this
theorem Arg.slice_shape (ht : P.underlying t = some (.slice e)) (h : Arg U P W t v) : ∃ A n c, v = .slice A n c := by
  obtain ⟨⟨base, hok⟩, h⟩ := h
  exact okWide_slice ht hok
theorem Arg.bytes (ht : P.underlying t = some (.slice e)) (he : P.underlying e = some (.int .u8)) (hc : P.cellsOf e = 1) (hb : P.bytesOf e = 1) (h : Arg U P W t v) :
    ∃ A n c xs, v = .slice A n c ∧ xs.length = n ∧ n ≤ c ∧ n ≤ 140737488351232 ∧ Cells W A (Proofs.Ytobddmpiljknpaa.nums .u8 xs) ∧ Byt xs := by
  obtain ⟨A', n', c', rfl⟩ := h.slice_shape ht
  obtain ⟨A, n, c, xs, h1, hl, hnc, _, hbb, _, hC, hw⟩ := h.2.nums ht he hc
  simp [Value.cells] at h1
  obtain ⟨rfl, rfl, rfl⟩ := h1
  rw [hb, Nat.mul_one] at hbb
  exact ⟨_, _, _, xs, rfl, hl, hnc, hbb, hC, fun x hx => wf_u8 (hw x hx)⟩
end

theorem args_of {U : Nat} {H : Type} {enc : TypeId × Value → H} {P : Program} {W : World} : ∀ {ts : List TypeId} {vs : List Value} {ds : List (DataW H)} {ps : List MemPlace}, DataW.TrodAll enc P W 0 (fun _ => true) true ts vs ds ps →
    (∀ n ∈ DataW.weightsEach P ts ds, n ≤ reachBytes) → (∀ d ∈ ds, Rows.uptoBulk d ≤ U) → (∀ (j : Nat) t v, ts[j]? = some t → vs[j]? = some v → ∃ base, Value.okWide P W .any base t v) → Args U P W ts vs
  | [], [], [], _, _, _, _, _ => trivial
  | t :: ts, v :: vs, d :: ds, ps, h, hw, hU, hok => by
    obtain ⟨p, q, h0, h1, _⟩ := h
    obtain ⟨fuel, hf⟩ := h0
    refine ⟨⟨hok 0 t v rfl rfl, H, enc, fuel, d, p, hf, fun n hn => hw n ?_, hU d (by simp)⟩, args_of h1 (fun n hn => hw n ?_) (fun x hx => hU x (by simp [hx])) fun j t' v' ht hv => hok (j + 1) t' v' ht hv⟩
    · simp only [DataW.weightsEach, List.mem_append]; exact .inl hn
    · simp only [DataW.weightsEach, List.mem_append]; exact .inr hn

theorem trodAll_below {H : Type} {enc : TypeId × Value → H} {P : Program} (hl : laidOutB P = true) {W W' : World} (hb : Below W.heap.size W W') : ∀ {ts : List TypeId} {vs : List Value} {ds : List (DataW H)} {ps : List MemPlace},
    (∀ t ∈ ts, P.readableRec t = true ∧ t < P.types.size) → DataW.TrodAll enc P W 0 (fun _ => true) true ts vs ds ps → DataW.TrodAll enc P W' 0 (fun b => decide (b < W.heap.size)) true ts vs ds ps
  | [], [], [], _, _, h => h
  | t :: ts, v :: vs, d :: ds, ps, hr, h => by
    obtain ⟨p, q, h0, h1, e⟩ := h
    have ht := hr t (by simp)
    have lt : ∀ x ∈ p, x.block < W.heap.size := by obtain ⟨m, hm⟩ := h0; exact DataW.trod_lt m _ _ _ hm
    exact ⟨p, q, Below.trod hl ht.1 ht.2 h0 hb lt, trodAll_below hl hb (fun t' ht' => hr t' (by simp [ht'])) h1, e⟩

theorem trodAll_len {H : Type} {enc : TypeId × Value → H} {P : Program} {W : World} : ∀ (ts : List TypeId) (vs : List Value) (ds : List (DataW H)) (ps : List MemPlace), DataW.TrodAll enc P W 0 (fun _ => true) true ts vs ds ps → ds.length = ts.length
  | [], [], [], _, _ => rfl
  | t :: ts, v :: vs, d :: ds, ps, ⟨p, q, _, h1, _⟩ => by simp [trodAll_len ts vs ds q h1]
/-- A LAW: whatever comes in, the call answers true and leaves all that was there alone. -/
theorem law_lifted {C : Checked} {os : Os} {f : FuncId} {fn : Func} {s : ChangeSpec} {tb : TypeId} (hl : laidOutB C.prog = true) (own : ownKnob C.prog.godebug = none) (started : os.Started) (noInit : C.prog.inits.idxOf? f = none) (hfn : C.prog.funcs[f]? = some fn)
    (H : Type) (enc : TypeId × Value → H) (hvars : s.vars = []) (hspec : ∀ ds : List (DataW H), ds.length = fn.params.size → (s.fn H ds).results = [.lit (.bool true)] ∧ (s.fn H ds).args = ds ∧ (s.fn H ds).vars = [])
    (hres : fn.resultTypes = #[tb]) (hbool : C.prog.underlying tb = some .bool) (hr : ∀ t ∈ fn.params.toList, C.prog.readableRec t = true ∧ t < C.prog.types.size)
    (witness : ∃ (w : World) (tape : Tape) (i : Input), w.os = os ∧ (w.forCall tape i).Shaped C.prog ∧ i.vars = [] ∧ Input.okWide C.prog (w.forCall tape i) .any w.heap.size f i ∧
      s.pre6 enc C.prog fn [] false (w.forCall tape i).memory i.args ∧ ({} : Assume).holds C.prog (lone (Frame.enter C.prog f i.args .normal) [] (w.forCall tape i)))
    (walk : ∀ (U : Nat) (W : World) (vs : List Value), Args U C.prog W fn.params.toList vs → Calls C.prog f vs.toArray W fun e W' => e = .returned (.bool true) ∧ Below W.heap.size W W') :
    ReturnsInHanded {} C os f .any (s.pre6 enc C.prog fn [] false) (s.post enc C.prog fn false true false false) := by
  refine returnsInHanded_of_change_sized own started noInit hfn witness ?_
  intro W base args ds gs before hval hW _ hsz _
  have hW' := hW
  obtain ⟨p, q, hA, hV, rfl, hfz, hnd⟩ := hW
  rw [hvars] at hV
  obtain ⟨rfl, rfl⟩ := trodVars_none hV
  have hdl : ds.length = fn.params.size := by rw [trodAll_len _ _ _ _ hA]; simp
  obtain ⟨hs1, hs2, hs3⟩ := hspec ds hdl
  have hargs := args_of (U := Rows.uptoBulkAll ds) hA (fun n hn => by
    have h1 := List.all_eq_true.1 hsz n (by
      have e : s.plain.varTypes C.prog = [] := by unfold ChangeSpec.plain; simp [DataSpec.varTypes, hvars]
      rw [e]; simpa using hn)
    simpa using h1) (fun d hd => bulk_part hd) (fun j t v ht hv => ⟨base, hval j t v (by simpa using ht) (by simpa using hv)⟩)
  refine (walk _ W args.toList hargs).mono fun e W' ⟨he, bel⟩ => ?_
  subst he
  refine ⟨_, rfl, ds, [], _, [], p, [], hW', ?_, ?_, ?_, bel.frame _, fun h => by cases h⟩
  · rw [List.append_nil, hs1, hres]
    exact trodAll_mk1 (shut_bool hbool _)
  · rw [List.append_nil, hs2]
    exact trodAll_below hl bel hr hA
  · rw [List.append_nil, hs3, hvars]
    rfl

/-- The same where what comes in is of bulk at most 1048576. -/
theorem law_lifted_upto {C : Checked} {os : Os} {f : FuncId} {fn : Func} {s : ChangeSpec} {tb : TypeId} (hl : laidOutB C.prog = true) (own : ownKnob C.prog.godebug = none) (started : os.Started) (noInit : C.prog.inits.idxOf? f = none) (hfn : C.prog.funcs[f]? = some fn)
    (H : Type) (enc : TypeId × Value → H) (F : Stop.Interp) (hvars : s.vars = []) (hspec : ∀ ds : List (DataW H), ds.length = fn.params.size → (s.fn H ds).results = [.lit (.bool true)] ∧ (s.fn H ds).args = ds ∧ (s.fn H ds).vars = [])
    (hres : fn.resultTypes = #[tb]) (hbool : C.prog.underlying tb = some .bool) (hr : ∀ t ∈ fn.params.toList, C.prog.readableRec t = true ∧ t < C.prog.types.size)
    (witness : ∃ (w : World) (tape : Tape) (i : Input), w.os = os ∧ (w.forCall tape i).Shaped C.prog ∧ i.vars = [] ∧ Input.okWide C.prog (w.forCall tape i) .any w.heap.size f i ∧
      (Rows.OpenSpec.upto s).pre6 enc C.prog fn [] false (w.forCall tape i).memory i.args ∧ ({} : Assume).holds C.prog (lone (Frame.enter C.prog f i.args .normal) [] (w.forCall tape i)))
    (walk : ∀ (W : World) (vs : List Value), Args 1048576 C.prog W fn.params.toList vs → Calls C.prog f vs.toArray W fun e W' => e = .returned (.bool true) ∧ Below W.heap.size W W') :
    ReturnsInHanded {} C os f .any ((Rows.OpenSpec.upto s).pre6 enc C.prog fn [] false) (((Rows.OpenSpec.upto s).at F).post enc C.prog fn false true false false) := by
  refine returnsInHanded_of_cond_sized (s := Rows.OpenSpec.upto s) (k := Rows.uptoSmall) rfl own started noInit hfn witness ?_
  intro W base args ds gs before hval hW _ hk hsz _
  have hW' := hW
  obtain ⟨p, q, hA, hV, rfl, hfz, hnd⟩ := hW
  have hvars' : (Rows.OpenSpec.upto s).vars = [] := hvars
  rw [hvars'] at hV
  obtain ⟨rfl, rfl⟩ := trodVars_none hV
  have hdl : ds.length = fn.params.size := by rw [trodAll_len _ _ _ _ hA]; simp
  obtain ⟨hs1, hs2, hs3⟩ := hspec ds hdl
  have hb : Rows.uptoBulkAll (ds ++ []) ≤ 1048576 := of_decide_eq_true hk
  rw [List.append_nil] at hb
  have hargs := args_of (U := 1048576) hA (fun n hn => by
    have h1 := List.all_eq_true.1 hsz n (by
      have e : (Rows.OpenSpec.upto s).bare.plain.varTypes C.prog = [] := by unfold ChangeSpec.plain; simp [DataSpec.varTypes, OpenSpec.bare, hvars']
      rw [e]; simpa using hn)
    simpa using h1) (fun d hd => Nat.le_trans (bulk_part hd) hb) (fun j t v ht hv => ⟨base, hval j t v (by simpa using ht) (by simpa using hv)⟩)
  refine (walk W args.toList hargs).mono fun e W' ⟨he, bel⟩ => ?_
  subst he
  refine ⟨_, rfl, ds, [], _, [], p, [], hW', ?_, ?_, ?_, bel.frame _, fun h => by cases h⟩
  · rw [List.append_nil, hres]
    show DataW.TrodAll _ _ _ _ _ _ _ _ (s.fn H ds).results _
    rw [hs1]
    exact trodAll_mk1 (shut_bool hbool _)
  · rw [List.append_nil]
    show DataW.TrodAll _ _ _ _ _ _ _ _ (s.fn H ds).args _
    rw [hs2]
    exact trodAll_below hl bel hr hA
  · rw [List.append_nil]
    show DataW.TrodVars _ _ _ _ s.vars (s.fn H ds).vars _
    rw [hs3, hvars]
    rfl
end Go.Proofs.Ytobddmpiljknpaa
