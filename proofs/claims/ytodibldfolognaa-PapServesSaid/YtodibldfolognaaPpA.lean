/-
  pap and secret: texts; what secret.name, pap.plain and the reference's tell. Conditions: the texts are no longer than the model's memory.
-/
import Derived.Test.YtodibldfolognaaPpZ
import Derived.Lib.ConvBytes
import Derived.Lib.AppendStr
namespace Go.Proofs.Ytodibldfolognaa
open Go.RowKit
set_option linter.unusedVariables false
set_option linter.unusedSimpArgs false

/-- A text's bytes. -/
def strB (s : ByteArray) : List Int := s.data.toList.map fun b => (b.toNat : Int)
theorem strB_len (s : ByteArray) : (strB s).length = s.size := by
  rw [strB, List.length_map, Array.length_toList]
  rfl
theorem strB_byt (s : ByteArray) : Byt (strB s) := by
  intro x hx
  simp only [strB, List.mem_map] at hx
  obtain ⟨b, _, rfl⟩ := hx
  have := b.toNat_lt
  omega
theorem strB_cells (s : ByteArray) : Lib.strCells s = nums .u8 (strB s) := by simp [Lib.strCells, nums, strB]
theorem strB_str (xs : List Int) (h : Byt xs) : strB (strOfNums xs) = xs := by
  unfold strB
  rw [strOfNums_data, List.map_map]
  conv => rhs; rw [← List.map_id xs]
  refine List.map_congr_left fun x hx => ?_
  have := h x hx
  simp only [Function.comp_apply, id_eq]
  rw [UInt8.toNat_ofNat']
  omega
theorem conv_str {P : Program} (w : World) (src dst e : TypeId) (s : ByteArray) (hs : P.underlying src = some .string) (hd : P.underlying dst = some (.slice e)) (he : P.underlying e = some (.int .u8)) :
    ∃ w1 c, (convert src dst (.string s)).run P w = .ok (.slice (some ⟨w.heap.size, 0, none⟩) s.size c) w1 ∧ s.size ≤ c ∧ Cells w1 (some ⟨w.heap.size, 0, none⟩) (nums .u8 (strB s)) ∧ Below w.heap.size w w1 ∧ w1.heap.size = w.heap.size + 1 := by
  refine ⟨_, _, Lib.run_convert_string_bytes w src dst e s hs hd he, grownCap_ge w s.size 0 e, ?_, ⟨?_, ?_, ?_, ?_, fun k hk => Lib.bytesWorld_at_old w e s k hk⟩, Lib.bytesWorld_size w e s⟩
  · intro _
    refine ⟨_, rfl, fun j u hu => ?_⟩
    have hj : j < s.size := by have := (List.getElem?_eq_some_iff.1 hu).1; rwa [nums_length, strB_len] at this
    rw [add_plain, Lib.bytesWorld_cell w e s j hj, ← hu, nums_get _ _ _ (by rw [strB_len]; exact hj)]
    simp only [strB, List.getD_eq_getElem?_getD, List.getElem?_map]
    have : j < s.data.toList.length := by rw [Array.length_toList]; exact hj
    rw [List.getElem?_eq_getElem this]
    rfl
  · unfold Lib.bytesWorld World.freeze
    split <;> rfl
  · unfold Lib.bytesWorld World.freeze
    split <;> rfl
  · unfold Lib.bytesWorld World.freeze
    split <;> rfl
  · rw [Lib.bytesWorld_size]
    omega
/-- 'append(v, s...)': v a row of the call's own, s a text. -/
theorem wp_append_str {P : Program} {ops : Array Oper} {rest : List Oper} {o : Oper} {a : Act} {Q : Exit → Act → World → Prop} {w0 W : World} (base : Nat) (hgd : o.guard = none) (s x : Operand) (t u e : TypeId)
    (ho : o.op = .call { callee := .builtin .append, args := #[s, x], argTypes := #[t, u] })
    (ht : P.underlying t = some (.slice e)) (hu : P.underlying u = some .string) (hinfo : (P.info? e).map (fun i => (i.zero, i.size, i.bytes)) = some (some (.int .u8 0), 1, 1))
    (v : Value) (n : Nat) (cs : List Value) (str : ByteArray) (hs : a.eval s = v) (hx : a.eval x = .string str)
    (HO : W.ownsRow base e 1 v n cs) (HB : Below base w0 W) (hbase : base ≤ W.heap.size) (hk : n + str.size ≤ 140737488355328)
    (h : ∀ v1 w1, w1.ownsRow base e 1 v1 (n + str.size) (cs ++ nums .u8 (strB str)) → Below base w0 w1 → W.grownBy w1 v.ownBlock → wpList P ops Q rest (a.put o.dst v1) w1) :
    wpList P ops Q (o :: rest) a W := by
  obtain ⟨i0, hi, hzz⟩ := Option.map_eq_some_iff.1 hinfo
  simp only [Prod.mk.injEq] at hzz
  refine Lib.wpList_append_own_string W hgd s x t u ho base e i0 ht hu hi hzz.1 hzz.2.1 hzz.2.2 v n cs hs HO str hx (by simp only [maxLen]; omega) hk hbase ?_
  intro v1 w1 h2 h3 _
  rw [strB_cells] at h2
  exact h v1 w1 h2 (HB.grown h3 hbase (own_base HO)) h3
/-- What is answered. -/
def okN (c : Int) : Bool := decide (32 ≤ c ∧ c ≤ 126 ∧ c ≠ 34 ∧ c ≠ 92)
def okP (c : Int) : Bool := decide (32 ≤ c ∧ c ≤ 126)
def nameF (xs : List Int) : Bool := decide (1 ≤ xs.length ∧ xs.length ≤ 64) && xs.all okN
def plainF (xs : List Int) : Bool := xs.all okP
theorem all_take_succ {f : Int → Bool} {xs : List Int} {k : Nat} (h : (xs.take k).all f = true) (hk : k < xs.length) (hx : f (xs.getD k 0) = true) : (xs.take (k + 1)).all f = true := by
  rw [List.getD_eq_getElem?_getD, List.getElem?_eq_getElem hk] at hx
  rw [List.take_add_one, List.getElem?_eq_getElem hk, List.all_append, h]
  simpa using hx
theorem all_not {f : Int → Bool} {xs : List Int} {k : Nat} (hk : k < xs.length) (hx : f (xs.getD k 0) = false) : xs.all f = false := by
  rw [List.getD_eq_getElem?_getD, List.getElem?_eq_getElem hk] at hx
  rw [List.all_eq_false]
  exact ⟨xs[k], List.getElem_mem _, by simpa using hx⟩
set_option maxHeartbeats 2000000 in
theorem plain_any12 (s : ByteArray) (hs : s.size ≤ 140737488355328) (w : World) : Calls Try.prog 107 #[.string s] w fun e w' => e = .returned (.bool (plainF (strB s))) ∧ Below w.heap.size w w' := by
  obtain ⟨w1, c1, hcv, hsc, hC1, hB1, hZ1⟩ := conv_str (P := Try.prog) w 9 41 5 s Try.underlying9 Try.underlying41 Try.underlying5
  have HL := Lib.hid (strB_len s)
  have S1 : Step w1 w := ⟨hB1⟩
  have HBY := Lib.hid (strB_byt s)
  obtain ⟨BA, hBA⟩ : ∃ A : Option Addr, some ⟨w.heap.size, 0, none⟩ = A := ⟨_, rfl⟩
  rw [hBA] at hcv hC1
  have HC := Lib.hid hC1
  clear hC1 hB1 hZ1 hsc hBA
  obtain ⟨xs, hxs⟩ : ∃ xs, strB s = xs := ⟨_, rfl⟩
  rw [hxs] at HL HC HBY ⊢
  clear hxs
  obtain ⟨n, hn⟩ : ∃ n, s.size = n := ⟨_, rfl⟩
  rw [hn] at hs hcv HL
  have HN := Lib.hid hn
  clear hn
  go_enter Try.func107, Try.ntmps107
  go_wp2
  clear hcv
  go_loopw [8] (fun i wr => ∃ k : Nat, i = .int .i64 k ∧ k ≤ n ∧ Hid ((xs.take k).all okP = true) ∧ Hid (Ext w1 wr)) (fun i _ => n - (intOf i).toNat)
  case atStart => exact ⟨0, rfl, by omega, rfl, (inferInstance : Ext w1 w1)⟩
  case round =>
    obtain ⟨k, rfl, hk, HA, HW⟩ := hrel
    have Sr : Step wr w1 := ⟨HW.out.out⟩
    by_cases hlt : k < n
    · obtain ⟨ad, rfl, hc⟩ := (HC.out.ext (w' := wr)).num (by rw [HL.out]; exact hlt)
      have HLT := Lib.hid (show k < xs.length by rw [HL.out]; exact hlt)
      obtain ⟨X, hX⟩ : ∃ X, xs.getD k 0 = X := ⟨_, rfl⟩
      rw [hX] at hc
      have HX := Lib.hid hX
      clear hX
      by_cases p1 : X < 32
      · skip
        have HF : Hid (plainF xs = false) := all_not HLT.out (by rw [HX.out]; unfold okP; exact decide_eq_false (by omega))
        go_wp2
        go_ret
        exact ⟨ret_bool HF.out.symm, Ext.out⟩
      by_cases p2 : 126 < X
      · skip
        have HF : Hid (plainF xs = false) := all_not HLT.out (by rw [HX.out]; unfold okP; exact decide_eq_false (by omega))
        go_wp2
        go_ret
        exact ⟨ret_bool HF.out.symm, Ext.out⟩
      have HA2 := Lib.hid (all_take_succ HA.out HLT.out (by rw [HX.out]; unfold okP; exact decide_eq_true (by omega)))
      go_wp2
      go_roundw
      case rel => exact ⟨k + 1, by go_num, by omega, HA2.out, (inferInstance : Ext w1 _)⟩
      case measure => simp [intOf]; omega
    · obtain rfl : k = n := by omega
      have HF : Hid (plainF xs = true) := by
        have h1 := HA.out
        rw [List.take_of_length_le (by rw [HL.out]; exact Nat.le_refl _)] at h1
        exact h1
      go_wp2
      go_ret
      exact ⟨ret_bool HF.out.symm, Ext.out⟩
set_option maxHeartbeats 4000000 in
theorem name_any (s : ByteArray) (hs : s.size ≤ 140737488355328) (w : World) : Calls Try.prog 128 #[.string s] w fun e w' => e = .returned (.bool (nameF (strB s))) ∧ Below w.heap.size w w' := by
  by_cases l1 : s.size < 1
  · have HF : Hid (nameF (strB s) = false) := by unfold Hid nameF; rw [decide_eq_false (by rw [strB_len]; omega)]; rfl
    have l1I : (s.size : Int) < 1 := by omega
    go_enter Try.func128, Try.ntmps128
    go_wp2
    go_ret
    exact ⟨ret_bool HF.out.symm, Ext.out⟩
  by_cases l2 : 64 < s.size
  · have HF : Hid (nameF (strB s) = false) := by unfold Hid nameF; rw [decide_eq_false (by rw [strB_len]; omega)]; rfl
    have l1I : ¬ (s.size : Int) < 1 := by omega
    have l2I : 64 < (s.size : Int) := by omega
    go_enter Try.func128, Try.ntmps128
    go_wp2
    go_ret
    exact ⟨ret_bool HF.out.symm, Ext.out⟩
  obtain ⟨w1, c1, hcv, hsc, hC1, hB1, hZ1⟩ := conv_str (P := Try.prog) w 9 41 5 s Try.underlying9 Try.underlying41 Try.underlying5
  have HL := Lib.hid (strB_len s)
  have S1 : Step w1 w := ⟨hB1⟩
  have HBY := Lib.hid (strB_byt s)
  obtain ⟨BA, hBA⟩ : ∃ A : Option Addr, some ⟨w.heap.size, 0, none⟩ = A := ⟨_, rfl⟩
  rw [hBA] at hcv hC1
  have HC := Lib.hid hC1
  clear hC1 hB1 hZ1 hsc hBA
  obtain ⟨xs, hxs⟩ : ∃ xs, strB s = xs := ⟨_, rfl⟩
  rw [hxs] at HL HC HBY ⊢
  clear hxs
  obtain ⟨n, hn⟩ : ∃ n, s.size = n := ⟨_, rfl⟩
  rw [hn] at hs hcv HL
  have HN := Lib.hid hn
  clear hn
  rw [HN.out] at l1 l2
  have HNF : Hid (nameF xs = xs.all okN) := by unfold Hid nameF; rw [decide_eq_true (by rw [HL.out]; omega)]; rfl
  have HNI : Hid ((s.size : Int) = n) := congrArg _ HN.out
  have l1I : ¬ (s.size : Int) < 1 := by rw [HNI.out]; omega
  have l2I : ¬ 64 < (s.size : Int) := by rw [HNI.out]; omega
  go_enter Try.func128, Try.ntmps128
  go_wp2
  clear hcv
  go_loopw [16] (fun i wr => ∃ k : Nat, i = .int .i64 k ∧ k ≤ n ∧ Hid ((xs.take k).all okN = true) ∧ Hid (Ext w1 wr)) (fun i _ => n - (intOf i).toNat)
  case atStart => exact ⟨0, rfl, by omega, rfl, (inferInstance : Ext w1 w1)⟩
  case round =>
    obtain ⟨k, rfl, hk, HA, HW⟩ := hrel
    have Sr : Step wr w1 := ⟨HW.out.out⟩
    by_cases hlt : k < n
    · obtain ⟨ad, rfl, hc⟩ := (HC.out.ext (w' := wr)).num (by rw [HL.out]; exact hlt)
      have HLT := Lib.hid (show k < xs.length by rw [HL.out]; exact hlt)
      obtain ⟨X, hX⟩ : ∃ X, xs.getD k 0 = X := ⟨_, rfl⟩
      rw [hX] at hc
      have HX := Lib.hid hX
      clear hX
      by_cases p1 : X < 32
      · skip
        have HF : Hid (nameF xs = false) := HNF.out.trans (all_not HLT.out (by rw [HX.out]; unfold okN; exact decide_eq_false (by omega)))
        go_wp2
        go_ret
        exact ⟨ret_bool HF.out.symm, Ext.out⟩
      by_cases p2 : 126 < X
      · skip
        have HF : Hid (nameF xs = false) := HNF.out.trans (all_not HLT.out (by rw [HX.out]; unfold okN; exact decide_eq_false (by omega)))
        go_wp2
        go_ret
        exact ⟨ret_bool HF.out.symm, Ext.out⟩
      by_cases p3 : X = 34
      · subst p3
        have HF : Hid (nameF xs = false) := HNF.out.trans (all_not HLT.out (by rw [HX.out]; rfl))
        go_wp2
        go_ret
        exact ⟨ret_bool HF.out.symm, Ext.out⟩
      have p3' : (X == 34) = false := by simpa using p3
      by_cases p4 : X = 92
      · subst p4
        have HF : Hid (nameF xs = false) := HNF.out.trans (all_not HLT.out (by rw [HX.out]; rfl))
        go_wp2
        go_ret
        exact ⟨ret_bool HF.out.symm, Ext.out⟩
      have p4' : (X == 92) = false := by simpa using p4
      have HA2 := Lib.hid (all_take_succ HA.out HLT.out (by rw [HX.out]; unfold okN; exact decide_eq_true (by omega)))
      clear p3 p4
      go_wp2
      go_roundw
      case rel => exact ⟨k + 1, by go_num, by omega, HA2.out, (inferInstance : Ext w1 _)⟩
      case measure => simp [intOf]; omega
    · obtain rfl : k = n := by omega
      have HF : Hid (nameF xs = true) := by
        have h1 := HA.out
        rw [List.take_of_length_le (by rw [HL.out]; exact Nat.le_refl _)] at h1
        exact HNF.out.trans h1
      go_wp2
      go_ret
      exact ⟨ret_bool HF.out.symm, Ext.out⟩
end Go.Proofs.Ytodibldfolognaa
