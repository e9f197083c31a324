/-
  md5.Response and the reference's. Conditions: word and challenge are together no longer than half the model's memory.
-/
import Derived.Test.YtobddmpiljknpaaMdO
import Derived.Test.YtobddmpiljknpaaMdL
import Derived.Lib.ConvBytes
import Derived.Lib.AppendStr
namespace Go.Proofs.Ytobddmpiljknpaa
open Go.RowKit
set_option linter.unusedVariables false
set_option linter.unusedSimpArgs false

/-- A text's bytes. -/
def strB (s : ByteArray) : List Int := s.data.toList.map fun b => (b.toNat : Int)
theorem strB_len (s : ByteArray) : (strB s).length = s.size := by
  rw [strB, List.length_map, Array.length_toList]
  rfl
theorem strB_byt (s : ByteArray) : Byt (strB s) := by
  intro x hx
  simp only [strB, List.mem_map] at hx
  obtain ⟨b, _, rfl⟩ := hx
  have := b.toNat_lt
  omega
theorem strB_cells (s : ByteArray) : Lib.strCells s = nums .u8 (strB s) := by simp [Lib.strCells, nums, strB]
theorem strB_str (xs : List Int) (h : Byt xs) : strB (strOfNums xs) = xs := by
  unfold strB
  rw [strOfNums_data, List.map_map]
  conv => rhs; rw [← List.map_id xs]
  refine List.map_congr_left fun x hx => ?_
  have := h x hx
  simp only [Function.comp_apply, id_eq]
  rw [UInt8.toNat_ofNat']
  omega
theorem conv_str {P : Program} (w : World) (src dst e : TypeId) (s : ByteArray) (hs : P.underlying src = some .string) (hd : P.underlying dst = some (.slice e)) (he : P.underlying e = some (.int .u8)) :
    ∃ w1 c, (convert src dst (.string s)).run P w = .ok (.slice (some ⟨w.heap.size, 0, none⟩) s.size c) w1 ∧ s.size ≤ c ∧ Cells w1 (some ⟨w.heap.size, 0, none⟩) (nums .u8 (strB s)) ∧ Below w.heap.size w w1 ∧ w1.heap.size = w.heap.size + 1 := by
  refine ⟨_, _, Lib.run_convert_string_bytes w src dst e s hs hd he, grownCap_ge w s.size 0 e, ?_, ⟨?_, ?_, ?_, ?_, fun k hk => Lib.bytesWorld_at_old w e s k hk⟩, Lib.bytesWorld_size w e s⟩
  · intro _
    refine ⟨_, rfl, fun j u hu => ?_⟩
    have hj : j < s.size := by have := (List.getElem?_eq_some_iff.1 hu).1; rwa [nums_length, strB_len] at this
    rw [add_plain, Lib.bytesWorld_cell w e s j hj, ← hu, nums_get _ _ _ (by rw [strB_len]; exact hj)]
    simp only [strB, List.getD_eq_getElem?_getD, List.getElem?_map]
    have : j < s.data.toList.length := by rw [Array.length_toList]; exact hj
    rw [List.getElem?_eq_getElem this]
    rfl
  · unfold Lib.bytesWorld World.freeze
    split <;> rfl
  · unfold Lib.bytesWorld World.freeze
    split <;> rfl
  · unfold Lib.bytesWorld World.freeze
    split <;> rfl
  · rw [Lib.bytesWorld_size]
    omega
theorem StreamAt.young {w : World} {base g : Nat} {s : W4} {ps : List W4} {xs : List Int} {n : Int} {pv lv : Value} (h : StreamAt w base g s ps xs n pv lv) : ∀ k, StreamS g pv lv k → base ≤ k := by
  rintro k (rfl | hk | hk)
  · exact h.base_
  · exact own_base h.past k hk
  · exact (h.left.lt k hk).1
theorem StreamOf.wrote {w0 w w' : World} {base g : Nat} {ys : List Int} {pv lv : Value} [X : Ext w0 w] (h : StreamOf w base g ys pv lv) (hon : Only (StreamS g pv lv) w w') (hb : w0.heap.size ≤ base) : Step w' w0 :=
  ⟨X.out.trans (hon.below (fun k hk => Nat.le_trans hb (StreamAt.young h k hk)) X.out.size)⟩
theorem results_cell_row2 {P : Program} {fn : Func} {p q : Tmp} {ty : TypeId} (h : fn.results = #[.cell p ty, .tmp q]) (tmps : Array Value) (w : World) (g : Nat) (t : TypeId) (cs : Array Value) (fr : Nat × Nat) (d : TypeDesc) (v : Value)
    (hp : tmps.getD p undef = .pointer (some ⟨g, 0, none⟩)) (hq : tmps.getD q undef = v) (hg : w.heap[g]? = some (.cells cs t fr))
    (hu : P.underlying ty = some d) (hd : (match d with | .struct _ | .array _ _ => true | _ => false) = true) (hi : (P.info? ty).map (·.size) = some cs.size) :
    (results fn tmps).run P w = .ok (.tuple #[.agg cs, v]) w := by
  have hp' : tmps[p]?.getD undef = .pointer (some ⟨g, 0, none⟩) := by simpa using hp
  have hq' : tmps[q]?.getD undef = v := by simpa using hq
  simp [results, h, hp', hq', asAddr, run_loadVar_row w g t ty cs fr d hg hu hd hi]
/-- 'append(v, s...)': v a row of the call's own, s a text. -/
theorem wp_append_str {P : Program} {ops : Array Oper} {rest : List Oper} {o : Oper} {a : Act} {Q : Exit → Act → World → Prop} {w0 W : World} (base : Nat) (hgd : o.guard = none) (s x : Operand) (t u e : TypeId)
    (ho : o.op = .call { callee := .builtin .append, args := #[s, x], argTypes := #[t, u] })
    (ht : P.underlying t = some (.slice e)) (hu : P.underlying u = some .string) (hinfo : (P.info? e).map (fun i => (i.zero, i.size, i.bytes)) = some (some (.int .u8 0), 1, 1))
    (v : Value) (n : Nat) (cs : List Value) (str : ByteArray) (hs : a.eval s = v) (hx : a.eval x = .string str)
    (HO : W.ownsRow base e 1 v n cs) (HB : Below base w0 W) (hbase : base ≤ W.heap.size) (hk : n + str.size ≤ 140737488355328)
    (h : ∀ v1 w1, w1.ownsRow base e 1 v1 (n + str.size) (cs ++ nums .u8 (strB str)) → Below base w0 w1 → W.grownBy w1 v.ownBlock → wpList P ops Q rest (a.put o.dst v1) w1) :
    wpList P ops Q (o :: rest) a W := by
  obtain ⟨i0, hi, hzz⟩ := Option.map_eq_some_iff.1 hinfo
  simp only [Prod.mk.injEq] at hzz
  refine Lib.wpList_append_own_string W hgd s x t u ho base e i0 ht hu hi hzz.1 hzz.2.1 hzz.2.2 v n cs hs HO str hx (by simp only [maxLen]; omega) hk hbase ?_
  intro v1 w1 h2 h3 _
  rw [strB_cells] at h2
  exact h v1 w1 h2 (HB.grown h3 hbase (own_base HO)) h3
/-- What is answered. -/
def respE (id : Int) : Int := if id < 0 ∨ 255 < id then 1 else 0
def respD (id : Int) (s : ByteArray) (xs : List Int) : List Int := if id < 0 ∨ 255 < id then List.replicate 16 0 else digest ([id] ++ strB s ++ xs)
theorem respD_len (id : Int) (s : ByteArray) (xs : List Int) : (respD id s xs).length = 16 := by
  unfold respD
  split
  · rfl
  · exact digest_len _
set_option maxRecDepth 100000 in
set_option maxHeartbeats 4000000 in
theorem resp4_any (id : Int) (s : ByteArray) (A : Option Addr) (n c : Nat) (xs : List Int) (hn : xs.length = n) (hsn : s.size + n ≤ 70368744177664) (hb : Byt xs) (w : World) (hx : Cells w A (nums .u8 xs)) :
    Calls Try.prog 44 #[.int .i64 id, .string s, .slice A n c] w fun e w' => e = .returned (.tuple #[.agg (nums .u8 (respD id s xs)).toArray, .int .i64 (respE id)]) ∧ Below w.heap.size w w' := by
  have Hn := Lib.hid hn
  have HX := Lib.hid hx
  have HB := Lib.hid hb
  have HSL := Lib.hid (strB_len s)
  have HAL : Hid (∀ ad, 0 < xs.length → A = some ad → ad.block < w.heap.size) := by
    intro ad hp ha
    obtain ⟨ad', he, h⟩ := hx (by rw [nums_length]; exact hp)
    rw [ha] at he
    injection he with he
    subst he
    have := World.block_lt_of_cell? _ _ (h 0 _ (by rw [List.getElem?_eq_getElem (by rw [nums_length]; exact hp)]))
    rwa [block_of_add] at this
  clear hn hx hb
  have HZ0 : Hid ((w.alloc zB16).heap[w.heap.size]? = some zB16) := at_new w _
  by_cases h1 : id < 0
  · have HE : Hid (respE id = 1) := by unfold Hid respE; rw [if_pos (.inl h1)]
    have HD : Hid (respD id s xs = List.replicate 16 0) := by unfold Hid respD; rw [if_pos (.inl h1)]
    go_enter Try.func44, Try.ntmps44
    go_wp2_with
      (refine wpList_store_row rfl 47 (.tmp 6) (.tmp 15) rfl w.heap.size (nums .u8 (List.replicate 16 0)).toArray rfl rfl 47 (nums .u8 (List.replicate 16 0)).toArray HZ0.out (by kernel_rfl) rfl (one_all _ _) ?_)
    refine bodyPost_ret (results_cell_row2 Try.results44 _ _ w.heap.size 47 _ (0, 0) _ (.int .i64 1) rfl rfl (setRow_heap _ _ _ _ _ _ HZ0.out) Try.underlying47 rfl (by kernel_rfl)) rfl ⟨?_, (Ext.setRow_ (inferInstance : Ext w (w.alloc zB16)) (Nat.le_refl _) _).out⟩
    rw [HE.out, HD.out]
    rfl
  by_cases h2 : 255 < id
  · have HE : Hid (respE id = 1) := by unfold Hid respE; rw [if_pos (.inr h2)]
    have HD : Hid (respD id s xs = List.replicate 16 0) := by unfold Hid respD; rw [if_pos (.inr h2)]
    go_enter Try.func44, Try.ntmps44
    go_wp2_with
      (refine wpList_store_row rfl 47 (.tmp 6) (.tmp 15) rfl w.heap.size (nums .u8 (List.replicate 16 0)).toArray rfl rfl 47 (nums .u8 (List.replicate 16 0)).toArray HZ0.out (by kernel_rfl) rfl (one_all _ _) ?_)
    refine bodyPost_ret (results_cell_row2 Try.results44 _ _ w.heap.size 47 _ (0, 0) _ (.int .i64 1) rfl rfl (setRow_heap _ _ _ _ _ _ HZ0.out) Try.underlying47 rfl (by kernel_rfl)) rfl ⟨?_, (Ext.setRow_ (inferInstance : Ext w (w.alloc zB16)) (Nat.le_refl _) _).out⟩
    rw [HE.out, HD.out]
    rfl
  have HE : Hid (respE id = 0) := by unfold Hid respE; rw [if_neg (by omega)]
  have HD : Hid (respD id s xs = digest ([id] ++ strB s ++ xs)) := by unfold Hid respD; rw [if_neg (by omega)]
  have hwid : IntKind.u8.wrap id = id := by rw [IntKind.wrap_u8]; omega
  go_enter Try.func44, Try.ntmps44
  go_wp2_with fail
  refine (new4_any _).mono ?_
  rintro e w1 ⟨g, rfl, hst, hb1⟩
  have S1 : Step w1 _ := ⟨hb1⟩
  have HST1 := Lib.hid (StreamOf.new hst)
  have HG : Hid (w.heap.size < g ∧ g < w1.heap.size) := ⟨by have := hst.base_; simp at this; omega, at_lt hst.at_⟩
  clear hst hb1
  go_wp2_with fail
  refine (writeAll4_any g _ [] [id] _ _ (some ⟨w1.heap.size, 0, none⟩) 1 1 _ rfl Byt.nil_ (Byt.one (by omega) (by omega)) (fun _ ad ha => by injection ha with ha; rw [← ha]; exact Nat.ne_of_gt HG.out.2) (by simp) (HST1.out.ext) (by simpa using (Ext.out (w := w.alloc zB16) (w' := w1.alloc (.cells (nums .u8 [id]).toArray 5))).size) (cells_box w1 _ rfl (nums .u8 [id]) _)).mono ?_
  rintro e w2 ⟨pv, lv, rfl, hst2, hon2, hos2⟩
  have S2 : Step w2 (w.alloc zB16) := StreamOf.wrote (w0 := w.alloc zB16) HST1.out.ext hon2 (Nat.le_refl _)
  have HST2 := Lib.hid hst2
  have HG2 : Hid (w.heap.size < g ∧ g < w2.heap.size) := ⟨HG.out.1, at_lt hst2.at_⟩
  clear hst2 hon2 hos2
  obtain ⟨w3, cw, hcv, hcw, hc3, hb3, hz3⟩ := conv_str (P := Try.prog) w2 9 22 5 s Try.underlying9 Try.underlying22 Try.underlying5
  have S3 : Step w3 w2 := ⟨hb3⟩
  have HC3 := Lib.hid hc3
  clear hb3 hc3 hz3
  go_wp2_with fail
  refine (writeAll4_any g _ ([] ++ [id]) (strB s) pv lv (some ⟨w2.heap.size, 0, none⟩) s.size cw w3 HSL.out (Byt.one (by omega) (by omega)) (strB_byt s) (fun _ ad ha => by injection ha with ha; rw [← ha]; exact Nat.ne_of_gt HG2.out.2) (by simp; omega) (HST2.out.ext) (Ext.out (w := w.alloc zB16) (w' := w3)).size HC3.out).mono ?_
  rintro e w4 ⟨pv4, lv4, rfl, hst4, hon4, hos4⟩
  have S4 : Step w4 (w.alloc zB16) := StreamOf.wrote (w0 := w.alloc zB16) (w := w3) HST2.out.ext hon4 (Nat.le_refl _)
  have HST4 := Lib.hid hst4
  clear hst4 hon4 hos4 hcv
  go_wp2_with fail
  refine (writeAll4_any g _ ([] ++ [id] ++ strB s) xs pv4 lv4 A n c w4 Hn.out (Byt.append (Byt.one (by omega) (by omega)) (strB_byt s)) HB.out (fun h0 ad ha => by have := HAL.out ad (by rw [Hn.out]; exact h0) ha; have := HG.out.1; omega) (by simp [HSL.out]; omega) (HST4.out) (Ext.out (w := w.alloc zB16) (w' := w4)).size (by exact HX.out.ext)).mono ?_
  rintro e w5 ⟨pv5, lv5, rfl, hst5, hon5, hos5⟩
  have S5 : Step w5 (w.alloc zB16) := StreamOf.wrote (w0 := w.alloc zB16) (w := w4) HST4.out hon5 (Nat.le_refl _)
  have HST5 := Lib.hid hst5
  clear hst5 hon5 hos5
  go_wp2_with fail
  refine (sumAll4_any g _ ([] ++ [id] ++ strB s ++ xs) pv5 lv5 w5 (Byt.append (Byt.append (Byt.one (by omega) (by omega)) (strB_byt s)) HB.out) (by simp [HSL.out, Hn.out]; omega) HST5.out).mono ?_
  rintro e w6 ⟨rfl, hb6⟩
  have S6 : Step w6 _ := ⟨hb6⟩
  clear hb6
  rw [List.nil_append, ← HD.out]
  have HZ6 : Hid (w6.heap[w.heap.size]? = some zB16) := at_ext (w := w.alloc zB16) HZ0.out
  have hl := respD_len id s xs
  obtain ⟨ts, hts⟩ : ∃ ts, respD id s xs = ts := ⟨_, rfl⟩
  have HTS := Lib.hid hts
  rw [hts] at hl ⊢
  have HI16 : Hid ((Try.prog.info? 47).map (·.size) = some (nums .u8 ts).toArray.size) := by
    unfold Hid
    rw [List.size_toArray, nums_length, hl]
    kernel_rfl
  have HZ16 : Hid ((nums .u8 (List.replicate 16 0)).toArray.size = (nums .u8 ts).toArray.size) := by
    unfold Hid
    rw [List.size_toArray, List.size_toArray, nums_length, nums_length, hl]
    rfl
  clear hts hl
  go_wp2_with
    (refine wpList_store_row rfl 47 (.tmp 6) (.tmp 30) rfl w.heap.size (nums .u8 ts).toArray rfl rfl 47 (nums .u8 (List.replicate 16 0)).toArray HZ6.out HI16.out HZ16.out (one_all _ _) ?_)
  refine bodyPost_ret (results_cell_row2 Try.results44 _ _ w.heap.size 47 _ (0, 0) _ (.int .i64 0) rfl rfl (setRow_heap _ _ _ _ _ _ HZ6.out) Try.underlying47 rfl HI16.out) rfl ⟨?_, (Ext.setRow_ (inferInstance : Ext w w6) (Nat.le_refl _) _).out⟩
  rw [HE.out, HTS.out]
set_option maxRecDepth 100000 in
set_option maxHeartbeats 4000000 in
theorem rresp4_any (id : Int) (s : ByteArray) (A : Option Addr) (n c : Nat) (xs : List Int) (hn : xs.length = n) (hsn : s.size + n ≤ 70368744177664) (hb : Byt xs) (w : World) (hx : Cells w A (nums .u8 xs)) :
    Calls Try.prog 30 #[.int .i64 id, .string s, .slice A n c] w fun e w' => e = .returned (.tuple #[.agg (nums .u8 (respD id s xs)).toArray, .int .i64 (respE id)]) ∧ Below w.heap.size w w' := by
  have Hn := Lib.hid hn
  have HX := Lib.hid hx
  have HB := Lib.hid hb
  have HSL := Lib.hid (strB_len s)
  clear hn hx hb
  have HZ0 : Hid ((w.alloc zB16).heap[w.heap.size]? = some zB16) := at_new w _
  by_cases h1 : id < 0
  · have HE : Hid (respE id = 1) := by unfold Hid respE; rw [if_pos (.inl h1)]
    have HD : Hid (respD id s xs = List.replicate 16 0) := by unfold Hid respD; rw [if_pos (.inl h1)]
    go_enter Try.func30, Try.ntmps30
    go_wp2_with
      (refine wpList_store_row rfl 47 (.tmp 6) (.tmp 15) rfl w.heap.size (nums .u8 (List.replicate 16 0)).toArray rfl rfl 47 (nums .u8 (List.replicate 16 0)).toArray HZ0.out (by kernel_rfl) rfl (one_all _ _) ?_)
    refine bodyPost_ret (results_cell_row2 Try.results30 _ _ w.heap.size 47 _ (0, 0) _ (.int .i64 1) rfl rfl (setRow_heap _ _ _ _ _ _ HZ0.out) Try.underlying47 rfl (by kernel_rfl)) rfl ⟨?_, (Ext.setRow_ (inferInstance : Ext w (w.alloc zB16)) (Nat.le_refl _) _).out⟩
    rw [HE.out, HD.out]
    rfl
  by_cases h2 : 255 < id
  · have HE : Hid (respE id = 1) := by unfold Hid respE; rw [if_pos (.inr h2)]
    have HD : Hid (respD id s xs = List.replicate 16 0) := by unfold Hid respD; rw [if_pos (.inr h2)]
    go_enter Try.func30, Try.ntmps30
    go_wp2_with
      (refine wpList_store_row rfl 47 (.tmp 6) (.tmp 15) rfl w.heap.size (nums .u8 (List.replicate 16 0)).toArray rfl rfl 47 (nums .u8 (List.replicate 16 0)).toArray HZ0.out (by kernel_rfl) rfl (one_all _ _) ?_)
    refine bodyPost_ret (results_cell_row2 Try.results30 _ _ w.heap.size 47 _ (0, 0) _ (.int .i64 1) rfl rfl (setRow_heap _ _ _ _ _ _ HZ0.out) Try.underlying47 rfl (by kernel_rfl)) rfl ⟨?_, (Ext.setRow_ (inferInstance : Ext w (w.alloc zB16)) (Nat.le_refl _) _).out⟩
    rw [HE.out, HD.out]
    rfl
  have HE : Hid (respE id = 0) := by unfold Hid respE; rw [if_neg (by omega)]
  have HD : Hid (respD id s xs = digest ([id] ++ strB s ++ xs)) := by unfold Hid respD; rw [if_neg (by omega)]
  have hwid : IntKind.u8.wrap id = id := by rw [IntKind.wrap_u8]; omega
  go_enter Try.func30, Try.ntmps30
  have HO0 : Hid (((w.alloc zB16).alloc (.cells (nums .u8 [id]).toArray 5)).ownsRow (w.alloc zB16).heap.size 5 1 (.slice (some ⟨w.heap.size + 1, 0, none⟩) 1 1) 1 (nums .u8 [id])) := own_of_block (cap := 1) (at_new1 (by simp)) (by simp) (Nat.le_refl _) (by decide) rfl
  go_wp2_with
    (first
     | (at_builtin
        refine wp_append_str (w0 := w.alloc zB16) (w.alloc zB16).heap.size rfl (.tmp 19) (.tmp 20) 22 9 5 rfl Try.underlying22 Try.underlying9 info_u8 (.slice (some ⟨w.heap.size + 1, 0, none⟩) 1 1) 1 (nums .u8 [id]) s rfl rfl HO0.out (Ext.out (w := w.alloc zB16) (w' := (w.alloc zB16).alloc _)) size_ext (by omega) ?_
        intro v2 w2 ho2 hb2 hg2
        obtain ⟨L2, l2, rfl, hl2⟩ := own_slice ho2
        have HO2 := Lib.hid ho2
        have X2 : Ext (w.alloc zB16) w2 := ⟨hb2⟩
        have HX2 := Lib.hid X2
        have HY2 : Hid (Cells w2 A (nums .u8 xs)) := by
          have Y2 : Ext w w2 := Ext.trans_ inferInstance X2
          exact HX.out.ext
        clear ho2 hb2 hg2)
     | (at_builtin
        go_loud (refine wp_append_cells (w0 := w.alloc zB16) (w.alloc zB16).heap.size rfl (.tmp 22) (.tmp 23) 22 5 (.int .u8 0) 1 1 rfl Try.underlying22 info_u8 rfl (by decide) (by decide) (.slice L2 (1 + s.size) l2) (1 + s.size) (nums .u8 [id] ++ nums .u8 (strB s)) A n c (nums .u8 xs) rfl rfl (by rw [nums_length, Hn.out, Nat.mul_one]) (nums_one _ _) HO2.out HY2.out HX2.out.out size_ext (by omega) ?_)
        intro v3 w3 ho3 hb3 hg3 hat3
        obtain ⟨L3, l3, rfl, hl3⟩ := own_slice ho3
        have HO3 := Lib.hid ho3
        have X3 : Ext (w.alloc zB16) w3 := ⟨hb3⟩
        have HX3 := Lib.hid X3
        clear ho3 hb3 hg3 hat3))
  have XX3 : Ext (w.alloc zB16) w3 := HX3.out
  have HC3 : Hid (Cells w3 L3 (nums .u8 ([id] ++ strB s ++ xs))) := by have := own_cells HO3.out; rw [← nums_append, ← nums_append] at this; exact this
  refine (rsum4_any L3 (1 + s.size + n) l3 ([id] ++ strB s ++ xs) (by simp [HSL.out, Hn.out]; omega) (by omega) (Byt.append (Byt.append (Byt.one (by omega) (by omega)) (strB_byt s)) HB.out) w3 HC3.out).mono ?_
  rintro e w6 ⟨rfl, hb6⟩
  have S6 : Step w6 _ := ⟨hb6⟩
  clear hb6
  have Y6 : Ext (w.alloc zB16) w6 := Ext.step_ _ w3 _
  have Y66 : Ext w w6 := Ext.trans_ inferInstance Y6
  rw [← HD.out]
  have HZ6 : Hid (w6.heap[w.heap.size]? = some zB16) := at_ext (w := w.alloc zB16) HZ0.out
  have hl := respD_len id s xs
  obtain ⟨ts, hts⟩ : ∃ ts, respD id s xs = ts := ⟨_, rfl⟩
  have HTS := Lib.hid hts
  rw [hts] at hl ⊢
  have HI16 : Hid ((Try.prog.info? 47).map (·.size) = some (nums .u8 ts).toArray.size) := by
    unfold Hid
    rw [List.size_toArray, nums_length, hl]
    kernel_rfl
  have HZ16 : Hid ((nums .u8 (List.replicate 16 0)).toArray.size = (nums .u8 ts).toArray.size) := by
    unfold Hid
    rw [List.size_toArray, List.size_toArray, nums_length, nums_length, hl]
    rfl
  clear hts hl
  go_wp2_with
    (refine wpList_store_row rfl 47 (.tmp 6) (.tmp 26) rfl w.heap.size (nums .u8 ts).toArray rfl rfl 47 (nums .u8 (List.replicate 16 0)).toArray HZ6.out HI16.out HZ16.out (one_all _ _) ?_)
  refine bodyPost_ret (results_cell_row2 Try.results30 _ _ w.heap.size 47 _ (0, 0) _ (.int .i64 0) rfl rfl (setRow_heap _ _ _ _ _ _ HZ6.out) Try.underlying47 rfl HI16.out) rfl ⟨?_, (Ext.setRow_ (inferInstance : Ext w w6) (Nat.le_refl _) _).out⟩
  rw [HE.out, HTS.out]
end Go.Proofs.Ytobddmpiljknpaa
