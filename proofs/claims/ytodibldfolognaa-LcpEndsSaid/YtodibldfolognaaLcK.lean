/-
  tetherlaw11.LcpEchoes: echoes and rejections are answered and read as the document says: for every input the call answers true. No condition.
-/
import Derived.Test.YtodibldfolognaaLcG
import Derived.Test.YtodibldfolognaaLcI
import Derived.Test.YtodibldfolognaaLcJ
import Derived.Test.YtodibldfolognaaSeat
import Derived.Test.YtodibldfolognaaArgs
namespace Go.Proofs.Ytodibldfolognaa
open Go.RowKit
set_option linter.unusedVariables false
set_option linter.unusedSimpArgs false

def pkSame (c1 i1 : Int) (xs : List Int) (c2 i2 : Int) (ys : List Int) : Bool := decide (c1 = c2 ∧ i1 = i2 ∧ xs = ys)
set_option maxHeartbeats 1000000 in
theorem samePacket_any (c1 i1 c2 i2 : Int) (A B : Option Addr) (n m c d : Nat) (xs ys : List Int) (hn : xs.length = n) (hm : ys.length = m) (hn' : n ≤ 9223372036854775807) (hm' : m ≤ 9223372036854775807)
    (w : World) (hx : Cells w A (nums .u8 xs)) (hy : Cells w B (nums .u8 ys)) :
    Calls Try.prog 21 #[.agg #[.int .i64 c1, .int .i64 i1, .slice A n c], .agg #[.int .i64 c2, .int .i64 i2, .slice B m d]] w fun e w' => e = .returned (.bool (pkSame c1 i1 xs c2 i2 ys)) ∧ Below w.heap.size w w' := by
  have Hn := Lib.hid hn
  have Hm := Lib.hid hm
  clear hn hm
  by_cases h1 : c1 = c2
  · by_cases h2 : i1 = i2
    · have HE : Hid (pkSame c1 i1 xs c2 i2 ys = decide (xs = ys)) := by unfold Hid pkSame; simp [h1, h2]
      subst h1
      subst h2
      go_enter Try.func21, Try.ntmps21
      go_wp2_with fail
      refine (same_any A B n m c d xs ys Hn.out Hm.out hn' hm' _ ((hx.alloc _).alloc _) ((hy.alloc _).alloc _)).mono ?_
      rintro e w1 ⟨rfl, hd⟩
      have HB := Lib.hid (below_drawn (((Below.refl w.heap.size w).alloc (Nat.le_refl _) _).alloc (by simp) _) hd)
      clear hd
      generalize decide (xs = ys) = b at *
      go_wp2_with fail
      go_ret
      exact ⟨ret_bool HE.out.symm, HB.out⟩
    · have h2' : (i1 == i2) = false := by simpa using h2
      have HE : Hid (pkSame c1 i1 xs c2 i2 ys = false) := by unfold Hid pkSame; simp [h2]
      go_enter Try.func21, Try.ntmps21
      go_wp2
      go_ret
      exact ⟨ret_bool HE.out.symm, ((Below.refl w.heap.size w).alloc (Nat.le_refl _) _).alloc (by simp) _⟩
  · have h1' : (c1 == c2) = false := by simpa using h1
    have HE : Hid (pkSame c1 i1 xs c2 i2 ys = false) := by unfold Hid pkSame; simp [h1]
    go_enter Try.func21, Try.ntmps21
    go_wp2
    go_ret
    exact ⟨ret_bool HE.out.symm, ((Below.refl w.heap.size w).alloc (Nat.le_refl _) _).alloc (by simp) _⟩
theorem given_any (mru accm auth mm : Int) (b1 b2 : Bool) (w : World) : Calls Try.prog 15 #[.agg #[.int .i64 mru, .int .i64 accm, .int .i64 auth, .int .u32 mm, .bool b1, .bool b2]] w
    fun e w' => e = .returned (.agg #[.int .i64 mru, .int .i64 accm, .int .i64 auth, .int .u32 mm, .bool b1, .bool b2]) ∧ Below w.heap.size w w' := by
  go_enter Try.func15, Try.ntmps15
  go_wp2
  exact bodyPost_ret (v := .agg #[.int .i64 mru, .int .i64 accm, .int .i64 auth, .int .u32 mm, .bool b1, .bool b2]) (by simp [results, Try.results15, go_sem]) rfl ⟨rfl, Ext.out⟩
theorem taken_any (mru accm auth mm : Int) (b1 b2 : Bool) (w : World) : Calls Try.prog 35 #[.agg #[.int .i64 mru, .int .i64 accm, .int .i64 auth, .int .u32 mm, .bool b1, .bool b2]] w
    fun e w' => e = .returned (.agg #[.int .i64 mru, .int .i64 accm, .int .i64 auth, .int .u32 mm, .bool b1, .bool b2]) ∧ Below w.heap.size w w' := by
  go_enter Try.func35, Try.ntmps35
  go_wp2
  exact bodyPost_ret (v := .agg #[.int .i64 mru, .int .i64 accm, .int .i64 auth, .int .u32 mm, .bool b1, .bool b2]) (by simp [results, Try.results35, go_sem]) rfl ⟨rfl, Ext.out⟩
set_option maxRecDepth 100000 in
theorem arg_opts11 {U : Nat} {W : World} {v : Value} (h : Arg U Try.prog W 28 v) : ∃ mru accm auth mm b1 b2, v = .agg #[.int .i64 mru, .int .i64 accm, .int .i64 auth, .int .u32 mm, .bool b1, .bool b2] ∧ 0 ≤ mm ∧ mm < 4294967296 ∧
    (-9223372036854775808 ≤ mru ∧ mru ≤ 9223372036854775807) ∧ (-9223372036854775808 ≤ accm ∧ accm ≤ 9223372036854775807) ∧ (-9223372036854775808 ≤ auth ∧ auth ≤ 9223372036854775807) := by
  obtain ⟨cs, rfl, h'⟩ := Arg.struct Try.underlying28 h
  have hl := h'.len Try.underlying28
  rw [show Try.prog.cellsOf 28 = 6 from by kernel_rfl] at hl
  obtain ⟨a, e0, w0⟩ := h'.fieldInt (i := 0) (j := 0) Try.underlying28 rfl rfl rfl sz_int Try.underlying3
  obtain ⟨b, e1, w1⟩ := h'.fieldInt (i := 1) (j := 1) Try.underlying28 rfl rfl rfl (by kernel_rfl) Try.underlying2
  obtain ⟨c, e2, w2⟩ := h'.fieldInt (i := 2) (j := 2) Try.underlying28 rfl rfl rfl sz_int Try.underlying3
  obtain ⟨d, e3, w3⟩ := h'.fieldInt (i := 3) (j := 3) Try.underlying28 rfl rfl rfl (by kernel_rfl) Try.underlying26
  obtain ⟨f, e4⟩ := h'.fieldBool (i := 4) (j := 4) Try.underlying28 rfl rfl rfl (by kernel_rfl) Try.underlying4
  obtain ⟨g, e5⟩ := h'.fieldBool (i := 5) (j := 5) Try.underlying28 rfl rfl rfl (by kernel_rfl) Try.underlying4
  match cs, hl with
  | [x0, x1, x2, x3, x4, x5], _ =>
    simp at e0 e1 e2 e3 e4 e5
    subst e0 e1 e2 e3 e4 e5
    exact ⟨_, _, _, _, _, _, rfl, (wf_u32 w3).1, (wf_u32 w3).2, wf_i64 w0, wf_i64 w1, wf_i64 w2⟩
theorem pkSame_self (a b : Int) (xs : List Int) : pkSame a b xs a b xs = true := by simp [pkSame]
theorem replyF_le (code id magic : Int) (xs : List Int) : (replyF code id magic xs).2.1.length ≤ 16384 := by
  unfold replyF
  split
  · simp
  split
  · simp
  · simp only [List.length_append, be_length]
    omega
theorem echoF_le (code id : Int) (xs : List Int) (mm : Int) : (echoF code id xs mm).1.2.length ≤ 16384 := by
  unfold echoF
  split
  · simp
  split
  · simp
  split
  · simp
  split
  · simp
  · exact replyF_le _ _ _ _
set_option maxRecDepth 100000 in
set_option maxHeartbeats 8000000 in
theorem echoes_law (code id mru accm auth mm code2 magic : Int) (b1 b2 : Bool) (A : Option Addr) (n c : Nat) (xs : List Int) (hm0 : 0 ≤ mm) (hm1 : mm < 4294967296) (hg0 : 0 ≤ magic) (hg1 : magic < 4294967296) (hn : xs.length = n) (hn' : n ≤ 140737488351232) (hnc : n ≤ c) (hb : Byt xs) (w : World) (hx : Cells w A (nums .u8 xs)) :
    Calls Try.prog 4 #[.agg #[.int .i64 code, .int .i64 id, .slice A n c], .agg #[.int .i64 mru, .int .i64 accm, .int .i64 auth, .int .u32 mm, .bool b1, .bool b2], .int .i64 code2, .int .u32 magic] w fun e w' => e = .returned (.bool true) ∧ Below w.heap.size w w' := by
  have Hn := Lib.hid hn
  have HX := Lib.hid hx
  have HB := Lib.hid hb
  have HG0 : Hid (((w.alloc (.cells #[.int .i64 code, .int .i64 id, .slice A n c] 43)).alloc (.cells #[.int .i64 mru, .int .i64 accm, .int .i64 auth, .int .u32 mm, .bool b1, .bool b2] 28)).heap[w.heap.size]? = some (.cells #[.int .i64 code, .int .i64 id, .slice A n c] 43 (0, 0))) := at_ext (at_new w _)
  have HG1 : Hid (((w.alloc (.cells #[.int .i64 code, .int .i64 id, .slice A n c] 43)).alloc (.cells #[.int .i64 mru, .int .i64 accm, .int .i64 auth, .int .u32 mm, .bool b1, .bool b2] 28)).heap[w.heap.size + 1]? = some (.cells #[.int .i64 mru, .int .i64 accm, .int .i64 auth, .int .u32 mm, .bool b1, .bool b2] 28 (0, 0))) := at_new1 (by simp)
  obtain ⟨⟨⟨⟨ra, rb⟩, rd⟩, re, rf⟩, hr⟩ : ∃ r, echoF code id xs mm = r := ⟨_, rfl⟩
  have HR := Lib.hid hr
  have HLE : Hid (rd.length ≤ 16384) := by have h1 := echoF_le code id xs mm; rw [hr] at h1; exact h1
  obtain ⟨⟨⟨ya, yb⟩, yd, ye⟩, hry⟩ : ∃ r, replyF code2 id magic xs = r := ⟨_, rfl⟩
  have HRY := Lib.hid hry
  have HLY : Hid (yd.length ≤ 16384) := by have h1 := replyF_le code2 id magic xs; rw [hry] at h1; exact h1
  clear hn hx hb hr hry
  go_enter Try.func4, Try.ntmps4
  go_wp2_with fail
  refine (lent_any A n c xs Hn.out hn' _ (by exact HX.out.ext)).mono ?_
  rintro e w1 ⟨g, cap, rfl, hcap, ho1, hb1⟩
  have HO1 := Lib.hid ho1
  have HC1 := Lib.hid (show Cells w1 (some ⟨g, 0, none⟩) (nums .u8 xs) from by have := own_cells ho1; rw [nums_append] at this; exact this.left)
  have S1 : Step w1 _ := ⟨hb1⟩
  clear ho1 hb1
  go_wp2_with
    (first
     | (refine wpList_load_row rfl 43 (.tmp 4) rfl w.heap.size rfl 43 #[.int .i64 code, .int .i64 id, .slice A n c] (0, 0) _ (at_ext HG0.out) Try.underlying43 rfl (by kernel_rfl) ?_))
  obtain ⟨wq, hwq⟩ : ∃ wq, w1.alloc (.cells #[.int .i64 code, .int .i64 id, .slice (some ⟨g, 0, none⟩) n cap] 43) = wq := ⟨_, rfl⟩
  have Sq : Step wq w1 := ⟨by rw [← hwq]; exact Ext.out⟩
  have HQ : Hid (wq.heap[w1.heap.size]? = some (.cells #[.int .i64 code, .int .i64 id, .slice (some ⟨g, 0, none⟩) n cap] 43 (0, 0))) := by unfold Hid; rw [← hwq]; exact at_new w1 _
  rw [hwq]
  clear hwq
  refine wp_region_held_drew (S := fun W => Ext wq W) (by kernel_rfl) (by exact inferInstance) (fun hHeld => ?_)
  refine wpAnyH_take (i := 0) (v := .agg #[.int .i64 code, .int .i64 id, .slice (some ⟨g, 0, none⟩) n cap]) rfl (by kernel_rfl) (by kernel_rfl) (by kernel_rfl) (fun _ _ _ h => h) (yields_row_S (by rfl) 43 (.tmp 10) rfl w1.heap.size rfl 43 #[.int .i64 code, .int .i64 id, .slice (some ⟨g, 0, none⟩) n cap] (0, 0) _ Try.underlying43 rfl (by kernel_rfl) (fun W hW => at_ext (h := hW) HQ.out)) hHeld ?_
  simp only [List.getElem_toArray, List.getElem_cons_succ, List.getElem_cons_zero, Act.put, List.setIfInBounds_toArray, List.set_cons_zero, List.set_cons_succ]
  refine wpAnyH_take (i := 1) (v := .agg #[.int .i64 mru, .int .i64 accm, .int .i64 auth, .int .u32 mm, .bool b1, .bool b2]) rfl (by kernel_rfl) (by kernel_rfl) (by kernel_rfl) (fun _ _ _ h => h) (yields_row_S (by rfl) 28 (.tmp 5) rfl (w.heap.size + 1) rfl 28 #[.int .i64 mru, .int .i64 accm, .int .i64 auth, .int .u32 mm, .bool b1, .bool b2] (0, 0) _ Try.underlying28 rfl (by kernel_rfl) (fun W hW => at_ext (h := hW) (at_ext HG1.out))) hHeld ?_
  simp only [List.getElem_toArray, List.getElem_cons_succ, List.getElem_cons_zero, Act.put, List.setIfInBounds_toArray, List.set_cons_zero, List.set_cons_succ]
  refine wpAnyH_ready (rs := [2, 8]) (by kernel_rfl) (by simp) ?_
  refine AllReadyH.cons rfl (fun K hK => ?_) (AllReadyH.cons rfl (fun K hK => ?_) AllReadyH.nil)
  · skip
    refine step_call_w (by rfl) Try.func15 (by kernel_rfl) (by kernel_rfl) #[.tmp 33] #[28] rfl #[.agg #[.int .i64 mru, .int .i64 accm, .int .i64 auth, .int .u32 mm, .bool b1, .bool b2]] ?hv (given_any mru accm auth mm b1 b2 _) ?_
    case hv => go_simp
    rintro e wg ⟨rfl, hbb⟩
    refine ⟨_, rfl, ?_⟩
    have Sg : Step wg _ := ⟨hbb⟩
    clear hbb hHeld
    refine hK.out _ _ (by exact inferInstance) (fun hHeld => ?_)
    clear hK K
    simp only [List.getElem_toArray, List.getElem_cons_succ, List.getElem_cons_zero, Act.put, List.setIfInBounds_toArray, List.set_cons_zero, List.set_cons_succ]
    refine wpAnyH_ready (rs := [3, 8]) (by kernel_rfl) (by simp) ?_
    refine AllReadyH.cons rfl (fun K hK => ?_) (AllReadyH.cons rfl (fun K hK => ?_) AllReadyH.nil)
    · skip
      refine step_call_w (by rfl) Try.func19 (by kernel_rfl) (by kernel_rfl) #[.tmp 32, .tmp 34] #[43, 33] rfl #[.agg #[.int .i64 code, .int .i64 id, .slice (some ⟨g, 0, none⟩) n cap], .agg #[.int .i64 mru, .int .i64 accm, .int .i64 auth, .int .u32 mm, .bool b1, .bool b2]] ?hv (lecho_any code id mru accm auth mm b1 b2 (some ⟨g, 0, none⟩) n cap xs hm0 hm1 Hn.out (by omega) HB.out _ HC1.out.ext) ?_
      case hv => go_simp
      rintro e we ⟨A3, c3, rfl, ho3, hb3⟩
      refine ⟨_, rfl, ?_⟩
      rw [HR.out] at ho3 ⊢
      simp only at ho3 ⊢
      have Se : Step we _ := ⟨hb3⟩
      have HO3 := Lib.hid ho3
      skip
      clear hb3 ho3 hHeld
      refine hK.out _ _ (by exact inferInstance) (fun hHeld => ?_)
      clear hK K
      simp only [List.getElem_toArray, List.getElem_cons_succ, List.getElem_cons_zero, Act.put, List.setIfInBounds_toArray, List.set_cons_zero, List.set_cons_succ]
      refine wpAnyH_take (i := 4) (v := ?_) rfl (by kernel_rfl) (by kernel_rfl) (by kernel_rfl) (fun _ _ _ h => h) (Yields.yieldsIf (Or.inl ⟨by rfl, ?_⟩)) hHeld ?_
      rotate_left
      · intro W
        go_simp
        try with_reducible rfl
      simp only [List.getElem_toArray, List.getElem_cons_succ, List.getElem_cons_zero, Act.put, List.setIfInBounds_toArray, List.set_cons_zero, List.set_cons_succ]
      refine wpAnyH_take (i := 5) (v := ?_) rfl (by kernel_rfl) (by kernel_rfl) (by kernel_rfl) (fun _ _ _ h => h) (Yields.yieldsIf (Or.inl ⟨by rfl, ?_⟩)) hHeld ?_
      rotate_left
      · intro W
        go_simp
        try with_reducible rfl
      simp only [List.getElem_toArray, List.getElem_cons_succ, List.getElem_cons_zero, Act.put, List.setIfInBounds_toArray, List.set_cons_zero, List.set_cons_succ]
      refine wpAnyH_take (i := 6) (v := ?_) rfl (by kernel_rfl) (by kernel_rfl) (by kernel_rfl) (fun _ _ _ h => h) (Yields.yieldsIf (Or.inl ⟨by rfl, ?_⟩)) hHeld ?_
      rotate_left
      · intro W
        go_simp
        try with_reducible rfl
      simp only [List.getElem_toArray, List.getElem_cons_succ, List.getElem_cons_zero, Act.put, List.setIfInBounds_toArray, List.set_cons_zero, List.set_cons_succ]
      refine wpAnyH_take (i := 7) (v := ?_) rfl (by kernel_rfl) (by kernel_rfl) (by kernel_rfl) (fun _ _ _ h => h) (Yields.yieldsIf (Or.inl ⟨by rfl, ?_⟩)) hHeld ?_
      rotate_left
      · intro W
        go_simp
        try with_reducible rfl
      simp only [List.getElem_toArray, List.getElem_cons_succ, List.getElem_cons_zero, Act.put, List.setIfInBounds_toArray, List.set_cons_zero, List.set_cons_succ]
      refine wpAnyH_ready (rs := [8]) (by kernel_rfl) (by simp) ?_
      refine AllReadyH.cons rfl (fun K hK => ?_) AllReadyH.nil
      rw [if_pos (by rfl)]
      unfold Oper.wp
      go_simp
      clear hHeld
      refine hK.out _ _ (by exact inferInstance) (fun hHeld => ?_)
      clear hK K
      try simp only [List.getElem_toArray, List.getElem_cons_succ, List.getElem_cons_zero, Act.put, List.setIfInBounds_toArray, List.set_cons_zero, List.set_cons_succ]
      refine wpAnyH_ready (rs := [9]) (by kernel_rfl) (by simp) ?_
      refine AllReadyH.cons rfl (fun K hK => ?_) AllReadyH.nil
      refine step_store_row (by rfl) 43 (.tmp 11) (.tmp 36) rfl we.heap.size #[.int .i64 ra, .int .i64 rb, .slice A3 rd.length c3] rfl rfl 43 #[.int .i64 0, .int .i64 0, .slice none 0 0] (at_new we zPk) (by kernel_rfl) rfl (by simp [Value.oneCell']) ?_
      clear hHeld
      have Xe : Ext wq we := inferInstance
      refine hK.out _ _ (Ext.setRow_ (inferInstance : Ext wq (we.alloc zPk)) Xe.out.size _) (fun hHeld => ?_)
      clear hK K
      simp only [List.getElem_toArray, List.getElem_cons_succ, List.getElem_cons_zero, Act.put, List.setIfInBounds_toArray, List.set_cons_zero, List.set_cons_succ]
      refine wpAnyH_take (i := 10) (v := ?_) rfl (by kernel_rfl) (by kernel_rfl) (by kernel_rfl) (fun _ _ _ h => h) (Yields.yieldsIf (Or.inl ⟨by rfl, ?_⟩)) hHeld ?_
      rotate_left
      · intro W
        go_simp
        try with_reducible rfl
      simp only [List.getElem_toArray, List.getElem_cons_succ, List.getElem_cons_zero, Act.put, List.setIfInBounds_toArray, List.set_cons_zero, List.set_cons_succ]
      refine wpAnyH_take (i := 11) (v := ?_) rfl (by kernel_rfl) (by kernel_rfl) (by kernel_rfl) (fun _ _ _ h => h) (Yields.yieldsIf (Or.inl ⟨by rfl, ?_⟩)) hHeld ?_
      rotate_left
      · intro W
        go_simp
        try with_reducible rfl
      simp only [List.getElem_toArray, List.getElem_cons_succ, List.getElem_cons_zero, Act.put, List.setIfInBounds_toArray, List.set_cons_zero, List.set_cons_succ]
      refine wpAnyH_done (by kernel_rfl) ?_ _
      clear hHeld
      obtain ⟨wf, hwf⟩ : ∃ wf, (we.alloc zPk).setRow we.heap.size #[.int .i64 ra, .int .i64 rb, .slice A3 rd.length c3] = wf := ⟨_, rfl⟩
      obtain ⟨bf, hbf⟩ : ∃ bf, we.heap.size = bf := ⟨_, rfl⟩
      have hal : wf = we.alloc (.cells #[.int .i64 ra, .int .i64 rb, .slice A3 rd.length c3] 43) := hwf.symm.trans (World.setRow_alloc_new we _ _ _)
      have Xf : Ext wq wf := by rw [hal]; exact inferInstance
      have Xfe : Ext we wf := by rw [hal]; exact inferInstance
      have HBF : Hid (wf.heap[bf]? = some (.cells #[.int .i64 ra, .int .i64 rb, .slice A3 rd.length c3] 43 (0, 0))) := by rw [hal, ← hbf]; exact at_new we _
      have hbq : wq.heap.size ≤ bf := by rw [← hbf]; exact Xe.out.size
      have HOF : Hid (wf.ownsRow wq.heap.size 5 1 (.slice A3 rd.length c3) rd.length (nums .u8 rd)) := own_weaken (own_ext HO3.out) (by first | exact size_ext | simp)
      have HNE : Hid ((Value.slice A3 rd.length c3).ownBlock ≠ some bf) := fun e => by
        have h1 := (HO3.out.lt _ e).2
        rw [hbf] at h1
        exact absurd h1 (Nat.lt_irrefl _)
      rw [hwf, hbf]
      clear hal hwf hbf
      have Sf : Step wf wq := ⟨Xf.out⟩
      have hzf : bf < wf.heap.size := at_lt HBF.out
      go_wp2_with
        (first
         | (refine wpList_load_row rfl 43 (.tmp 4) rfl w.heap.size rfl 43 #[.int .i64 code, .int .i64 id, .slice A n c] (0, 0) _ (at_ext HG0.out) Try.underlying43 rfl (by kernel_rfl) ?_)
         | (refine wpList_load_row rfl 28 (.tmp 5) rfl (w.heap.size + 1) rfl 28 #[.int .i64 mru, .int .i64 accm, .int .i64 auth, .int .u32 mm, .bool b1, .bool b2] (0, 0) _ (at_ext HG1.out) Try.underlying28 rfl (by kernel_rfl) ?_)
         | (refine wpList_load_row rfl 43 (.tmp 10) rfl w1.heap.size rfl 43 #[.int .i64 code, .int .i64 id, .slice (some ⟨g, 0, none⟩) n cap] (0, 0) _ (at_ext HQ.out) Try.underlying43 rfl (by kernel_rfl) ?_)
         | (refine wpList_load_row rfl 43 (.tmp 11) rfl bf rfl 43 #[.int .i64 ra, .int .i64 rb, .slice A3 rd.length c3] (0, 0) _ (at_ext HBF.out) Try.underlying43 rfl (by kernel_rfl) ?_))
      refine (recho_any code id mru accm auth mm b1 b2 A n c xs hm0 hm1 Hn.out hnc HB.out _ (by exact HX.out.ext)).mono ?_
      rintro e w3 ⟨A4, c4, rfl, ho4, hb4⟩
      rw [HR.out] at ho4 ⊢
      simp only at ho4 ⊢
      have S3 : Step w3 _ := ⟨hb4⟩
      have HO4 := Lib.hid ho4
      clear ho4 hb4
      have HN4 := Lib.hid (at_new w3 (.cells #[.int .i64 ra, .int .i64 rb, .slice A4 rd.length c4] 43))
      go_wp2_with
        (first
         | (refine wpList_load_row rfl 43 (.tmp 11) rfl bf rfl 43 #[.int .i64 ra, .int .i64 rb, .slice A3 rd.length c3] (0, 0) _ (at_ext HBF.out) Try.underlying43 rfl (by kernel_rfl) ?_)
         | (refine wpList_load_row rfl 43 (.tmp 14) rfl w3.heap.size rfl 43 #[.int .i64 ra, .int .i64 rb, .slice A4 rd.length c4] (0, 0) _ (at_ext HN4.out) Try.underlying43 rfl (by kernel_rfl) ?_))
      refine (samePacket_any ra rb ra rb A3 A4 rd.length rd.length c3 c4 rd rd rfl rfl (by have := HLE.out; omega) (by have := HLE.out; omega) _ (own_cells (own_ext HOF.out)) (own_cells (own_ext HO4.out))).mono ?_
      rintro e w5 ⟨rfl, hb5⟩
      have S5 : Step w5 _ := ⟨hb5⟩
      have m2 : w5.cell? ⟨bf, 2, none⟩ = some (.slice A3 rd.length c3) := at_cell (at_ext (w' := w5) HBF.out) 2
      clear hb5
      rw [pkSame_self]
      go_wp2_with fail
      refine (spoil_any A3 rd.length c3 _ rd _ (by have := HLE.out; omega) (own_ext HOF.out)).mono ?_
      rintro e w6 ⟨rfl, hg6⟩
      have S6 := Step.wrote (w0 := wq) hg6 (own_base HOF.out)
      clear hg6 m2
      clear S5 HN4 HO4 S3 hzf Sf HNE HBF HOF
      have p1 : w6.cell? ⟨w.heap.size, 1, none⟩ = some (.int .i64 id) := at_cell (at_ext (w' := w6) HG0.out) 1
      go_wp2_with fail
      refine (reply_any code2 id magic (some ⟨g, 0, none⟩) n cap xs hg0 hg1 Hn.out _ (by exact HC1.out.ext)).mono ?_
      rintro e w7 ⟨A7, c7, rfl, ho7, hb7⟩
      rw [HRY.out] at ho7 ⊢
      simp only at ho7 ⊢
      have S7 : Step w7 _ := ⟨hb7⟩
      have HO7 := Lib.hid ho7
      have HN7 := Lib.hid (at_new w7 (.cells #[.int .i64 ya, .int .i64 yb, .slice A7 yd.length c7] 43))
      have p1 : ∀ o, (w7.alloc o).cell? ⟨w.heap.size, 1, none⟩ = some (.int .i64 id) := fun o => at_cell (at_ext (w' := w7.alloc o) HG0.out) 1
      have p2 : ∀ o, (w7.alloc o).cell? ⟨w.heap.size, 2, none⟩ = some (.slice A n c) := fun o => at_cell (at_ext (w' := w7.alloc o) HG0.out) 2
      clear ho7 hb7
      go_wp2_with fail
      refine (rreply_any code2 id magic A n c xs hg0 hg1 Hn.out _ (by exact HX.out.ext)).mono ?_
      rintro e w8 ⟨A8, c8, rfl, ho8, hb8⟩
      rw [HRY.out] at ho8 ⊢
      simp only at ho8 ⊢
      have S8 : Step w8 _ := ⟨hb8⟩
      have HO8 := Lib.hid ho8
      have HN8 := Lib.hid (at_new w8 (.cells #[.int .i64 ya, .int .i64 yb, .slice A8 yd.length c8] 43))
      clear ho8 hb8 p1 p2
      go_wp2_with
        (first
         | (refine wpList_load_row rfl 43 (.tmp 17) rfl w7.heap.size rfl 43 #[.int .i64 ya, .int .i64 yb, .slice A7 yd.length c7] (0, 0) _ (at_ext HN7.out) Try.underlying43 rfl (by kernel_rfl) ?_)
         | (refine wpList_load_row rfl 43 (.tmp 19) rfl w8.heap.size rfl 43 #[.int .i64 ya, .int .i64 yb, .slice A8 yd.length c8] (0, 0) _ (at_ext HN8.out) Try.underlying43 rfl (by kernel_rfl) ?_))
      refine (samePacket_any ya yb ya yb A7 A8 yd.length yd.length c7 c8 yd yd rfl rfl (by have := HLY.out; omega) (by have := HLY.out; omega) _ (own_cells (own_ext HO7.out)) (own_cells (own_ext HO8.out))).mono ?_
      rintro e w9 ⟨rfl, hb9⟩
      have S9 : Step w9 _ := ⟨hb9⟩
      have m2 : w9.cell? ⟨w7.heap.size, 2, none⟩ = some (.slice A7 yd.length c7) := at_cell (at_ext (w' := w9) HN7.out) 2
      clear hb9
      rw [pkSame_self]
      go_wp2_with fail
      refine (spoil_any A7 yd.length c7 _ yd _ (by have := HLY.out; omega) (own_ext HO7.out)).mono ?_
      rintro e wa ⟨rfl, hga⟩
      have Sa := Step.wrote (w0 := w6) hga (own_base HO7.out)
      clear hga m2
      clear S9 HN8 HO8 HN7 HO7 S8 S7
      go_wp2_with
        (first
         | (refine wpList_load_row rfl 43 (.tmp 4) rfl w.heap.size rfl 43 #[.int .i64 code, .int .i64 id, .slice A n c] (0, 0) _ (at_ext HG0.out) Try.underlying43 rfl (by kernel_rfl) ?_)
         | (refine wpList_load_row rfl 43 (.tmp 10) rfl w1.heap.size rfl 43 #[.int .i64 code, .int .i64 id, .slice (some ⟨g, 0, none⟩) n cap] (0, 0) _ (at_ext HQ.out) Try.underlying43 rfl (by kernel_rfl) ?_))
      refine (lrej_any code id (some ⟨g, 0, none⟩) n cap xs Hn.out (by omega) HB.out _ (by exact HC1.out.ext)).mono ?_
      rintro e wb ⟨rfl, hbb⟩
      have Sb : Step wb _ := ⟨hbb⟩
      clear hbb
      go_wp2_with
        (first
         | (refine wpList_load_row rfl 43 (.tmp 4) rfl w.heap.size rfl 43 #[.int .i64 code, .int .i64 id, .slice A n c] (0, 0) _ (at_ext HG0.out) Try.underlying43 rfl (by kernel_rfl) ?_)
         | (refine wpList_load_row rfl 43 (.tmp 10) rfl w1.heap.size rfl 43 #[.int .i64 code, .int .i64 id, .slice (some ⟨g, 0, none⟩) n cap] (0, 0) _ (at_ext HQ.out) Try.underlying43 rfl (by kernel_rfl) ?_))
      refine (rrej_any code id A n c xs Hn.out hnc HB.out _ (by exact HX.out.ext)).mono ?_
      rintro e wc ⟨rfl, hbc⟩
      have Sc : Step wc _ := ⟨hbc⟩
      have p2 : wc.cell? ⟨w.heap.size, 2, none⟩ = some (.slice A n c) := at_cell (at_ext (w' := wc) HG0.out) 2
      clear hbc
      generalize rejF code xs = RJ at *
      go_wp2_with fail
      refine (kept_true g cap n n c _ A xs Hn.out rfl hcap hn' _ (own_ext HO1.out) HX.out.ext).mono ?_
      rintro e wd ⟨rfl, qd, rfl⟩
      go_wp2_with fail
      refine (known11_any _).mono ?_
      rintro e wz ⟨rfl, hbz⟩
      have Sz : Step wz _ := ⟨hbz⟩
      clear hbz
      go_wp2_with fail
      go_ret
      exact ⟨rfl, Ext.out⟩
    · skip
      rw [if_pos (by rfl)]
      unfold Oper.wp
      go_simp
      clear hHeld
      refine hK.out _ _ (by exact inferInstance) (fun hHeld => ?_)
      clear hK K
      try simp only [List.getElem_toArray, List.getElem_cons_succ, List.getElem_cons_zero, Act.put, List.setIfInBounds_toArray, List.set_cons_zero, List.set_cons_succ]
      refine wpAnyH_ready (rs := [3]) (by kernel_rfl) (by simp) ?_
      refine AllReadyH.cons rfl (fun K hK => ?_) AllReadyH.nil
      refine step_call_w (by rfl) Try.func19 (by kernel_rfl) (by kernel_rfl) #[.tmp 32, .tmp 34] #[43, 33] rfl #[.agg #[.int .i64 code, .int .i64 id, .slice (some ⟨g, 0, none⟩) n cap], .agg #[.int .i64 mru, .int .i64 accm, .int .i64 auth, .int .u32 mm, .bool b1, .bool b2]] ?hv (lecho_any code id mru accm auth mm b1 b2 (some ⟨g, 0, none⟩) n cap xs hm0 hm1 Hn.out (by omega) HB.out _ HC1.out.ext) ?_
      case hv => go_simp
      rintro e we ⟨A3, c3, rfl, ho3, hb3⟩
      refine ⟨_, rfl, ?_⟩
      rw [HR.out] at ho3 ⊢
      simp only at ho3 ⊢
      have Se : Step we _ := ⟨hb3⟩
      have HO3 := Lib.hid ho3
      have HZ3 : Hid (we.heap[wg.heap.size]? = some zPk) := at_ext (w := wg.alloc zPk) (at_new wg zPk)
      clear hb3 ho3 hHeld
      refine hK.out _ _ (by exact inferInstance) (fun hHeld => ?_)
      clear hK K
      simp only [List.getElem_toArray, List.getElem_cons_succ, List.getElem_cons_zero, Act.put, List.setIfInBounds_toArray, List.set_cons_zero, List.set_cons_succ]
      refine wpAnyH_take (i := 4) (v := ?_) rfl (by kernel_rfl) (by kernel_rfl) (by kernel_rfl) (fun _ _ _ h => h) (Yields.yieldsIf (Or.inl ⟨by rfl, ?_⟩)) hHeld ?_
      rotate_left
      · intro W
        go_simp
        try with_reducible rfl
      simp only [List.getElem_toArray, List.getElem_cons_succ, List.getElem_cons_zero, Act.put, List.setIfInBounds_toArray, List.set_cons_zero, List.set_cons_succ]
      refine wpAnyH_take (i := 5) (v := ?_) rfl (by kernel_rfl) (by kernel_rfl) (by kernel_rfl) (fun _ _ _ h => h) (Yields.yieldsIf (Or.inl ⟨by rfl, ?_⟩)) hHeld ?_
      rotate_left
      · intro W
        go_simp
        try with_reducible rfl
      simp only [List.getElem_toArray, List.getElem_cons_succ, List.getElem_cons_zero, Act.put, List.setIfInBounds_toArray, List.set_cons_zero, List.set_cons_succ]
      refine wpAnyH_take (i := 6) (v := ?_) rfl (by kernel_rfl) (by kernel_rfl) (by kernel_rfl) (fun _ _ _ h => h) (Yields.yieldsIf (Or.inl ⟨by rfl, ?_⟩)) hHeld ?_
      rotate_left
      · intro W
        go_simp
        try with_reducible rfl
      simp only [List.getElem_toArray, List.getElem_cons_succ, List.getElem_cons_zero, Act.put, List.setIfInBounds_toArray, List.set_cons_zero, List.set_cons_succ]
      refine wpAnyH_take (i := 7) (v := ?_) rfl (by kernel_rfl) (by kernel_rfl) (by kernel_rfl) (fun _ _ _ h => h) (Yields.yieldsIf (Or.inl ⟨by rfl, ?_⟩)) hHeld ?_
      rotate_left
      · intro W
        go_simp
        try with_reducible rfl
      simp only [List.getElem_toArray, List.getElem_cons_succ, List.getElem_cons_zero, Act.put, List.setIfInBounds_toArray, List.set_cons_zero, List.set_cons_succ]
      refine wpAnyH_ready (rs := [9]) (by kernel_rfl) (by simp) ?_
      refine AllReadyH.cons rfl (fun K hK => ?_) AllReadyH.nil
      refine step_store_row (by rfl) 43 (.tmp 11) (.tmp 36) rfl wg.heap.size #[.int .i64 ra, .int .i64 rb, .slice A3 rd.length c3] rfl rfl 43 #[.int .i64 0, .int .i64 0, .slice none 0 0] HZ3.out (by kernel_rfl) rfl (by simp [Value.oneCell']) ?_
      clear hHeld
      have Xe : Ext wq we := inferInstance
      have hbq : wq.heap.size ≤ wg.heap.size := by first | exact size_ext | simp
      refine hK.out _ _ (Ext.setRow_ Xe hbq _) (fun hHeld => ?_)
      clear hK K
      simp only [List.getElem_toArray, List.getElem_cons_succ, List.getElem_cons_zero, Act.put, List.setIfInBounds_toArray, List.set_cons_zero, List.set_cons_succ]
      refine wpAnyH_take (i := 10) (v := ?_) rfl (by kernel_rfl) (by kernel_rfl) (by kernel_rfl) (fun _ _ _ h => h) (Yields.yieldsIf (Or.inl ⟨by rfl, ?_⟩)) hHeld ?_
      rotate_left
      · intro W
        go_simp
        try with_reducible rfl
      simp only [List.getElem_toArray, List.getElem_cons_succ, List.getElem_cons_zero, Act.put, List.setIfInBounds_toArray, List.set_cons_zero, List.set_cons_succ]
      refine wpAnyH_take (i := 11) (v := ?_) rfl (by kernel_rfl) (by kernel_rfl) (by kernel_rfl) (fun _ _ _ h => h) (Yields.yieldsIf (Or.inl ⟨by rfl, ?_⟩)) hHeld ?_
      rotate_left
      · intro W
        go_simp
        try with_reducible rfl
      simp only [List.getElem_toArray, List.getElem_cons_succ, List.getElem_cons_zero, Act.put, List.setIfInBounds_toArray, List.set_cons_zero, List.set_cons_succ]
      refine wpAnyH_done (by kernel_rfl) ?_ _
      clear hHeld
      have HNE : Hid ((Value.slice A3 rd.length c3).ownBlock ≠ some wg.heap.size) := fun e => by
        have h1 := own_base HO3.out _ e
        have h2 := size_ext (w := wq) (w' := wg)
        simp at h1 h2
        omega
      have hof : (we.setRow wg.heap.size #[.int .i64 ra, .int .i64 rb, .slice A3 rd.length c3]).ownsRow wq.heap.size 5 1 (.slice A3 rd.length c3) rd.length (nums .u8 rd) := own_weaken (own_setRow HO3.out HNE.out _) (by first | exact size_ext | simp)
      obtain ⟨wf, hwf⟩ : ∃ wf, we.setRow wg.heap.size #[.int .i64 ra, .int .i64 rb, .slice A3 rd.length c3] = wf := ⟨_, rfl⟩
      have HBF : Hid (wf.heap[wg.heap.size]? = some (.cells #[.int .i64 ra, .int .i64 rb, .slice A3 rd.length c3] 43 (0, 0))) := by rw [← hwf]; exact setRow_heap _ _ _ _ _ _ HZ3.out
      have Xf : Ext wq wf := by rw [← hwf]; exact Ext.setRow_ Xe hbq _
      obtain ⟨bf, hbf⟩ : ∃ bf, wg.heap.size = bf := ⟨_, rfl⟩
      rw [hwf] at hof ⊢
      rw [hbf] at HBF HNE hbq ⊢
      have HOF := Lib.hid hof
      clear hwf hbf hof
      have Sf : Step wf wq := ⟨Xf.out⟩
      have hzf : bf < wf.heap.size := at_lt HBF.out
      go_wp2_with
        (first
         | (refine wpList_load_row rfl 43 (.tmp 4) rfl w.heap.size rfl 43 #[.int .i64 code, .int .i64 id, .slice A n c] (0, 0) _ (at_ext HG0.out) Try.underlying43 rfl (by kernel_rfl) ?_)
         | (refine wpList_load_row rfl 28 (.tmp 5) rfl (w.heap.size + 1) rfl 28 #[.int .i64 mru, .int .i64 accm, .int .i64 auth, .int .u32 mm, .bool b1, .bool b2] (0, 0) _ (at_ext HG1.out) Try.underlying28 rfl (by kernel_rfl) ?_)
         | (refine wpList_load_row rfl 43 (.tmp 10) rfl w1.heap.size rfl 43 #[.int .i64 code, .int .i64 id, .slice (some ⟨g, 0, none⟩) n cap] (0, 0) _ (at_ext HQ.out) Try.underlying43 rfl (by kernel_rfl) ?_)
         | (refine wpList_load_row rfl 43 (.tmp 11) rfl bf rfl 43 #[.int .i64 ra, .int .i64 rb, .slice A3 rd.length c3] (0, 0) _ (at_ext HBF.out) Try.underlying43 rfl (by kernel_rfl) ?_))
      refine (recho_any code id mru accm auth mm b1 b2 A n c xs hm0 hm1 Hn.out hnc HB.out _ (by exact HX.out.ext)).mono ?_
      rintro e w3 ⟨A4, c4, rfl, ho4, hb4⟩
      rw [HR.out] at ho4 ⊢
      simp only at ho4 ⊢
      have S3 : Step w3 _ := ⟨hb4⟩
      have HO4 := Lib.hid ho4
      clear ho4 hb4
      have HN4 := Lib.hid (at_new w3 (.cells #[.int .i64 ra, .int .i64 rb, .slice A4 rd.length c4] 43))
      go_wp2_with
        (first
         | (refine wpList_load_row rfl 43 (.tmp 11) rfl bf rfl 43 #[.int .i64 ra, .int .i64 rb, .slice A3 rd.length c3] (0, 0) _ (at_ext HBF.out) Try.underlying43 rfl (by kernel_rfl) ?_)
         | (refine wpList_load_row rfl 43 (.tmp 14) rfl w3.heap.size rfl 43 #[.int .i64 ra, .int .i64 rb, .slice A4 rd.length c4] (0, 0) _ (at_ext HN4.out) Try.underlying43 rfl (by kernel_rfl) ?_))
      refine (samePacket_any ra rb ra rb A3 A4 rd.length rd.length c3 c4 rd rd rfl rfl (by have := HLE.out; omega) (by have := HLE.out; omega) _ (own_cells (own_ext HOF.out)) (own_cells (own_ext HO4.out))).mono ?_
      rintro e w5 ⟨rfl, hb5⟩
      have S5 : Step w5 _ := ⟨hb5⟩
      have m2 : w5.cell? ⟨bf, 2, none⟩ = some (.slice A3 rd.length c3) := at_cell (at_ext (w' := w5) HBF.out) 2
      clear hb5
      rw [pkSame_self]
      go_wp2_with fail
      refine (spoil_any A3 rd.length c3 _ rd _ (by have := HLE.out; omega) (own_ext HOF.out)).mono ?_
      rintro e w6 ⟨rfl, hg6⟩
      have S6 := Step.wrote (w0 := wq) hg6 (own_base HOF.out)
      clear hg6 m2
      clear S5 HN4 HO4 S3 hzf Sf HNE HBF HOF
      have p1 : w6.cell? ⟨w.heap.size, 1, none⟩ = some (.int .i64 id) := at_cell (at_ext (w' := w6) HG0.out) 1
      go_wp2_with fail
      refine (reply_any code2 id magic (some ⟨g, 0, none⟩) n cap xs hg0 hg1 Hn.out _ (by exact HC1.out.ext)).mono ?_
      rintro e w7 ⟨A7, c7, rfl, ho7, hb7⟩
      rw [HRY.out] at ho7 ⊢
      simp only at ho7 ⊢
      have S7 : Step w7 _ := ⟨hb7⟩
      have HO7 := Lib.hid ho7
      have HN7 := Lib.hid (at_new w7 (.cells #[.int .i64 ya, .int .i64 yb, .slice A7 yd.length c7] 43))
      have p1 : ∀ o, (w7.alloc o).cell? ⟨w.heap.size, 1, none⟩ = some (.int .i64 id) := fun o => at_cell (at_ext (w' := w7.alloc o) HG0.out) 1
      have p2 : ∀ o, (w7.alloc o).cell? ⟨w.heap.size, 2, none⟩ = some (.slice A n c) := fun o => at_cell (at_ext (w' := w7.alloc o) HG0.out) 2
      clear ho7 hb7
      go_wp2_with fail
      refine (rreply_any code2 id magic A n c xs hg0 hg1 Hn.out _ (by exact HX.out.ext)).mono ?_
      rintro e w8 ⟨A8, c8, rfl, ho8, hb8⟩
      rw [HRY.out] at ho8 ⊢
      simp only at ho8 ⊢
      have S8 : Step w8 _ := ⟨hb8⟩
      have HO8 := Lib.hid ho8
      have HN8 := Lib.hid (at_new w8 (.cells #[.int .i64 ya, .int .i64 yb, .slice A8 yd.length c8] 43))
      clear ho8 hb8 p1 p2
      go_wp2_with
        (first
         | (refine wpList_load_row rfl 43 (.tmp 17) rfl w7.heap.size rfl 43 #[.int .i64 ya, .int .i64 yb, .slice A7 yd.length c7] (0, 0) _ (at_ext HN7.out) Try.underlying43 rfl (by kernel_rfl) ?_)
         | (refine wpList_load_row rfl 43 (.tmp 19) rfl w8.heap.size rfl 43 #[.int .i64 ya, .int .i64 yb, .slice A8 yd.length c8] (0, 0) _ (at_ext HN8.out) Try.underlying43 rfl (by kernel_rfl) ?_))
      refine (samePacket_any ya yb ya yb A7 A8 yd.length yd.length c7 c8 yd yd rfl rfl (by have := HLY.out; omega) (by have := HLY.out; omega) _ (own_cells (own_ext HO7.out)) (own_cells (own_ext HO8.out))).mono ?_
      rintro e w9 ⟨rfl, hb9⟩
      have S9 : Step w9 _ := ⟨hb9⟩
      have m2 : w9.cell? ⟨w7.heap.size, 2, none⟩ = some (.slice A7 yd.length c7) := at_cell (at_ext (w' := w9) HN7.out) 2
      clear hb9
      rw [pkSame_self]
      go_wp2_with fail
      refine (spoil_any A7 yd.length c7 _ yd _ (by have := HLY.out; omega) (own_ext HO7.out)).mono ?_
      rintro e wa ⟨rfl, hga⟩
      have Sa := Step.wrote (w0 := w6) hga (own_base HO7.out)
      clear hga m2
      clear S9 HN8 HO8 HN7 HO7 S8 S7
      go_wp2_with
        (first
         | (refine wpList_load_row rfl 43 (.tmp 4) rfl w.heap.size rfl 43 #[.int .i64 code, .int .i64 id, .slice A n c] (0, 0) _ (at_ext HG0.out) Try.underlying43 rfl (by kernel_rfl) ?_)
         | (refine wpList_load_row rfl 43 (.tmp 10) rfl w1.heap.size rfl 43 #[.int .i64 code, .int .i64 id, .slice (some ⟨g, 0, none⟩) n cap] (0, 0) _ (at_ext HQ.out) Try.underlying43 rfl (by kernel_rfl) ?_))
      refine (lrej_any code id (some ⟨g, 0, none⟩) n cap xs Hn.out (by omega) HB.out _ (by exact HC1.out.ext)).mono ?_
      rintro e wb ⟨rfl, hbb⟩
      have Sb : Step wb _ := ⟨hbb⟩
      clear hbb
      go_wp2_with
        (first
         | (refine wpList_load_row rfl 43 (.tmp 4) rfl w.heap.size rfl 43 #[.int .i64 code, .int .i64 id, .slice A n c] (0, 0) _ (at_ext HG0.out) Try.underlying43 rfl (by kernel_rfl) ?_)
         | (refine wpList_load_row rfl 43 (.tmp 10) rfl w1.heap.size rfl 43 #[.int .i64 code, .int .i64 id, .slice (some ⟨g, 0, none⟩) n cap] (0, 0) _ (at_ext HQ.out) Try.underlying43 rfl (by kernel_rfl) ?_))
      refine (rrej_any code id A n c xs Hn.out hnc HB.out _ (by exact HX.out.ext)).mono ?_
      rintro e wc ⟨rfl, hbc⟩
      have Sc : Step wc _ := ⟨hbc⟩
      have p2 : wc.cell? ⟨w.heap.size, 2, none⟩ = some (.slice A n c) := at_cell (at_ext (w' := wc) HG0.out) 2
      clear hbc
      generalize rejF code xs = RJ at *
      go_wp2_with fail
      refine (kept_true g cap n n c _ A xs Hn.out rfl hcap hn' _ (own_ext HO1.out) HX.out.ext).mono ?_
      rintro e wd ⟨rfl, qd, rfl⟩
      go_wp2_with fail
      refine (known11_any _).mono ?_
      rintro e wz ⟨rfl, hbz⟩
      have Sz : Step wz _ := ⟨hbz⟩
      clear hbz
      go_wp2_with fail
      go_ret
      exact ⟨rfl, Ext.out⟩
  · skip
    rw [if_pos (by rfl)]
    unfold Oper.wp
    go_simp
    clear hHeld
    refine hK.out _ _ (by exact inferInstance) (fun hHeld => ?_)
    clear hK K
    try simp only [List.getElem_toArray, List.getElem_cons_succ, List.getElem_cons_zero, Act.put, List.setIfInBounds_toArray, List.set_cons_zero, List.set_cons_succ]
    refine wpAnyH_ready (rs := [2]) (by kernel_rfl) (by simp) ?_
    refine AllReadyH.cons rfl (fun K hK => ?_) AllReadyH.nil
    refine step_call_w (by rfl) Try.func15 (by kernel_rfl) (by kernel_rfl) #[.tmp 33] #[28] rfl #[.agg #[.int .i64 mru, .int .i64 accm, .int .i64 auth, .int .u32 mm, .bool b1, .bool b2]] ?hv (given_any mru accm auth mm b1 b2 _) ?_
    case hv => go_simp
    rintro e wg ⟨rfl, hbb⟩
    refine ⟨_, rfl, ?_⟩
    have Sg : Step wg _ := ⟨hbb⟩
    clear hbb hHeld
    refine hK.out _ _ (by exact inferInstance) (fun hHeld => ?_)
    clear hK K
    simp only [List.getElem_toArray, List.getElem_cons_succ, List.getElem_cons_zero, Act.put, List.setIfInBounds_toArray, List.set_cons_zero, List.set_cons_succ]
    refine wpAnyH_ready (rs := [3]) (by kernel_rfl) (by simp) ?_
    refine AllReadyH.cons rfl (fun K hK => ?_) AllReadyH.nil
    refine step_call_w (by rfl) Try.func19 (by kernel_rfl) (by kernel_rfl) #[.tmp 32, .tmp 34] #[43, 33] rfl #[.agg #[.int .i64 code, .int .i64 id, .slice (some ⟨g, 0, none⟩) n cap], .agg #[.int .i64 mru, .int .i64 accm, .int .i64 auth, .int .u32 mm, .bool b1, .bool b2]] ?hv (lecho_any code id mru accm auth mm b1 b2 (some ⟨g, 0, none⟩) n cap xs hm0 hm1 Hn.out (by omega) HB.out _ HC1.out.ext) ?_
    case hv => go_simp
    rintro e we ⟨A3, c3, rfl, ho3, hb3⟩
    refine ⟨_, rfl, ?_⟩
    rw [HR.out] at ho3 ⊢
    simp only at ho3 ⊢
    have Se : Step we _ := ⟨hb3⟩
    have HO3 := Lib.hid ho3
    have HZ3 : Hid (we.heap[wq.heap.size]? = some zPk) := at_ext (w := wq.alloc zPk) (at_new wq zPk)
    clear hb3 ho3 hHeld
    refine hK.out _ _ (by exact inferInstance) (fun hHeld => ?_)
    clear hK K
    simp only [List.getElem_toArray, List.getElem_cons_succ, List.getElem_cons_zero, Act.put, List.setIfInBounds_toArray, List.set_cons_zero, List.set_cons_succ]
    refine wpAnyH_take (i := 4) (v := ?_) rfl (by kernel_rfl) (by kernel_rfl) (by kernel_rfl) (fun _ _ _ h => h) (Yields.yieldsIf (Or.inl ⟨by rfl, ?_⟩)) hHeld ?_
    rotate_left
    · intro W
      go_simp
      try with_reducible rfl
    simp only [List.getElem_toArray, List.getElem_cons_succ, List.getElem_cons_zero, Act.put, List.setIfInBounds_toArray, List.set_cons_zero, List.set_cons_succ]
    refine wpAnyH_take (i := 5) (v := ?_) rfl (by kernel_rfl) (by kernel_rfl) (by kernel_rfl) (fun _ _ _ h => h) (Yields.yieldsIf (Or.inl ⟨by rfl, ?_⟩)) hHeld ?_
    rotate_left
    · intro W
      go_simp
      try with_reducible rfl
    simp only [List.getElem_toArray, List.getElem_cons_succ, List.getElem_cons_zero, Act.put, List.setIfInBounds_toArray, List.set_cons_zero, List.set_cons_succ]
    refine wpAnyH_take (i := 6) (v := ?_) rfl (by kernel_rfl) (by kernel_rfl) (by kernel_rfl) (fun _ _ _ h => h) (Yields.yieldsIf (Or.inl ⟨by rfl, ?_⟩)) hHeld ?_
    rotate_left
    · intro W
      go_simp
      try with_reducible rfl
    simp only [List.getElem_toArray, List.getElem_cons_succ, List.getElem_cons_zero, Act.put, List.setIfInBounds_toArray, List.set_cons_zero, List.set_cons_succ]
    refine wpAnyH_take (i := 7) (v := ?_) rfl (by kernel_rfl) (by kernel_rfl) (by kernel_rfl) (fun _ _ _ h => h) (Yields.yieldsIf (Or.inl ⟨by rfl, ?_⟩)) hHeld ?_
    rotate_left
    · intro W
      go_simp
      try with_reducible rfl
    simp only [List.getElem_toArray, List.getElem_cons_succ, List.getElem_cons_zero, Act.put, List.setIfInBounds_toArray, List.set_cons_zero, List.set_cons_succ]
    refine wpAnyH_ready (rs := [9]) (by kernel_rfl) (by simp) ?_
    refine AllReadyH.cons rfl (fun K hK => ?_) AllReadyH.nil
    refine step_store_row (by rfl) 43 (.tmp 11) (.tmp 36) rfl wq.heap.size #[.int .i64 ra, .int .i64 rb, .slice A3 rd.length c3] rfl rfl 43 #[.int .i64 0, .int .i64 0, .slice none 0 0] HZ3.out (by kernel_rfl) rfl (by simp [Value.oneCell']) ?_
    clear hHeld
    have Xe : Ext wq we := inferInstance
    have hbq : wq.heap.size ≤ wq.heap.size := by first | exact size_ext | simp
    refine hK.out _ _ (Ext.setRow_ Xe hbq _) (fun hHeld => ?_)
    clear hK K
    simp only [List.getElem_toArray, List.getElem_cons_succ, List.getElem_cons_zero, Act.put, List.setIfInBounds_toArray, List.set_cons_zero, List.set_cons_succ]
    refine wpAnyH_take (i := 10) (v := ?_) rfl (by kernel_rfl) (by kernel_rfl) (by kernel_rfl) (fun _ _ _ h => h) (Yields.yieldsIf (Or.inl ⟨by rfl, ?_⟩)) hHeld ?_
    rotate_left
    · intro W
      go_simp
      try with_reducible rfl
    simp only [List.getElem_toArray, List.getElem_cons_succ, List.getElem_cons_zero, Act.put, List.setIfInBounds_toArray, List.set_cons_zero, List.set_cons_succ]
    refine wpAnyH_take (i := 11) (v := ?_) rfl (by kernel_rfl) (by kernel_rfl) (by kernel_rfl) (fun _ _ _ h => h) (Yields.yieldsIf (Or.inl ⟨by rfl, ?_⟩)) hHeld ?_
    rotate_left
    · intro W
      go_simp
      try with_reducible rfl
    simp only [List.getElem_toArray, List.getElem_cons_succ, List.getElem_cons_zero, Act.put, List.setIfInBounds_toArray, List.set_cons_zero, List.set_cons_succ]
    refine wpAnyH_done (by kernel_rfl) ?_ _
    clear hHeld
    have HNE : Hid ((Value.slice A3 rd.length c3).ownBlock ≠ some wq.heap.size) := fun e => by
      have h1 := own_base HO3.out _ e
      have h2 := size_ext (w := wq.alloc zPk) (w' := wg)
      simp at h1 h2
      omega
    have hof : (we.setRow wq.heap.size #[.int .i64 ra, .int .i64 rb, .slice A3 rd.length c3]).ownsRow wq.heap.size 5 1 (.slice A3 rd.length c3) rd.length (nums .u8 rd) := own_weaken (own_setRow HO3.out HNE.out _) (by first | exact size_ext | simp)
    obtain ⟨wf, hwf⟩ : ∃ wf, we.setRow wq.heap.size #[.int .i64 ra, .int .i64 rb, .slice A3 rd.length c3] = wf := ⟨_, rfl⟩
    have HBF : Hid (wf.heap[wq.heap.size]? = some (.cells #[.int .i64 ra, .int .i64 rb, .slice A3 rd.length c3] 43 (0, 0))) := by rw [← hwf]; exact setRow_heap _ _ _ _ _ _ HZ3.out
    have Xf : Ext wq wf := by rw [← hwf]; exact Ext.setRow_ Xe hbq _
    obtain ⟨bf, hbf⟩ : ∃ bf, wq.heap.size = bf := ⟨_, rfl⟩
    rw [hwf] at hof ⊢
    rw [hbf] at HBF HNE hbq ⊢
    have HOF := Lib.hid hof
    clear hwf hbf hof
    have Sf : Step wf wq := ⟨Xf.out⟩
    have hzf : bf < wf.heap.size := at_lt HBF.out
    go_wp2_with
      (first
       | (refine wpList_load_row rfl 43 (.tmp 4) rfl w.heap.size rfl 43 #[.int .i64 code, .int .i64 id, .slice A n c] (0, 0) _ (at_ext HG0.out) Try.underlying43 rfl (by kernel_rfl) ?_)
       | (refine wpList_load_row rfl 28 (.tmp 5) rfl (w.heap.size + 1) rfl 28 #[.int .i64 mru, .int .i64 accm, .int .i64 auth, .int .u32 mm, .bool b1, .bool b2] (0, 0) _ (at_ext HG1.out) Try.underlying28 rfl (by kernel_rfl) ?_)
       | (refine wpList_load_row rfl 43 (.tmp 10) rfl w1.heap.size rfl 43 #[.int .i64 code, .int .i64 id, .slice (some ⟨g, 0, none⟩) n cap] (0, 0) _ (at_ext HQ.out) Try.underlying43 rfl (by kernel_rfl) ?_)
       | (refine wpList_load_row rfl 43 (.tmp 11) rfl bf rfl 43 #[.int .i64 ra, .int .i64 rb, .slice A3 rd.length c3] (0, 0) _ (at_ext HBF.out) Try.underlying43 rfl (by kernel_rfl) ?_))
    refine (recho_any code id mru accm auth mm b1 b2 A n c xs hm0 hm1 Hn.out hnc HB.out _ (by exact HX.out.ext)).mono ?_
    rintro e w3 ⟨A4, c4, rfl, ho4, hb4⟩
    rw [HR.out] at ho4 ⊢
    simp only at ho4 ⊢
    have S3 : Step w3 _ := ⟨hb4⟩
    have HO4 := Lib.hid ho4
    clear ho4 hb4
    have HN4 := Lib.hid (at_new w3 (.cells #[.int .i64 ra, .int .i64 rb, .slice A4 rd.length c4] 43))
    go_wp2_with
      (first
       | (refine wpList_load_row rfl 43 (.tmp 11) rfl bf rfl 43 #[.int .i64 ra, .int .i64 rb, .slice A3 rd.length c3] (0, 0) _ (at_ext HBF.out) Try.underlying43 rfl (by kernel_rfl) ?_)
       | (refine wpList_load_row rfl 43 (.tmp 14) rfl w3.heap.size rfl 43 #[.int .i64 ra, .int .i64 rb, .slice A4 rd.length c4] (0, 0) _ (at_ext HN4.out) Try.underlying43 rfl (by kernel_rfl) ?_))
    refine (samePacket_any ra rb ra rb A3 A4 rd.length rd.length c3 c4 rd rd rfl rfl (by have := HLE.out; omega) (by have := HLE.out; omega) _ (own_cells (own_ext HOF.out)) (own_cells (own_ext HO4.out))).mono ?_
    rintro e w5 ⟨rfl, hb5⟩
    have S5 : Step w5 _ := ⟨hb5⟩
    have m2 : w5.cell? ⟨bf, 2, none⟩ = some (.slice A3 rd.length c3) := at_cell (at_ext (w' := w5) HBF.out) 2
    clear hb5
    rw [pkSame_self]
    go_wp2_with fail
    refine (spoil_any A3 rd.length c3 _ rd _ (by have := HLE.out; omega) (own_ext HOF.out)).mono ?_
    rintro e w6 ⟨rfl, hg6⟩
    have S6 := Step.wrote (w0 := wq) hg6 (own_base HOF.out)
    clear hg6 m2
    clear S5 HN4 HO4 S3 hzf Sf HNE HBF HOF
    have p1 : w6.cell? ⟨w.heap.size, 1, none⟩ = some (.int .i64 id) := at_cell (at_ext (w' := w6) HG0.out) 1
    go_wp2_with fail
    refine (reply_any code2 id magic (some ⟨g, 0, none⟩) n cap xs hg0 hg1 Hn.out _ (by exact HC1.out.ext)).mono ?_
    rintro e w7 ⟨A7, c7, rfl, ho7, hb7⟩
    rw [HRY.out] at ho7 ⊢
    simp only at ho7 ⊢
    have S7 : Step w7 _ := ⟨hb7⟩
    have HO7 := Lib.hid ho7
    have HN7 := Lib.hid (at_new w7 (.cells #[.int .i64 ya, .int .i64 yb, .slice A7 yd.length c7] 43))
    have p1 : ∀ o, (w7.alloc o).cell? ⟨w.heap.size, 1, none⟩ = some (.int .i64 id) := fun o => at_cell (at_ext (w' := w7.alloc o) HG0.out) 1
    have p2 : ∀ o, (w7.alloc o).cell? ⟨w.heap.size, 2, none⟩ = some (.slice A n c) := fun o => at_cell (at_ext (w' := w7.alloc o) HG0.out) 2
    clear ho7 hb7
    go_wp2_with fail
    refine (rreply_any code2 id magic A n c xs hg0 hg1 Hn.out _ (by exact HX.out.ext)).mono ?_
    rintro e w8 ⟨A8, c8, rfl, ho8, hb8⟩
    rw [HRY.out] at ho8 ⊢
    simp only at ho8 ⊢
    have S8 : Step w8 _ := ⟨hb8⟩
    have HO8 := Lib.hid ho8
    have HN8 := Lib.hid (at_new w8 (.cells #[.int .i64 ya, .int .i64 yb, .slice A8 yd.length c8] 43))
    clear ho8 hb8 p1 p2
    go_wp2_with
      (first
       | (refine wpList_load_row rfl 43 (.tmp 17) rfl w7.heap.size rfl 43 #[.int .i64 ya, .int .i64 yb, .slice A7 yd.length c7] (0, 0) _ (at_ext HN7.out) Try.underlying43 rfl (by kernel_rfl) ?_)
       | (refine wpList_load_row rfl 43 (.tmp 19) rfl w8.heap.size rfl 43 #[.int .i64 ya, .int .i64 yb, .slice A8 yd.length c8] (0, 0) _ (at_ext HN8.out) Try.underlying43 rfl (by kernel_rfl) ?_))
    refine (samePacket_any ya yb ya yb A7 A8 yd.length yd.length c7 c8 yd yd rfl rfl (by have := HLY.out; omega) (by have := HLY.out; omega) _ (own_cells (own_ext HO7.out)) (own_cells (own_ext HO8.out))).mono ?_
    rintro e w9 ⟨rfl, hb9⟩
    have S9 : Step w9 _ := ⟨hb9⟩
    have m2 : w9.cell? ⟨w7.heap.size, 2, none⟩ = some (.slice A7 yd.length c7) := at_cell (at_ext (w' := w9) HN7.out) 2
    clear hb9
    rw [pkSame_self]
    go_wp2_with fail
    refine (spoil_any A7 yd.length c7 _ yd _ (by have := HLY.out; omega) (own_ext HO7.out)).mono ?_
    rintro e wa ⟨rfl, hga⟩
    have Sa := Step.wrote (w0 := w6) hga (own_base HO7.out)
    clear hga m2
    clear S9 HN8 HO8 HN7 HO7 S8 S7
    go_wp2_with
      (first
       | (refine wpList_load_row rfl 43 (.tmp 4) rfl w.heap.size rfl 43 #[.int .i64 code, .int .i64 id, .slice A n c] (0, 0) _ (at_ext HG0.out) Try.underlying43 rfl (by kernel_rfl) ?_)
       | (refine wpList_load_row rfl 43 (.tmp 10) rfl w1.heap.size rfl 43 #[.int .i64 code, .int .i64 id, .slice (some ⟨g, 0, none⟩) n cap] (0, 0) _ (at_ext HQ.out) Try.underlying43 rfl (by kernel_rfl) ?_))
    refine (lrej_any code id (some ⟨g, 0, none⟩) n cap xs Hn.out (by omega) HB.out _ (by exact HC1.out.ext)).mono ?_
    rintro e wb ⟨rfl, hbb⟩
    have Sb : Step wb _ := ⟨hbb⟩
    clear hbb
    go_wp2_with
      (first
       | (refine wpList_load_row rfl 43 (.tmp 4) rfl w.heap.size rfl 43 #[.int .i64 code, .int .i64 id, .slice A n c] (0, 0) _ (at_ext HG0.out) Try.underlying43 rfl (by kernel_rfl) ?_)
       | (refine wpList_load_row rfl 43 (.tmp 10) rfl w1.heap.size rfl 43 #[.int .i64 code, .int .i64 id, .slice (some ⟨g, 0, none⟩) n cap] (0, 0) _ (at_ext HQ.out) Try.underlying43 rfl (by kernel_rfl) ?_))
    refine (rrej_any code id A n c xs Hn.out hnc HB.out _ (by exact HX.out.ext)).mono ?_
    rintro e wc ⟨rfl, hbc⟩
    have Sc : Step wc _ := ⟨hbc⟩
    have p2 : wc.cell? ⟨w.heap.size, 2, none⟩ = some (.slice A n c) := at_cell (at_ext (w' := wc) HG0.out) 2
    clear hbc
    generalize rejF code xs = RJ at *
    go_wp2_with fail
    refine (kept_true g cap n n c _ A xs Hn.out rfl hcap hn' _ (own_ext HO1.out) HX.out.ext).mono ?_
    rintro e wd ⟨rfl, qd, rfl⟩
    go_wp2_with fail
    refine (known11_any _).mono ?_
    rintro e wz ⟨rfl, hbz⟩
    have Sz : Step wz _ := ⟨hbz⟩
    clear hbz
    go_wp2_with fail
    go_ret
    exact ⟨rfl, Ext.out⟩
namespace LcpEchoes
set_option maxRecDepth 100000 in
theorem walk (U : Nat) (W : World) (vs : List Value) (h : Args U Try.prog W Try.f4.params.toList vs) : Calls Try.prog 4 vs.toArray W fun e W' => e = .returned (.bool true) ∧ Below W.heap.size W W' := by
  rw [Try.params4] at h
  match vs, h with
  | [v0, v1, v2, v3], ⟨h0, h1, h2, h3, _⟩ =>
    obtain ⟨code, id, A, n, c, xs, rfl, hl, hn, hnc, hC, hB, k1, k2⟩ := arg_packet h0
    obtain ⟨mru, accm, auth, mm, b1, b2, rfl, hm0, hm1, _⟩ := arg_opts11 h1
    obtain ⟨c2, rfl, _⟩ := h2.int Try.underlying3
    obtain ⟨mg, rfl, w3⟩ := h3.int Try.underlying26
    exact echoes_law code id mru accm auth mm c2 mg b1 b2 A n c xs hm0 hm1 (wf_u32 w3).1 (wf_u32 w3).2 hl hn hnc hB W hC

set_option maxRecDepth 100000 in
theorem lifted (os : Os) (started : os.Started) (H : Type) (enc : TypeId × Value → H) :
    ReturnsInHanded {} Try.checked os 4 .any (Rows.lcpEchoesSpec.pre6 enc Try.prog Try.f4 Rows.lcpEchoesRow.domain false) (Rows.lcpEchoesSpec.post enc Try.prog Try.f4 false true false false) :=
  law_lifted (C := Try.checked) laid_out own_knob started (by kernel_rfl) Try.func4 H enc rfl
    (fun ds hd => by
      have : ds.length = 4 := hd
      match ds, this with
      | [_, _, _, _], _ => exact ⟨rfl, rfl, rfl⟩) rfl Try.underlying4 (by
      have : (Try.f4.params.toList.all fun t => Try.prog.readableRec t && decide (t < Try.prog.types.size)) = true := by kernel_rfl
      intro t ht
      have h := List.all_eq_true.1 this t ht
      rw [Bool.and_eq_true, decide_eq_true_eq] at h
      exact h)
    (ChangeSpec.witness6 (enc := enc) (C := Try.checked) false ⟨#[], #[.agg #[.int .i64 0, .int .i64 0, .slice none 0 0], .agg #[.int .i64 0, .int .i64 0, .int .i64 0, .int .u32 0, .bool false, .bool false], .int .i64 0, .int .u32 0], []⟩ 8 (by kernel_rfl) (by kernel_rfl) (by kernel_rfl) (by kernel_rfl)) walk

theorem over : Rows.lcpEchoesRow.holds Try.pinned (OpenSpec.ofChange Rows.lcpEchoesSpec) :=
  OpenClaim.holds_of_wide 4 Try.f4 rfl rfl rfl rfl rfl rfl rfl ⟨rfl, rfl, rfl, rfl, rfl⟩ rfl rfl rfl rfl rfl (by kernel_rfl) Try.func4 (by kernel_rfl)
    (of_decide_eq_true (by kernel_rfl)) (by unfold Func.isWrapper; first | (rw [if_pos (by decide +kernel)]; kernel_rfl) | (rw [if_neg (by decide +kernel)]; exact ⟨rfl, rfl⟩))
    (fun os started H enc _ => lifted os started H enc)

/-- The statement. -/
theorem proved : Rows.LcpEchoesSaid := over
#print axioms proved
end LcpEchoes
end Go.Proofs.Ytodibldfolognaa
