/-
  lcp.Reply, Rejected, Echo and the reference's. Conditions: data are no longer than the model's memory.
-/
import Derived.Test.YtodibldfolognaaLcB
import Derived.Test.YtodibldfolognaaCopy
namespace Go.Proofs.Ytodibldfolognaa
open Go.RowKit
set_option linter.unusedVariables false
set_option linter.unusedSimpArgs false

theorem results_cell_row2 {P : Program} {fn : Func} {p q : Tmp} {ty : TypeId} (h : fn.results = #[.cell p ty, .tmp q]) (tmps : Array Value) (w : World) (g : Nat) (t : TypeId) (cs : Array Value) (fr : Nat × Nat) (d : TypeDesc) (v : Value)
    (hp : tmps.getD p undef = .pointer (some ⟨g, 0, none⟩)) (hq : tmps.getD q undef = v) (hg : w.heap[g]? = some (.cells cs t fr))
    (hu : P.underlying ty = some d) (hd : (match d with | .struct _ | .array _ _ => true | _ => false) = true) (hi : (P.info? ty).map (·.size) = some cs.size) :
    (results fn tmps).run P w = .ok (.tuple #[.agg cs, v]) w := by
  have hp' : tmps[p]?.getD undef = .pointer (some ⟨g, 0, none⟩) := by simpa using hp
  have hq' : tmps[q]?.getD undef = v := by simpa using hq
  simp [results, h, hp', hq', asAddr, run_loadVar_row w g t ty cs fr d hg hu hd hi]
theorem own_setRow {W : World} {base n size g : Nat} {e : TypeId} {v : Value} {cs : List Value} (h : W.ownsRow base e size v n cs) (hne : v.ownBlock ≠ some g) (row : Array Value) : (W.setRow g row).ownsRow base e size v n cs :=
  h.kept (row := some g) ⟨rfl, rfl, rfl, by simp [World.setRow], fun k _ hk => setRow_other _ _ _ _ (fun e => hk (by rw [e]))⟩ (.inr hne)
def replyF (code id magic : Int) (xs : List Int) : (Int × Int) × List Int × Int :=
  if code < 0 ∨ 255 < code ∨ id < 0 ∨ 255 < id then ((0, 0), [], 90) else if 16376 < xs.length then ((0, 0), [], 4) else ((code, id), be magic 4 ++ xs, 0)
def ReplyTells (r : (Int × Int) × List Int × Int) (w : World) (e : Ending) (w' : World) : Prop :=
  ∃ A c, e = .returned (.tuple #[.agg #[.int .i64 r.1.1, .int .i64 r.1.2, .slice A r.2.1.length c], .int .i64 r.2.2]) ∧ w'.ownsRow w.heap.size 5 1 (.slice A r.2.1.length c) r.2.1.length (nums .u8 r.2.1) ∧ Below w.heap.size w w'
abbrev zPk : Obj := .cells #[.int .i64 0, .int .i64 0, .slice none 0 0] 43
set_option maxRecDepth 100000 in
set_option maxHeartbeats 2000000 in
theorem reply_any (code id magic : Int) (A : Option Addr) (n c : Nat) (xs : List Int) (hm0 : 0 ≤ magic) (hm1 : magic < 4294967296) (hn : xs.length = n) (w : World) (hx : Cells w A (nums .u8 xs)) :
    Calls Try.prog 23 #[.int .i64 code, .int .i64 id, .int .u32 magic, .slice A n c] w (ReplyTells (replyF code id magic xs) w) := by
  have Hn := Lib.hid hn
  have HX := Lib.hid hx
  have HZ : Hid ((w.alloc zPk).heap[w.heap.size]? = some zPk) := at_new w _
  clear hn hx
  by_cases h1 : code < 0
  · have HR : Hid (replyF code id magic xs = ((0, 0), [], 90)) := by unfold Hid replyF; rw [if_pos (.inl h1)]
    go_enter Try.func23, Try.ntmps23
    go_wp2
    refine bodyPost_ret (results_cell_row2 Try.results23 _ _ w.heap.size 43 #[.int .i64 0, .int .i64 0, .slice none 0 0] (0, 0) _ (.int .i64 90) rfl rfl (at_new w zPk) Try.underlying43 rfl (by kernel_rfl)) rfl ?_
    rw [HR.out]
    exact ⟨none, 0, rfl, own_nil _ _ _ _, Ext.out⟩
  by_cases h2 : 255 < code
  · have HR : Hid (replyF code id magic xs = ((0, 0), [], 90)) := by unfold Hid replyF; rw [if_pos (.inr (.inl h2))]
    go_enter Try.func23, Try.ntmps23
    go_wp2
    refine bodyPost_ret (results_cell_row2 Try.results23 _ _ w.heap.size 43 #[.int .i64 0, .int .i64 0, .slice none 0 0] (0, 0) _ (.int .i64 90) rfl rfl (at_new w zPk) Try.underlying43 rfl (by kernel_rfl)) rfl ?_
    rw [HR.out]
    exact ⟨none, 0, rfl, own_nil _ _ _ _, Ext.out⟩
  by_cases h3 : id < 0
  · have HR : Hid (replyF code id magic xs = ((0, 0), [], 90)) := by unfold Hid replyF; rw [if_pos (.inr (.inr (.inl h3)))]
    go_enter Try.func23, Try.ntmps23
    go_wp2
    refine bodyPost_ret (results_cell_row2 Try.results23 _ _ w.heap.size 43 #[.int .i64 0, .int .i64 0, .slice none 0 0] (0, 0) _ (.int .i64 90) rfl rfl (at_new w zPk) Try.underlying43 rfl (by kernel_rfl)) rfl ?_
    rw [HR.out]
    exact ⟨none, 0, rfl, own_nil _ _ _ _, Ext.out⟩
  by_cases h4 : 255 < id
  · have HR : Hid (replyF code id magic xs = ((0, 0), [], 90)) := by unfold Hid replyF; rw [if_pos (.inr (.inr (.inr h4)))]
    go_enter Try.func23, Try.ntmps23
    go_wp2
    refine bodyPost_ret (results_cell_row2 Try.results23 _ _ w.heap.size 43 #[.int .i64 0, .int .i64 0, .slice none 0 0] (0, 0) _ (.int .i64 90) rfl rfl (at_new w zPk) Try.underlying43 rfl (by kernel_rfl)) rfl ?_
    rw [HR.out]
    exact ⟨none, 0, rfl, own_nil _ _ _ _, Ext.out⟩
  by_cases h5 : 16376 < n
  · have HR : Hid (replyF code id magic xs = ((0, 0), [], 4)) := by unfold Hid replyF; rw [if_neg (by omega), if_pos (by rw [Hn.out]; exact h5)]
    have h5I : (16376 : Int) < (n : Int) := by omega
    clear h5
    go_enter Try.func23, Try.ntmps23
    go_wp2
    refine bodyPost_ret (results_cell_row2 Try.results23 _ _ w.heap.size 43 #[.int .i64 0, .int .i64 0, .slice none 0 0] (0, 0) _ (.int .i64 4) rfl rfl (at_new w zPk) Try.underlying43 rfl (by kernel_rfl)) rfl ?_
    rw [HR.out]
    exact ⟨none, 0, rfl, own_nil _ _ _ _, Ext.out⟩
  have HR : Hid (replyF code id magic xs = ((code, id), be magic 4 ++ xs, 0)) := by unfold Hid replyF; rw [if_neg (by omega), if_neg (by rw [Hn.out]; omega)]
  have h5I : ¬ (16376 : Int) < (n : Int) := by omega
  have HLL : Hid ((be magic 4 ++ xs).length = 4 + n) := by unfold Hid; rw [List.length_append, be_length, Hn.out]
  have hm64 : IntKind.u64.wrap magic = magic := by rw [IntKind.wrap_u64]; omega
  go_enter Try.func23, Try.ntmps23
  go_wp2_with fail
  refine (lput_any magic 4 (by omega) hm0 (by omega) _).mono ?_
  rintro e w1 ⟨A1, c1, rfl, ho1, hb1⟩
  have S1 : Step w1 _ := ⟨hb1⟩
  have HO1 := Lib.hid ho1
  have HX1 : Hid (Ext (w.alloc zPk) w1) := ⟨hb1⟩
  have HZ1 : Hid (w1.heap[w.heap.size]? = some zPk) := at_ext HZ.out
  have HCX : Hid (Cells w1 A (nums .u8 xs)) := HX.out.ext
  clear ho1 hb1
  go_wp2_with
    (first
     | (at_builtin
        refine wp_append_cells (w0 := w.alloc zPk) (w.alloc zPk).heap.size rfl (.tmp 35) (.tmp 36) 41 5 (.int .u8 0) 1 1 rfl Try.underlying41 info_u8 rfl (by decide) (by decide) (.slice A1 4 c1) 4 (nums .u8 (be magic 4)) A n c (nums .u8 xs) rfl rfl (by rw [nums_length, Hn.out, Nat.mul_one]) (nums_one _ _) HO1.out HCX.out HX1.out.out HX1.out.out.size (by omega) ?_
        intro v2 w2 ho2 hb2 hg2 hat2
        obtain ⟨A2, c2, rfl, hc2⟩ := own_slice ho2
        have HO2 := Lib.hid ho2
        have HX2 : Hid (Ext (w.alloc zPk) w2) := ⟨hb2⟩
        have HZ2 : Hid (w2.heap[w.heap.size]? = some zPk) := at_ext (h := HX2.out) HZ.out
        have HNE : Hid ((Value.slice A2 (4 + n) c2).ownBlock ≠ some w.heap.size) := by
          intro e
          have := own_base HO2.out _ e
          simp at this
          omega
        clear ho2 hb2 hg2 hat2)
     | (refine wpList_store_row rfl 43 (.tmp 8) (.tmp 38) rfl w.heap.size #[.int .i64 code, .int .i64 id, .slice A2 (4 + n) c2] rfl rfl 43 #[.int .i64 0, .int .i64 0, .slice none 0 0] HZ2.out (by kernel_rfl) rfl (by simp [Value.oneCell']) ?_))
  refine bodyPost_ret (results_cell_row2 Try.results23 _ _ w.heap.size 43 #[.int .i64 code, .int .i64 id, .slice A2 (4 + n) c2] (0, 0) _ (.int .i64 0) rfl rfl (setRow_heap _ _ _ _ _ _ HZ2.out) Try.underlying43 rfl (by kernel_rfl)) rfl ?_
  rw [HR.out]
  refine ⟨A2, c2, ?_, ?_, (Ext.setRow_ (Ext.trans_ (inferInstance : Ext w (w.alloc zPk)) HX2.out) (Nat.le_refl _) _).out⟩
  · simp only [HLL.out]
  · simp only [HLL.out, nums_append]
    exact own_weaken (own_setRow HO2.out HNE.out _) (by simp)
set_option maxHeartbeats 1000000 in
theorem rnumber_any (A : Option Addr) (n c : Nat) (xs : List Int) (hn : xs.length = n) (hn' : n ≤ 9223372036854775807) (hb : Byt xs) (w : World) (hx : Cells w A (nums .u8 xs)) :
    Calls Try.prog 90 #[.slice A n c] w fun e w' => e = .returned (.int .u64 (numF xs)) ∧ w = w' := by
  have Hn := Lib.hid hn
  have HX := Lib.hid hx
  have HB := Lib.hid hb
  clear hn hx hb
  go_enter Try.func90, Try.ntmps90
  go_wp2
  go_loopw [3, 4] (fun v i wr => ∃ k : Nat, i = .int .i64 k ∧ k ≤ n ∧ v = .int .u64 (numF (xs.take k)) ∧ Hid (wr = w)) (fun _ i _ => n - (intOf i).toNat)
  case atStart => exact ⟨0, rfl, by omega, by simp [numF], rfl⟩
  case round =>
    obtain ⟨k, rfl, hk, rfl, HE⟩ := hrel
    obtain rfl : wr = w := HE.out
    by_cases hlt : k < n
    · obtain ⟨ad, rfl, hc⟩ := HX.out.num (by rw [Hn.out]; exact hlt)
      have HS := Lib.hid (numF_succ (xs := xs) (k := k) (by rw [Hn.out]; exact hlt))
      have hbd := numF_bd (xs.take k)
      have hx0 := HB.out.getD k
      obtain ⟨N, hN⟩ : ∃ N, numF (xs.take k) = N := ⟨_, rfl⟩
      obtain ⟨X, hX⟩ : ∃ X, xs.getD k 0 = X := ⟨_, rfl⟩
      rw [hN, hX] at HS
      rw [hN] at hbd ⊢
      rw [hX] at hc hx0
      have hn0 := hbd.1
      have hn1 := hbd.2
      have hx1 := hx0.1
      have hx2 := hx0.2
      have hww : IntKind.u64.wrap (N * 256) = N * 256 % 18446744073709551616 := by rw [IntKind.wrap_u64]
      clear hN hX hbd hx0
      go_wp2
      go_roundw
      case rel => exact ⟨k + 1, by go_num, by omega, by rw [HS.out], by first | exact rfl | exact trivial⟩
      case measure => simp [intOf]; omega
    · obtain rfl : k = n := by omega
      have HT : Hid (xs.take k = xs) := List.take_of_length_le (by rw [Hn.out]; exact Nat.le_refl _)
      go_wp2
      go_ret
      exact ⟨ret_int (congrArg numF HT.out), rfl⟩
def rejF (code : Int) (xs : List Int) : Int × Int := if code ≠ 8 then (0, 90) else if xs.length < 2 then (0, 8) else (numF (xs.take 2), 0)
set_option maxRecDepth 100000 in
set_option maxHeartbeats 1000000 in
theorem lrej_any (code id : Int) (A : Option Addr) (n c : Nat) (xs : List Int) (hn : xs.length = n) (hnc : n ≤ c) (hb : Byt xs) (w : World) (hx : Cells w A (nums .u8 xs)) :
    Calls Try.prog 25 #[.agg #[.int .i64 code, .int .i64 id, .slice A n c]] w fun e w' => e = .returned (.tuple #[.int .i64 (rejF code xs).1, .int .i64 (rejF code xs).2]) ∧ Below w.heap.size w w' := by
  have Hn := Lib.hid hn
  have HX := Lib.hid hx
  have HB := Lib.hid hb
  clear hn hx hb
  by_cases h8 : code = 8
  · subst h8
    by_cases h2 : n < 2
    · have HR : Hid (rejF 8 xs = (0, 8)) := by unfold Hid rejF; rw [if_neg (by simp), if_pos (by rw [Hn.out]; exact h2)]
      rw [HR.out]
      have h2I : (n : Int) < 2 := by omega
      clear h2
      go_enter Try.func25, Try.ntmps25
      go_wp2
      go_ret2
      exact ⟨rfl, Ext.out⟩
    · have HR : Hid (rejF 8 xs = (numF (xs.take 2), 0)) := by unfold Hid rejF; rw [if_neg (by simp), if_neg (by rw [Hn.out]; exact h2)]
      rw [HR.out]
      have h2I : ¬ (n : Int) < 2 := by omega
      have hcI : (2 : Int) ≤ (c : Int) := by omega
      have hc2 : 2 ≤ c := by omega
      have HL2 : Hid ((xs.take 2).length = 2) := by unfold Hid; rw [List.length_take, Hn.out]; omega
      have hbd := numF_bd (xs.take 2)
      have hb7 : numF (xs.take 2) < 65536 := by
        have h1 := numF_getN (HB.out.take 2) (by rw [HL2.out]; omega) 2 (by rw [HL2.out]; omega)
        have h3 := getN_bound 2 (xs.take 2) (HB.out.take 2) (by rw [HL2.out]; omega)
        rw [List.take_of_length_le (by rw [HL2.out]; omega)] at h1
        rw [h1]
        exact h3.2
      have hb8 := hbd.1
      obtain ⟨N, hN⟩ : ∃ N, numF (xs.take 2) = N := ⟨_, rfl⟩
      have HNN := Lib.hid hN
      rw [hN] at hb7 hb8 ⊢
      clear hN hbd h2
      go_enter Try.func25, Try.ntmps25
      go_wp2_with fail
      refine (lnumber_any A 2 c (xs.take 2) HL2.out (by omega) (HB.out.take 2) _ (by rw [nums_take]; exact (HX.out.take 2).ext)).mono ?_
      rintro e w1 ⟨rfl, rfl⟩
      rw [HNN.out]
      go_wp2
      go_ret2
      exact ⟨rfl, Ext.out⟩
  · have HR : Hid (rejF code xs = (0, 90)) := by unfold Hid rejF; rw [if_pos h8]
    rw [HR.out]
    have h8B : (code != 8) = true := by simpa using h8
    clear h8
    go_enter Try.func25, Try.ntmps25
    go_wp2
    go_ret2
    exact ⟨rfl, Ext.out⟩
set_option maxRecDepth 100000 in
set_option maxHeartbeats 1000000 in
theorem rrej_any (code id : Int) (A : Option Addr) (n c : Nat) (xs : List Int) (hn : xs.length = n) (hnc : n ≤ c) (hb : Byt xs) (w : World) (hx : Cells w A (nums .u8 xs)) :
    Calls Try.prog 26 #[.agg #[.int .i64 code, .int .i64 id, .slice A n c]] w fun e w' => e = .returned (.tuple #[.int .i64 (rejF code xs).1, .int .i64 (rejF code xs).2]) ∧ Below w.heap.size w w' := by
  have Hn := Lib.hid hn
  have HX := Lib.hid hx
  have HB := Lib.hid hb
  clear hn hx hb
  by_cases h8 : code = 8
  · subst h8
    by_cases h2 : n < 2
    · have HR : Hid (rejF 8 xs = (0, 8)) := by unfold Hid rejF; rw [if_neg (by simp), if_pos (by rw [Hn.out]; exact h2)]
      rw [HR.out]
      have h2I : (n : Int) < 2 := by omega
      clear h2
      go_enter Try.func26, Try.ntmps26
      go_wp2
      go_ret2
      exact ⟨rfl, Ext.out⟩
    · have HR : Hid (rejF 8 xs = (numF (xs.take 2), 0)) := by unfold Hid rejF; rw [if_neg (by simp), if_neg (by rw [Hn.out]; exact h2)]
      rw [HR.out]
      have h2I : ¬ (n : Int) < 2 := by omega
      have hcI : (2 : Int) ≤ (c : Int) := by omega
      have hc2 : 2 ≤ c := by omega
      have HL2 : Hid ((xs.take 2).length = 2) := by unfold Hid; rw [List.length_take, Hn.out]; omega
      have hbd := numF_bd (xs.take 2)
      have hb7 : numF (xs.take 2) < 65536 := by
        have h1 := numF_getN (HB.out.take 2) (by rw [HL2.out]; omega) 2 (by rw [HL2.out]; omega)
        have h3 := getN_bound 2 (xs.take 2) (HB.out.take 2) (by rw [HL2.out]; omega)
        rw [List.take_of_length_le (by rw [HL2.out]; omega)] at h1
        rw [h1]
        exact h3.2
      have hb8 := hbd.1
      obtain ⟨N, hN⟩ : ∃ N, numF (xs.take 2) = N := ⟨_, rfl⟩
      have HNN := Lib.hid hN
      rw [hN] at hb7 hb8 ⊢
      clear hN hbd h2
      go_enter Try.func26, Try.ntmps26
      go_wp2_with fail
      refine (rnumber_any A 2 c (xs.take 2) HL2.out (by omega) (HB.out.take 2) _ (by rw [nums_take]; exact (HX.out.take 2).ext)).mono ?_
      rintro e w1 ⟨rfl, rfl⟩
      rw [HNN.out]
      go_wp2
      go_ret2
      exact ⟨rfl, Ext.out⟩
  · have HR : Hid (rejF code xs = (0, 90)) := by unfold Hid rejF; rw [if_pos h8]
    rw [HR.out]
    have h8B : (code != 8) = true := by simpa using h8
    clear h8
    go_enter Try.func26, Try.ntmps26
    go_wp2
    go_ret2
    exact ⟨rfl, Ext.out⟩
theorem be_snoc_get (n : Int) : ∀ (s k j : Nat), k + j + 1 = s → be n s = be n s ∧ (be n s).take (k + 1) = (be n s).take k ++ [n / 256 ^ j % 256] := fun s k j h => by
  refine ⟨rfl, ?_⟩
  have hl := be_length n s
  rw [List.take_add_one, List.getElem?_eq_getElem (by omega), Option.toList_some]
  have := be_get n s k j h
  rw [List.getD_eq_getElem?_getD, List.getElem?_eq_getElem (by omega), Option.getD_some] at this
  rw [this]
set_option maxHeartbeats 1000000 in
theorem rbytes_any (n : Int) (s : Nat) (hs : s ≤ 8) (h0 : 0 ≤ n) (h1 : n < 18446744073709551616) (w : World) :
    Calls Try.prog 91 #[.int .u64 n, .int .i64 s] w fun e w' => ∃ A c, e = .returned (.slice A s c) ∧ w'.ownsRow w.heap.size 5 1 (.slice A s c) s (nums .u8 (be n s)) ∧ Below w.heap.size w w' := by
  go_enter Try.func91, Try.ntmps91
  go_wp2
  go_loopw [5, 6] (fun v i wr => ∃ (k : Nat) (L : Option Addr) (cl : Nat), i = .int .i64 ((s : Int) - 1 - (k : Int)) ∧ k ≤ s ∧ v = .slice L k cl ∧ Hid (wr.ownsRow w.heap.size 5 1 (.slice L k cl) k (nums .u8 ((be n s).take k))) ∧ Hid (Ext w wr)) (fun v _ _ => match v with | .slice _ q _ => s - q | _ => 0)
  case atStart => exact ⟨0, none, 0, by simp, by omega, rfl, own_nil _ _ _ _, (inferInstance : Ext w w)⟩
  case round =>
    obtain ⟨k, L, cl, rfl, hk, rfl, HO, HE⟩ := hrel
    have XE : Ext w wr := HE.out
    by_cases hlt : k < s
    · obtain ⟨j, hj⟩ : ∃ j, k + j + 1 = s := ⟨s - 1 - k, by omega⟩
      have hsub : (s : Int) - 1 - (k : Int) = (j : Int) := by omega
      have hj8 : j ≤ 7 := by omega
      have HGE := Lib.hid (be_snoc_get n s k j hj).2
      have hz := HE.out.out.size
      have hp : (2 : Int) ^ (8 * j) = 256 ^ j := by rw [show (256 : Int) = 2 ^ 8 from rfl, ← Int.pow_mul]
      have HP := Lib.hid hp
      have HSUB := Lib.hid hsub
      have HJ := Lib.hid hj
      have hjp : 0 ≤ (j : Int) := by omega
      rw [hsub]
      clear hp hj hsub
      go_wp2_with
        (at_builtin
         refine wp_append_box (w0 := w) w.heap.size rfl (.tmp 13) (.tmp 20) 41 5 (.int .u8 0) 1 1 1 rfl Try.underlying41 info_u8 rfl (by decide) (by decide) (.slice L k cl) k (nums .u8 ((be n s).take k)) [.int .u8 (n / 2 ^ (8 * j) % 256)] rfl rfl rfl (one_int _ _) HO.out HE.out.out hz (by omega) ?_
         intro v4 w4 ho4 hb4 hg4 hat4
         obtain ⟨L4, l4, rfl, hl4⟩ := own_slice ho4
         have HO4 := Lib.hid ho4
         have HX4 : Hid (Ext w w4) := ⟨hb4⟩
         clear ho4 hb4 hg4 hat4)
      go_roundw
      case rel =>
        refine ⟨k + 1, L4, l4, ?_, by omega, rfl, ?_, HX4.out⟩
        · refine congrArg (Value.int .i64) ?_
          have := HSUB.out
          omega
        · show World.ownsRow _ _ _ _ _ _ _
          rw [HGE.out, nums_append, ← HP.out]
          exact HO4.out
      case measure => show s - (k + 1) < s - k; omega
    · obtain rfl : s = k := by omega
      have hl := be_length n s
      have HO2 := HO
      rw [List.take_of_length_le (by omega)] at HO2
      have hm1 : (s : Int) - 1 - (s : Int) = -1 := by omega
      clear hl
      rw [hm1]
      go_wp2
      go_ret
      exact ⟨L, cl, rfl, HO2.out, HE.out.out⟩
set_option maxRecDepth 100000 in
set_option maxHeartbeats 2000000 in
theorem rreply_any (code id magic : Int) (A : Option Addr) (n c : Nat) (xs : List Int) (hm0 : 0 ≤ magic) (hm1 : magic < 4294967296) (hn : xs.length = n) (w : World) (hx : Cells w A (nums .u8 xs)) :
    Calls Try.prog 24 #[.int .i64 code, .int .i64 id, .int .u32 magic, .slice A n c] w (ReplyTells (replyF code id magic xs) w) := by
  have Hn := Lib.hid hn
  have HX := Lib.hid hx
  have HZ : Hid ((w.alloc zPk).heap[w.heap.size]? = some zPk) := at_new w _
  clear hn hx
  by_cases h1 : code < 0
  · have HR : Hid (replyF code id magic xs = ((0, 0), [], 90)) := by unfold Hid replyF; rw [if_pos (.inl h1)]
    go_enter Try.func24, Try.ntmps24
    go_wp2
    refine bodyPost_ret (results_cell_row2 Try.results24 _ _ w.heap.size 43 #[.int .i64 0, .int .i64 0, .slice none 0 0] (0, 0) _ (.int .i64 90) rfl rfl (at_new w zPk) Try.underlying43 rfl (by kernel_rfl)) rfl ?_
    rw [HR.out]
    exact ⟨none, 0, rfl, own_nil _ _ _ _, Ext.out⟩
  by_cases h2 : 255 < code
  · have HR : Hid (replyF code id magic xs = ((0, 0), [], 90)) := by unfold Hid replyF; rw [if_pos (.inr (.inl h2))]
    go_enter Try.func24, Try.ntmps24
    go_wp2
    refine bodyPost_ret (results_cell_row2 Try.results24 _ _ w.heap.size 43 #[.int .i64 0, .int .i64 0, .slice none 0 0] (0, 0) _ (.int .i64 90) rfl rfl (at_new w zPk) Try.underlying43 rfl (by kernel_rfl)) rfl ?_
    rw [HR.out]
    exact ⟨none, 0, rfl, own_nil _ _ _ _, Ext.out⟩
  by_cases h3 : id < 0
  · have HR : Hid (replyF code id magic xs = ((0, 0), [], 90)) := by unfold Hid replyF; rw [if_pos (.inr (.inr (.inl h3)))]
    go_enter Try.func24, Try.ntmps24
    go_wp2
    refine bodyPost_ret (results_cell_row2 Try.results24 _ _ w.heap.size 43 #[.int .i64 0, .int .i64 0, .slice none 0 0] (0, 0) _ (.int .i64 90) rfl rfl (at_new w zPk) Try.underlying43 rfl (by kernel_rfl)) rfl ?_
    rw [HR.out]
    exact ⟨none, 0, rfl, own_nil _ _ _ _, Ext.out⟩
  by_cases h4 : 255 < id
  · have HR : Hid (replyF code id magic xs = ((0, 0), [], 90)) := by unfold Hid replyF; rw [if_pos (.inr (.inr (.inr h4)))]
    go_enter Try.func24, Try.ntmps24
    go_wp2
    refine bodyPost_ret (results_cell_row2 Try.results24 _ _ w.heap.size 43 #[.int .i64 0, .int .i64 0, .slice none 0 0] (0, 0) _ (.int .i64 90) rfl rfl (at_new w zPk) Try.underlying43 rfl (by kernel_rfl)) rfl ?_
    rw [HR.out]
    exact ⟨none, 0, rfl, own_nil _ _ _ _, Ext.out⟩
  by_cases h5 : 16376 < n
  · have HR : Hid (replyF code id magic xs = ((0, 0), [], 4)) := by unfold Hid replyF; rw [if_neg (by omega), if_pos (by rw [Hn.out]; exact h5)]
    have h5I : (16376 : Int) < (n : Int) := by omega
    clear h5
    go_enter Try.func24, Try.ntmps24
    go_wp2
    refine bodyPost_ret (results_cell_row2 Try.results24 _ _ w.heap.size 43 #[.int .i64 0, .int .i64 0, .slice none 0 0] (0, 0) _ (.int .i64 4) rfl rfl (at_new w zPk) Try.underlying43 rfl (by kernel_rfl)) rfl ?_
    rw [HR.out]
    exact ⟨none, 0, rfl, own_nil _ _ _ _, Ext.out⟩
  have HR : Hid (replyF code id magic xs = ((code, id), be magic 4 ++ xs, 0)) := by unfold Hid replyF; rw [if_neg (by omega), if_neg (by rw [Hn.out]; omega)]
  have h5I : ¬ (16376 : Int) < (n : Int) := by omega
  have HLL : Hid ((be magic 4 ++ xs).length = 4 + n) := by unfold Hid; rw [List.length_append, be_length, Hn.out]
  have hm64 : IntKind.u64.wrap magic = magic := by rw [IntKind.wrap_u64]; omega
  go_enter Try.func24, Try.ntmps24
  go_wp2_with fail
  refine (rbytes_any magic 4 (by omega) hm0 (by omega) _).mono ?_
  rintro e w1 ⟨A1, c1, rfl, ho1, hb1⟩
  have S1 : Step w1 _ := ⟨hb1⟩
  have HO1 := Lib.hid ho1
  have HX1 : Hid (Ext (w.alloc zPk) w1) := ⟨hb1⟩
  have HZ1 : Hid (w1.heap[w.heap.size]? = some zPk) := at_ext HZ.out
  have HCX : Hid (Cells w1 A (nums .u8 xs)) := HX.out.ext
  have HZW : Hid (w.heap.size < w1.heap.size) := at_lt HZ1.out
  clear ho1 hb1
  go_wp2_with
    (first
     | (at_builtin
        refine wp_append_cells (w0 := w.alloc zPk) (w.alloc zPk).heap.size rfl (.tmp 37) (.tmp 38) 41 5 (.int .u8 0) 1 1 rfl Try.underlying41 info_u8 rfl (by decide) (by decide) (.slice A1 4 c1) 4 (nums .u8 (be magic 4)) A n c (nums .u8 xs) rfl rfl (by rw [nums_length, Hn.out, Nat.mul_one]) (nums_one _ _) (own_ext HO1.out) HCX.out.ext (HX1.out.out.alloc HX1.out.out.size _) (by have := HX1.out.out.size; simp at this ⊢; omega) (by omega) ?_
        intro v2 w2 ho2 hb2 hg2 hat2
        obtain ⟨A2, c2, rfl, hc2⟩ := own_slice ho2
        have HO2 := Lib.hid ho2
        have HX2 : Hid (Ext (w.alloc zPk) w2) := ⟨hb2⟩
        have HZ2 : Hid (w2.heap[w.heap.size]? = some zPk) := at_ext (h := HX2.out) HZ.out
        have hk2 : w2.heap[w1.heap.size]? = some (.cells #[.int .i64 code, .int .i64 id, .slice A1 4 c1] 43 (0, 0)) := (hg2.block w1.heap.size (by simp) (fun e => by have := own_lt HO1.out _ e.symm; omega)).trans (at_new w1 _)
        have d0 := at_cell hk2 0
        have d1 := at_cell hk2 1
        have d2 := at_cell hk2 2
        have f2 := at_frozen hk2 2
        simp only [List.getElem?_toArray, List.getElem?_cons_zero, List.getElem?_cons_succ] at d0 d1 d2
        have HZ3 : Hid ((w2.setCell ⟨w1.heap.size, 2, none⟩ (.slice A2 (4 + n) c2)).heap[w.heap.size]? = some zPk) := at_other _ HZ2.out (by have := HZW.out; simp only [ne_eq]; omega)
        have HNE : Hid ((Value.slice A2 (4 + n) c2).ownBlock ≠ some w.heap.size) := by
          intro e
          have := own_base HO2.out _ e
          simp at this
          omega
        have HNE2 : Hid ((Value.slice A2 (4 + n) c2).ownBlock ≠ some w1.heap.size) := by
          intro e
          rcases hat2 with h | h
          · rw [h] at e
            have := own_lt HO1.out _ e
            omega
          · rw [h] at e
            simp at e
        clear ho2 hb2 hg2 hat2)
     | (refine wpList_store_row rfl 43 (.tmp 8) (.tmp 41) rfl w.heap.size #[.int .i64 code, .int .i64 id, .slice A2 (4 + n) c2] rfl rfl 43 #[.int .i64 0, .int .i64 0, .slice none 0 0] HZ3.out (by kernel_rfl) rfl (by simp [Value.oneCell']) ?_))
  refine bodyPost_ret (results_cell_row2 Try.results24 _ _ w.heap.size 43 #[.int .i64 code, .int .i64 id, .slice A2 (4 + n) c2] (0, 0) _ (.int .i64 0) rfl rfl (setRow_heap _ _ _ _ _ _ HZ3.out) Try.underlying43 rfl (by kernel_rfl)) rfl ?_
  rw [HR.out]
  have E2 : Ext w w2 := Ext.trans_ (inferInstance : Ext w (w.alloc zPk)) HX2.out
  refine ⟨A2, c2, ?_, ?_, (Ext.setRow_ (⟨E2.out.setCell (p := ⟨w1.heap.size, 2, none⟩) (Nat.le_of_lt HZW.out) _⟩ : Ext w (w2.setCell _ _)) (Nat.le_refl _) _).out⟩
  · simp only [HLL.out]
  · simp only [HLL.out, nums_append]
    exact own_weaken (own_setRow (own_setCell HO2.out HNE2.out _) HNE.out _) (by simp)
end Go.Proofs.Ytodibldfolognaa
