/-
  chap.Told, again, word. Conditions: sizes.
-/
import Derived.Test.YtobddmpiljknpaaChC
import Derived.Test.YtobddmpiljknpaaPpJ
namespace Go.Proofs.Ytobddmpiljknpaa
open Go.RowKit
set_option linter.unusedVariables false
set_option linter.unusedSimpArgs false

theorem results_cell_row1 {P : Program} {fn : Func} {p : Tmp} {ty : TypeId} (h : fn.results = #[.cell p ty]) (tmps : Array Value) (w : World) (g : Nat) (t : TypeId) (cs : Array Value) (fr : Nat × Nat) (d : TypeDesc)
    (hp : tmps.getD p undef = .pointer (some ⟨g, 0, none⟩)) (hg : w.heap[g]? = some (.cells cs t fr))
    (hu : P.underlying ty = some d) (hd : (match d with | .struct _ | .array _ _ => true | _ => false) = true) (hi : (P.info? ty).map (·.size) = some cs.size) :
    (results fn tmps).run P w = .ok (.agg cs) w := by
  have hp' : tmps[p]?.getD undef = .pointer (some ⟨g, 0, none⟩) := by simpa using hp
  simp [results, h, hp', asAddr, run_loadVar_row w g t ty cs fr d hg hu hd hi]
theorem cells_setRow {w : World} {A : Option Addr} {cs : List Value} {g : Nat} (h : Cells w A cs) (hA : ∀ ad, A = some ad → ad.block ≠ g) (row : Array Value) : Cells (w.setRow g row) A cs :=
  h.grown (row := some g) ⟨rfl, rfl, rfl, by simp [World.setRow], fun k _ hk => setRow_other _ _ _ _ (fun e => hk (by rw [e]))⟩ fun ad ha e => hA ad ha (Option.some.inj e)
def ToldTells (r : (Int × Int) × List Int × Int) (w : World) (e : Ending) (w' : World) : Prop :=
  ∃ A c, e = .returned (.tuple #[.agg #[.int .i64 r.1.1, .int .i64 r.1.2, .slice A r.2.1.length c], .int .i64 r.2.2]) ∧ r.2.1.length ≤ c ∧ Cells w' A (nums .u8 r.2.1) ∧ Below w.heap.size w w'
set_option maxRecDepth 100000 in
set_option maxHeartbeats 4000000 in
theorem told_any (code id : Int) (s : ByteArray) (hs : s.size ≤ 140737488355328) (w : World) :
    Calls Try.prog 18 #[.int .i64 code, .int .i64 id, .string s] w (ToldTells (tdF code id (strB s)) w) := by
  have HL := Lib.hid (strB_len s)
  go_enter Try.func18, Try.ntmps18
  go_upto_region 1 with fail
  obtain ⟨wb, hwb⟩ : ∃ wb, w.alloc zPk = wb := ⟨_, rfl⟩
  have HZ : Hid (wb.heap[w.heap.size]? = some zPk) := by unfold Hid; rw [← hwb]; exact at_new w _
  have HW : Hid (Ext w wb) := by unfold Hid; rw [← hwb]; exact inferInstance
  have HLB : Hid (w.heap.size < wb.heap.size) := at_lt HZ.out
  rw [hwb]
  clear hwb
  obtain ⟨q, hq⟩ : ∃ q, decide ((code ≠ 3 ∧ code ≠ 4) ∨ id < 0 ∨ 255 < id) = q := ⟨_, rfl⟩
  have HQ := Lib.hid hq
  clear hq
  go_cut [22] (fun s wx => s = .bool q ∧ wb = wx)
  case first =>
    by_cases c1 : code = 3
    · subst c1
      by_cases i1 : id < 0
      · skip
        go_wp2_with fail
        go_meet
        case rel => exact ⟨by rw [← HQ.out, decide_eq_true (by omega)], rfl⟩
      by_cases i2 : 255 < id
      · skip
        go_wp2_with fail
        go_meet
        case rel => exact ⟨by rw [← HQ.out, decide_eq_true (by omega)], rfl⟩
      go_wp2_with fail
      go_meet
      case rel => exact ⟨by rw [← HQ.out, decide_eq_false (by omega)], rfl⟩
    have c1' : (code != 3) = true := by simpa using c1
    by_cases c2 : code = 4
    · subst c2
      by_cases i1 : id < 0
      · skip
        go_wp2_with fail
        go_meet
        case rel => exact ⟨by rw [← HQ.out, decide_eq_true (by omega)], rfl⟩
      by_cases i2 : 255 < id
      · skip
        go_wp2_with fail
        go_meet
        case rel => exact ⟨by rw [← HQ.out, decide_eq_true (by omega)], rfl⟩
      go_wp2_with fail
      go_meet
      case rel => exact ⟨by rw [← HQ.out, decide_eq_false (by omega)], rfl⟩
    have c2' : (code != 4) = true := by simpa using c2
    go_wp2_with fail
    go_meet
    case rel => exact ⟨by rw [← HQ.out, decide_eq_true (by omega)], rfl⟩
  case' rest =>
    obtain ⟨rfl, rfl⟩ := hcut
  cases q
  case true =>
    have HR : Hid (tdF code id (strB s) = ((0, 0), [], 90)) := if_pos (of_decide_eq_true HQ.out)
    go_wp2_with
      (refine wpList_store_row rfl 24 (.tmp 6) (.tmp 23) rfl w.heap.size #[.int .i64 0, .int .i64 0, .slice none 0 0] rfl rfl 24 #[.int .i64 0, .int .i64 0, .slice none 0 0] HZ.out (by kernel_rfl) rfl (by simp [Value.oneCell']) ?_)
    refine bodyPost_ret (results_cell_row2 Try.results18 _ _ w.heap.size 24 #[.int .i64 0, .int .i64 0, .slice none 0 0] (0, 0) _ (.int .i64 90) rfl rfl (setRow_heap _ _ _ _ _ _ HZ.out) Try.underlying24 rfl (by kernel_rfl)) rfl ?_
    rw [HR.out]
    exact ⟨none, 0, rfl, Nat.le_refl _, Cells.nil_ _ _, (Ext.setRow_ HW.out (Nat.le_refl _) _).out⟩
  have HG := Lib.hid (of_decide_eq_false HQ.out)
  go_wp2_with fail
  go_loopw [26, 8] (fun i t wr => ∃ k : Nat, i = .int .i64 k ∧ k ≤ s.size ∧ Hid (((strB s).take k).all okP = true) ∧ wb = wr) (fun i _ _ => s.size - (intOf i).toNat)
  case atStart => exact ⟨0, rfl, by omega, rfl, rfl⟩
  case round =>
    obtain ⟨k, rfl, hk, HA, rfl⟩ := hrel
    by_cases hlt : k < s.size
    · have hI : (k : Int) < (s.size : Int) := by omega
      have HLT := Lib.hid (show k < (strB s).length by rw [HL.out]; exact hlt)
      have HX : Hid ((strB s).getD k 0 = ((s[k]'hlt).toNat : Int)) := by
        unfold Hid strB
        rw [List.getD_eq_getElem?_getD, List.getElem?_map]
        have h2 : k < s.data.toList.length := by rw [Array.length_toList]; exact hlt
        rw [List.getElem?_eq_getElem h2]
        rfl
      by_cases p1 : ((s[k]'hlt).toNat : Int) < 32
      · have HR : Hid (tdF code id (strB s) = ((0, 0), [], 3)) := by unfold Hid tdF; rw [if_neg HG.out, if_pos (show plainF (strB s) = false from all_not HLT.out (by rw [HX.out]; unfold okP; exact decide_eq_false (by omega)))]
        go_wp2_with
          (refine wpList_store_row rfl 24 (.tmp 6) (.tmp 39) rfl w.heap.size #[.int .i64 0, .int .i64 0, .slice none 0 0] rfl rfl 24 #[.int .i64 0, .int .i64 0, .slice none 0 0] HZ.out (by kernel_rfl) rfl (by simp [Value.oneCell']) ?_)
        refine bodyPost_ret (results_cell_row2 Try.results18 _ _ w.heap.size 24 #[.int .i64 0, .int .i64 0, .slice none 0 0] (0, 0) _ (.int .i64 3) rfl rfl (setRow_heap _ _ _ _ _ _ HZ.out) Try.underlying24 rfl (by kernel_rfl)) rfl ?_
        rw [HR.out]
        exact ⟨none, 0, rfl, Nat.le_refl _, Cells.nil_ _ _, (Ext.setRow_ HW.out (Nat.le_refl _) _).out⟩
      by_cases p2 : 126 < ((s[k]'hlt).toNat : Int)
      · have HR : Hid (tdF code id (strB s) = ((0, 0), [], 3)) := by unfold Hid tdF; rw [if_neg HG.out, if_pos (show plainF (strB s) = false from all_not HLT.out (by rw [HX.out]; unfold okP; exact decide_eq_false (by omega)))]
        go_wp2_with
          (refine wpList_store_row rfl 24 (.tmp 6) (.tmp 39) rfl w.heap.size #[.int .i64 0, .int .i64 0, .slice none 0 0] rfl rfl 24 #[.int .i64 0, .int .i64 0, .slice none 0 0] HZ.out (by kernel_rfl) rfl (by simp [Value.oneCell']) ?_)
        refine bodyPost_ret (results_cell_row2 Try.results18 _ _ w.heap.size 24 #[.int .i64 0, .int .i64 0, .slice none 0 0] (0, 0) _ (.int .i64 3) rfl rfl (setRow_heap _ _ _ _ _ _ HZ.out) Try.underlying24 rfl (by kernel_rfl)) rfl ?_
        rw [HR.out]
        exact ⟨none, 0, rfl, Nat.le_refl _, Cells.nil_ _ _, (Ext.setRow_ HW.out (Nat.le_refl _) _).out⟩
      have HA2 := Lib.hid (all_take_succ HA.out HLT.out (by rw [HX.out]; unfold okP; exact decide_eq_true (by omega)))
      go_wp2_with fail
      go_roundw
      case rel => exact ⟨k + 1, by go_num, by omega, HA2.out, trivial⟩
      case measure => simp [intOf]; omega
    · obtain rfl : k = s.size := by omega
      have HPL : Hid (plainF (strB s) = true) := by
        have h1 := HA.out
        rw [List.take_of_length_le (by rw [HL.out]; exact Nat.le_refl _)] at h1
        exact h1
      by_cases l1 : 255 < s.size
      · have HR : Hid (tdF code id (strB s) = ((0, 0), [], 3)) := by unfold Hid tdF; rw [if_neg HG.out, if_neg (by rw [HPL.out]; simp), if_pos (by rw [HL.out]; exact l1)]
        have l1I : 255 < (s.size : Int) := by omega
        go_wp2_with
          (refine wpList_store_row rfl 24 (.tmp 6) (.tmp 44) rfl w.heap.size #[.int .i64 0, .int .i64 0, .slice none 0 0] rfl rfl 24 #[.int .i64 0, .int .i64 0, .slice none 0 0] HZ.out (by kernel_rfl) rfl (by simp [Value.oneCell']) ?_)
        refine bodyPost_ret (results_cell_row2 Try.results18 _ _ w.heap.size 24 #[.int .i64 0, .int .i64 0, .slice none 0 0] (0, 0) _ (.int .i64 3) rfl rfl (setRow_heap _ _ _ _ _ _ HZ.out) Try.underlying24 rfl (by kernel_rfl)) rfl ?_
        rw [HR.out]
        exact ⟨none, 0, rfl, Nat.le_refl _, Cells.nil_ _ _, (Ext.setRow_ HW.out (Nat.le_refl _) _).out⟩
      have l1I : ¬ 255 < (s.size : Int) := by omega
      have HR : Hid (tdF code id (strB s) = ((code, id), strB s, 0)) := by unfold Hid tdF; rw [if_neg HG.out, if_neg (by rw [HPL.out]; simp), if_neg (by rw [HL.out]; exact l1)]
      obtain ⟨w1, c1, hcv, hsc, hC1, hB1, _⟩ := conv_str (P := Try.prog) wb 9 22 5 s Try.underlying9 Try.underlying22 Try.underlying5
      have HC1 := Lib.hid hC1
      have HSC := Lib.hid hsc
      have X1 : Hid (Ext wb w1) := ⟨hB1⟩
      have HZ1 : Hid (w1.heap[w.heap.size]? = some zPk) := at_ext (h := X1.out) HZ.out
      clear hC1 hB1 hsc
      go_wp2_with
        (refine wpList_store_row rfl 24 (.tmp 6) (.tmp 49) rfl w.heap.size #[.int .i64 code, .int .i64 id, .slice (some ⟨wb.heap.size, 0, none⟩) s.size c1] rfl rfl 24 #[.int .i64 0, .int .i64 0, .slice none 0 0] HZ1.out (by kernel_rfl) rfl (by simp [Value.oneCell']) ?_)
      refine bodyPost_ret (results_cell_row2 Try.results18 _ _ w.heap.size 24 #[.int .i64 code, .int .i64 id, .slice (some ⟨wb.heap.size, 0, none⟩) s.size c1] (0, 0) _ (.int .i64 0) rfl rfl (setRow_heap _ _ _ _ _ _ HZ1.out) Try.underlying24 rfl (by kernel_rfl)) rfl ?_
      rw [HR.out]
      refine ⟨some ⟨wb.heap.size, 0, none⟩, c1, ?_, ?_, ?_, (Ext.setRow_ (Ext.trans_ HW.out X1.out) (Nat.le_refl _) _).out⟩
      · simp only [HL.out]
      · simp only [HL.out]; exact HSC.out
      · exact cells_setRow HC1.out (fun ad ha => by injection ha with ha; rw [← ha]; have := HLB.out; show wb.heap.size ≠ w.heap.size; omega) _
set_option maxRecDepth 100000 in
set_option maxHeartbeats 2000000 in
theorem cagain_any (code id : Int) (A : Option Addr) (n c : Nat) (xs : List Int) (hn : xs.length = n) (hn' : n ≤ 140737488355300) (w : World) (hx : Cells w A (nums .u8 xs)) :
    Calls Try.prog 87 #[.agg #[.int .i64 code, .int .i64 id, .slice A n c]] w fun e w' => ∃ A' c', e = .returned (.agg #[.int .i64 code, .int .i64 id, .slice A' n c']) ∧ w'.ownsRow w.heap.size 5 1 (.slice A' n c') n (nums .u8 xs) ∧ Below w.heap.size w w' := by
  have Hn := Lib.hid hn
  have HX := Lib.hid hx
  clear hn hx
  go_enter Try.func87, Try.ntmps87
  go_upto_region 1 with fail
  obtain ⟨wb, hwb⟩ : ∃ wb, (w.alloc (.cells #[.int .i64 code, .int .i64 id, .slice A n c] 24)).alloc zPk = wb := ⟨_, rfl⟩
  have HP : Hid (wb.heap[w.heap.size]? = some (.cells #[.int .i64 code, .int .i64 id, .slice A n c] 24 (0, 0))) := by unfold Hid; rw [← hwb]; exact at_ext (at_new w _)
  have HZ : Hid (wb.heap[w.heap.size + 1]? = some zPk) := by unfold Hid; rw [← hwb]; exact at_new1 (by simp)
  have HW : Hid (Ext w wb) := by unfold Hid; rw [← hwb]; exact inferInstance
  have HS : Hid (w.heap.size + 1 < wb.heap.size) := at_lt HZ.out
  rw [hwb]
  clear hwb
  have p2 : wb.cell? ⟨w.heap.size, 2, none⟩ = some (.slice A n c) := at_cell HP.out 2
  go_wp2_with fail
  refine (clone_any A n c xs Hn.out (by omega) _ (by have := HW.out; exact HX.out.ext)).mono ?_
  rintro e w1 ⟨v1, rfl, ho1, hb1⟩
  obtain ⟨A1, c1, rfl, hc1⟩ := own_slice ho1
  have HO1 := Lib.hid ho1
  have X1 : Ext wb w1 := ⟨hb1⟩
  have HP1 : Hid (w1.heap[w.heap.size]? = some (.cells #[.int .i64 code, .int .i64 id, .slice A n c] 24 (0, 0))) := at_ext HP.out
  have HZ1 : Hid (w1.heap[w.heap.size + 1]? = some zPk) := at_ext HZ.out
  have q2 : w1.cell? ⟨w.heap.size, 2, none⟩ = some (.slice A n c) := at_cell HP1.out 2
  have f2 : w1.frozen? ⟨w.heap.size, 2, none⟩ = false := at_frozen HP1.out 2
  clear p2 ho1 hb1 hc1
  go_upto_region 2 with fail
  obtain ⟨w3, hw3⟩ : ∃ w3, w1.setCell ⟨w.heap.size, 2, none⟩ (.slice A1 n c1) = w3 := ⟨_, rfl⟩
  have HP3 : Hid (w3.heap[w.heap.size]? = some (.cells #[.int .i64 code, .int .i64 id, .slice A1 n c1] 24 (0, 0))) := by unfold Hid; rw [← hw3]; exact at_set HP1.out 2 _
  have HZ3 : Hid (w3.heap[w.heap.size + 1]? = some zPk) := by unfold Hid; rw [← hw3]; exact (Below.heap_setCell _ _ _ _ (by show w.heap.size + 1 ≠ w.heap.size; omega)).trans HZ1.out
  have HO3 : Hid (w3.ownsRow wb.heap.size 5 1 (.slice A1 n c1) n (nums .u8 xs)) := by unfold Hid; rw [← hw3]; exact own_young HO1.out (by show w.heap.size < wb.heap.size; have := HS.out; omega)
  have HB3 : Hid (Below w.heap.size w w3) := by unfold Hid; rw [← hw3]; exact (Ext.trans_ HW.out X1).out.setCell (p := ⟨w.heap.size, 2, none⟩) (Nat.le_refl _) _
  rw [hw3]
  clear hw3 q2 f2
  go_wp2_with
    (first
     | (refine wpList_load_row rfl 24 (.tmp 1) rfl w.heap.size rfl 24 #[.int .i64 code, .int .i64 id, .slice A1 n c1] (0, 0) _ HP3.out Try.underlying24 rfl (by kernel_rfl) ?_)
     | (refine wpList_store_row_o rfl 24 (.tmp 2) (.tmp 7) rfl (w.heap.size + 1) #[.int .i64 code, .int .i64 id, .slice A1 n c1] rfl rfl 24 #[.int .i64 0, .int .i64 0, .slice none 0 0] HZ3.out (by kernel_rfl) rfl (by simp [Value.oneCell']) ?_
        intro w4 hr4 ho4 hz4 hb4))
  refine bodyPost_ret (results_cell_row1 Try.results87 _ _ (w.heap.size + 1) 24 #[.int .i64 code, .int .i64 id, .slice A1 n c1] (0, 0) _ rfl hr4 Try.underlying24 rfl (by kernel_rfl)) rfl ?_
  have HS0 := HS.out
  exact ⟨A1, c1, rfl, own_weaken (own_heap HO3.out fun j hj => ho4 j (by omega)) (by omega), hb4 _ _ HB3.out (by omega)⟩
/-- Whose word is asked for. -/
def secW (c s : List Int) (us : List SV) : ByteArray := match findF c s us with
  | none => ⟨#[]⟩
  | some u => u.d
set_option maxRecDepth 100000 in
set_option maxHeartbeats 2000000 in
theorem word_any (A : Option Addr) (n c : Nat) (us : List SV) (cb sb : ByteArray) (hn : us.length = n) (hn' : n ≤ 17592186044416) (w : World) (hx : SecsAt w A us) :
    Calls Try.prog 67 #[.slice A n c, .string cb, .string sb] w fun e w' => e = .returned (.string (secW (strB cb) (strB sb) us)) ∧ Below w.heap.size w w' := by
  have Hn := Lib.hid hn
  have HX := Lib.hid hx
  clear hn hx
  go_enter Try.func67, Try.ntmps67
  go_wp2_with fail
  refine (find_any A n c us cb sb Hn.out hn' _ HX.out).mono ?_
  rintro e w2 ⟨hb2, he⟩
  have S2 : Step w2 w := ⟨hb2⟩
  have HX2 : Hid (Ext w w2) := (inferInstance : Ext w w2)
  clear hb2
  rcases hq : findF (strB cb) (strB sb) us with _ | u
  · have HF : Hid (secW (strB cb) (strB sb) us = ⟨#[]⟩) := by unfold Hid secW; rw [hq]
    rw [hq] at he
    simp only at he
    subst he
    clear hq
    have p2 : ∀ o, (w2.alloc o).heap[w2.heap.size]? = some o := at_new w2
    go_wp2_with
      (refine wpList_store_row_o rfl 44 (.tmp 7) (.tmp 14) rfl w2.heap.size zSec rfl rfl 44 zSec (p2 _) (by kernel_rfl) rfl (by simp [Value.oneCell']) ?_
       intro w3 hr3 ho3 hz3 hb3
       have HX3 : Hid (Ext w w3) := ⟨hb3 _ _ (inferInstance : Ext w (w2.alloc _)).out HX2.out.out.size⟩
       have p3 : w3.cell? ⟨w2.heap.size, 2, none⟩ = some (.string ⟨#[]⟩) := at_cell hr3 2)
    go_ret
    exact ⟨by rw [HF.out]; rfl, HX3.out.out⟩
  · have HF : Hid (secW (strB cb) (strB sb) us = u.d) := by unfold Hid secW; rw [hq]
    rw [hq] at he
    simp only at he
    obtain ⟨⟨vc, vss, vd, vA, vn, vk, vx⟩, rfl, hd, hn2, ho2⟩ := he
    have hdd : vd = u.d := congrArg (fun x => x.2.1) hd
    rw [← hdd] at HF
    simp only [SV.val]
    clear hq hd hn2 ho2 hdd
    have p2 : ∀ o, (w2.alloc o).heap[w2.heap.size]? = some o := at_new w2
    go_wp2_with
      (refine wpList_store_row_o rfl 44 (.tmp 7) (.tmp 14) rfl w2.heap.size #[.string vc, .string vss, .string vd, .slice vA vn vk] rfl rfl 44 zSec (p2 _) (by kernel_rfl) rfl (by simp [Value.oneCell']) ?_
       intro w3 hr3 ho3 hz3 hb3
       have HX3 : Hid (Ext w w3) := ⟨hb3 _ _ (inferInstance : Ext w (w2.alloc _)).out HX2.out.out.size⟩
       have p3 : w3.cell? ⟨w2.heap.size, 2, none⟩ = some (.string vd) := at_cell hr3 2)
    go_ret
    exact ⟨by rw [HF.out]; rfl, HX3.out.out⟩
end Go.Proofs.Ytobddmpiljknpaa
