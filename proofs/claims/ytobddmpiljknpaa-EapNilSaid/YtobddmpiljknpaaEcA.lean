/-
  eap: say, NewPeer; a peer in memory. Conditions: sizes.
-/
import Derived.Test.YtobddmpiljknpaaEbI
namespace Go.Proofs.Ytobddmpiljknpaa
open Go.RowKit
set_option linter.unusedVariables false
set_option linter.unusedSimpArgs false

/-- What is said: a response. -/
def SayTells (r : (Int × Int) × List Int × Int) (w : World) (e : Ending) (w' : World) : Prop :=
  ∃ A k, e = .returned (.tuple #[.agg #[.int .i64 r.1.1, .int .i64 r.1.2, .slice A r.2.1.length k], .bool true, .int .i64 0]) ∧ w'.ownsRow w.heap.size 5 1 (.slice A r.2.1.length k) r.2.1.length (nums .u8 r.2.1) ∧ Below w.heap.size w w'
set_option maxRecDepth 100000 in
set_option maxHeartbeats 4000000 in
theorem say_any (id ty : Int) (V : Option Addr) (n c : Nat) (v : List Int) (s : ByteArray) (hn : v.length = n) (hn' : n ≤ 140737488355000) (hs : s.size ≤ 140737488355000) (w : World) (hx : Cells w V (nums .u8 v)) :
    Calls Try.prog 91 #[.agg #[.int .i64 0, .int .i64 id, .int .i64 ty, .slice V n c, .string s]] w (SayTells (wrE 2 id ty v (strB s)) w) := by
  have Hn := Lib.hid hn
  have HX := Lib.hid hx
  clear hn hx
  go_enter Try.func91, Try.ntmps91
  go_upto_region 1 with fail
  obtain ⟨wb, hwb⟩ : ∃ wb, (w.alloc (.cells #[.int .i64 0, .int .i64 id, .int .i64 ty, .slice V n c, .string s] 52)).alloc zPk = wb := ⟨_, rfl⟩
  have HM : Hid (wb.heap[w.heap.size]? = some (.cells #[.int .i64 0, .int .i64 id, .int .i64 ty, .slice V n c, .string s] 52 (0, 0))) := by unfold Hid; rw [← hwb]; exact at_ext (at_new w _)
  have HZ : Hid (wb.heap[w.heap.size + 1]? = some zPk) := by unfold Hid; rw [← hwb]; exact at_new1 (by simp)
  have HW : Hid (Ext w wb) := by unfold Hid; rw [← hwb]; exact inferInstance
  rw [hwb]
  clear hwb
  have m0 : wb.cell? ⟨w.heap.size, 0, none⟩ = some (.int .i64 0) := at_cell HM.out 0
  have g0 : wb.frozen? ⟨w.heap.size, 0, none⟩ = false := at_frozen HM.out 0
  go_upto_region 2 with fail
  obtain ⟨w1, hw1⟩ : ∃ w1, wb.setCell ⟨w.heap.size, 0, none⟩ (.int .i64 2) = w1 := ⟨_, rfl⟩
  have HM1 : Hid (w1.heap[w.heap.size]? = some (.cells #[.int .i64 2, .int .i64 id, .int .i64 ty, .slice V n c, .string s] 52 (0, 0))) := by unfold Hid; rw [← hw1]; exact at_set HM.out 0 _
  have HZ1 : Hid (w1.heap[w.heap.size + 1]? = some zPk) := by unfold Hid; rw [← hw1]; exact at_other (p := ⟨w.heap.size, 0, none⟩) _ HZ.out (by show w.heap.size + 1 ≠ w.heap.size; omega)
  have X1 : Hid (Ext w w1) := by unfold Hid; rw [← hw1]; exact ⟨HW.out.out.setCell (p := ⟨w.heap.size, 0, none⟩) (Nat.le_refl _) _⟩
  rw [hw1]
  clear hw1 m0 g0
  obtain ⟨⟨⟨ci, ii⟩, d, er⟩, hwr⟩ : ∃ F, wrE 2 id ty v (strB s) = F := ⟨_, rfl⟩
  have HWR := Lib.hid hwr
  clear hwr
  go_wp2_with
    (refine wpList_load_row rfl 52 (.tmp 1) rfl w.heap.size rfl 52 #[.int .i64 2, .int .i64 id, .int .i64 ty, .slice V n c, .string s] (0, 0) _ HM1.out Try.underlying52 rfl (by kernel_rfl) ?_)
  refine (write_any 2 id ty V n c v s Hn.out hn' hs _ (HX.out.ext (h := X1.out))).mono ?_
  rintro e w3 ⟨A3, k3, rfl, ho3, hb3⟩
  rw [HWR.out] at ho3 ⊢
  simp only at ho3 ⊢
  have X3 : Hid (Ext w1 w3) := ⟨hb3⟩
  have HO3 := Lib.hid ho3
  have pp : ∀ o, (w3.alloc o).heap[w3.heap.size]? = some o := at_new w3
  clear ho3 hb3
  go_upto_region 3 with
    (refine wpList_store_row_o rfl 24 (.tmp 5) (.tmp 11) rfl w3.heap.size #[.int .i64 ci, .int .i64 ii, .slice A3 d.length k3] rfl rfl 24 #[.int .i64 0, .int .i64 0, .slice none 0 0] (pp _) (by kernel_rfl) rfl (by simp [Value.oneCell']) ?_
     intro w4 hr4 ho4 hz4 hb4
     have HR4 := Lib.hid hr4
     have X34 : Hid (Ext w3 w4) := ⟨hb4 _ _ (inferInstance : Ext w3 (w3.alloc _)).out (Nat.le_refl _)⟩
     clear hr4 ho4 hz4 hb4 pp)
  have X4 : Hid (Ext w1 w4) := Ext.trans_ X3.out X34.out
  have HZ4 : Hid (w4.heap[w.heap.size + 1]? = some zPk) := at_ext (h := X4.out) HZ1.out
  have HO4 := Lib.hid (own_ext (h := X34.out) HO3.out)
  have HNE : Hid ((Value.slice A3 d.length k3).ownBlock ≠ some (w.heap.size + 1)) := own_type_ne HO4.out HZ4.out (by decide)
  go_wp2_with
    (first
     | (refine wpList_load_row rfl 24 (.tmp 5) rfl w3.heap.size rfl 24 #[.int .i64 ci, .int .i64 ii, .slice A3 d.length k3] (0, 0) _ HR4.out Try.underlying24 rfl (by kernel_rfl) ?_)
     | (refine wpList_store_row rfl 24 (.tmp 2) (.tmp 13) rfl (w.heap.size + 1) #[.int .i64 ci, .int .i64 ii, .slice A3 d.length k3] rfl rfl 24 #[.int .i64 0, .int .i64 0, .slice none 0 0] HZ4.out (by kernel_rfl) rfl (by simp [Value.oneCell']) ?_))
  refine bodyPost_ret (results_cell_row3 Try.results91 _ _ (w.heap.size + 1) 24 #[.int .i64 ci, .int .i64 ii, .slice A3 d.length k3] (0, 0) _ (.bool true) (.int .i64 0) rfl rfl rfl (setRow_heap _ _ _ _ _ _ HZ4.out) Try.underlying24 rfl (by kernel_rfl)) rfl ?_
  rw [HWR.out]
  exact ⟨A3, k3, rfl, own_weaken (own_setRow HO4.out HNE.out _) X1.out.out.size, (Ext.setRow_ (Ext.trans_ X1.out X4.out) (by omega) _).out⟩
/-- A peer, at block B; its table at T. -/
structure EPeer (w : World) (B T : Nat) (nm : ByteArray) (st : Int) (nt : ByteArray) (us : List SV) : Prop where
  b : w.heap[B]? = some (.cells #[.string nm, .pointer (some ⟨T, 0, none⟩), .int .i64 st, .string nt] 145 (0, 0))
  t : TabLow w B T us
  l : us.length ≤ 64
  nml : nm.size ≤ 64
section
variable {w w' : World} {B T : Nat} {nm nt : ByteArray} {st : Int} {us : List SV}
theorem EPeer.ext [h : Ext w w'] (k : EPeer w B T nm st nt us) : EPeer w' B T nm st nt us :=
  ⟨at_ext k.b, k.t.move fun j hj => h.out.block j (Nat.lt_trans hj (at_lt k.b)), k.l, k.nml⟩
theorem EPeer.setS (k : EPeer w B T nm st nt us) (x : Int) : EPeer (w.setCell ⟨B, 2, none⟩ (.int .i64 x)) B T nm x nt us :=
  ⟨at_set k.b 2 _, k.t.move fun j hj => Below.heap_setCell _ _ _ _ (Nat.ne_of_lt hj), k.l, k.nml⟩
theorem EPeer.setN (k : EPeer w B T nm st nt us) (x : ByteArray) : EPeer (w.setCell ⟨B, 3, none⟩ (.string x)) B T nm st x us :=
  ⟨at_set k.b 3 _, k.t.move fun j hj => Below.heap_setCell _ _ _ _ (Nat.ne_of_lt hj), k.l, k.nml⟩
theorem EPeer.rowY (k : EPeer w B T nm st nt us) {g : Nat} (hg : B < g) (row : Array Value) : EPeer (w.setRow g row) B T nm st nt us :=
  ⟨(setRow_other _ _ _ _ (by omega)).trans k.b, k.t.move fun j hj => setRow_other _ _ _ _ (by omega), k.l, k.nml⟩
end
def EPeerTells (nm : ByteArray) (us : List SV) (w : World) (e : Ending) (w' : World) : Prop :=
  Below w.heap.size w w' ∧ if nameF (strB nm) = false then e = .returned (.tuple #[.pointer none, .int .i64 60, .int .i64 0])
    else if (wrongF us).1 ≠ 0 then e = .returned (.tuple #[.pointer none, .int .i64 (wrongF us).1, .int .i64 (wrongF us).2])
    else ∃ B T vs, e = .returned (.tuple #[.pointer (some ⟨B, 0, none⟩), .int .i64 0, .int .i64 0]) ∧ w.heap.size ≤ B ∧ EPeer w' B T nm 0 noB vs ∧ vs.map SV.dat = us.map SV.dat
set_option maxRecDepth 100000 in
set_option maxHeartbeats 2000000 in
theorem newPeer4_any (nm : ByteArray) (hnm : nm.size ≤ 140737488355328) (A : Option Addr) (n c : Nat) (us : List SV) (hn : us.length = n) (hn' : n ≤ 17592186044416) (w : World) (hx : SecsAt w A us) :
    Calls Try.prog 53 #[.string nm, .slice A n c] w (EPeerTells nm us w) := by
  have Hn := Lib.hid hn
  have HX := Lib.hid hx
  clear hn hx
  rcases hq : nameF (strB nm) with _ | _
  · have HQ := Lib.hid hq
    clear hq
    go_enter Try.func53, Try.ntmps53
    go_wp2_with fail
    refine (isName_any nm hnm _).mono ?_
    rintro e w1 ⟨rfl, hb1⟩
    rw [HQ.out]
    have S1 : Step w1 w := ⟨hb1⟩
    have HX1 : Hid (Ext w w1) := ⟨hb1⟩
    clear hb1
    go_wp2_with fail
    go_ret3
    refine ⟨HX1.out.out, ?_⟩
    rw [if_pos HQ.out]
    rfl
  have HQ := Lib.hid hq
  clear hq
  go_enter Try.func53, Try.ntmps53
  go_wp2_with fail
  refine (isName_any nm hnm _).mono ?_
  rintro e w1 ⟨rfl, hb1⟩
  rw [HQ.out]
  have S1 : Step w1 w := ⟨hb1⟩
  have HX1 : Hid (Ext w w1) := ⟨hb1⟩
  clear hb1
  go_wp2_with fail
  refine (new_any A n c us Hn.out hn' _ HX.out.ext).mono ?_
  rintro e w2 ⟨hb2, he⟩
  have S2 : Step w2 w1 := ⟨hb2⟩
  have HX2 : Hid (Ext w w2) := (inferInstance : Ext w w2)
  clear hb2
  obtain ⟨p1, hp1⟩ : ∃ p1, (wrongF us).1 = p1 := ⟨_, rfl⟩
  obtain ⟨p2, hp2⟩ : ∃ p2, (wrongF us).2 = p2 := ⟨_, rfl⟩
  have HP1 := Lib.hid hp1
  have HP2 := Lib.hid hp2
  rw [hp1, hp2] at he
  clear hp1 hp2
  by_cases hz : p1 = 0
  · subst hz
    rw [if_neg (by simp)] at he
    obtain ⟨T, vs, rfl, hT, ht, hd⟩ := he
    have HT := Lib.hid ht.low
    have HD := Lib.hid hd
    have HVL : Hid (vs.length ≤ 64) := by
      have h1 := congrArg List.length hd
      simp only [List.length_map] at h1
      have h2 := wrong_len HP1.out
      unfold Hid
      omega
    have HNL : Hid (nm.size ≤ 64) := by
      have h := HQ.out
      unfold nameF at h
      simp only [Bool.and_eq_true, decide_eq_true_eq] at h
      unfold Hid
      rw [← strB_len]
      omega
    clear ht hd hT
    go_wp2_with fail
    go_ret3
    refine ⟨(inferInstance : Ext w (w2.alloc _)).out, ?_⟩
    rw [if_neg (by rw [HQ.out]; simp), if_neg (by rw [HP1.out]; simp)]
    exact ⟨w2.heap.size, T, vs, rfl, HX2.out.out.size, ⟨at_new w2 _, HT.out.move fun k hk => Ext.out.block k hk, HVL.out, HNL.out⟩, HD.out⟩
  · rw [if_pos hz] at he
    subst he
    have hz' : (p1 != 0) = true := by simpa using hz
    go_wp2_with fail
    go_ret3
    refine ⟨HX2.out.out, ?_⟩
    rw [if_neg (by rw [HQ.out]; simp), if_pos (by rw [HP1.out]; exact hz), HP1.out, HP2.out]
    rfl
section
variable (B T : Nat) (nm nt : ByteArray) (st : Int) (us : List SV) (w : World) (hE : EPeer w B T nm st nt us)
include hE
theorem pstate4_any : Calls Try.prog 57 #[.pointer (some ⟨B, 0, none⟩)] w fun e w' => e = .returned (.int .i64 st) ∧ w = w' := by
  have p2 : w.cell? ⟨B, 2, none⟩ = some (.int .i64 st) := at_cell hE.b 2
  clear hE
  go_enter Try.func57, Try.ntmps57
  go_wp2
  go_ret
  exact ⟨rfl, rfl⟩
theorem pnotice4_any : Calls Try.prog 58 #[.pointer (some ⟨B, 0, none⟩)] w fun e w' => e = .returned (.string nt) ∧ w = w' := by
  have p2 : w.cell? ⟨B, 3, none⟩ = some (.string nt) := at_cell hE.b 3
  clear hE
  go_enter Try.func58, Try.ntmps58
  go_wp2
  go_ret
  exact ⟨rfl, rfl⟩
end
theorem pstate4_nil (w : World) : Calls Try.prog 57 #[.pointer none] w fun e w' => e = .returned (.int .i64 0) ∧ w = w' := by
  go_enter Try.func57, Try.ntmps57
  go_wp2
  go_ret
  exact ⟨rfl, rfl⟩
theorem pnotice4_nil (w : World) : Calls Try.prog 58 #[.pointer none] w fun e w' => e = .returned (.string ⟨#[]⟩) ∧ w = w' := by
  go_enter Try.func58, Try.ntmps58
  go_wp2
  go_ret
  exact ⟨rfl, rfl⟩
set_option maxRecDepth 100000 in
theorem ptake4_nil (code id : Int) (A : Option Addr) (n c : Nat) (w : World) : Calls Try.prog 55 #[.pointer none, .agg #[.int .i64 code, .int .i64 id, .slice A n c]] w fun e w' => e = .returned (.tuple #[.agg #[.int .i64 0, .int .i64 0, .slice none 0 0], .bool false, .int .i64 2]) ∧ Below w.heap.size w w' := by
  go_enter Try.func55, Try.ntmps55
  go_wp2
  refine bodyPost_ret (results_cell_row3 Try.results55 _ _ (w.heap.size + 1) 24 #[.int .i64 0, .int .i64 0, .slice none 0 0] (0, 0) _ (.bool false) (.int .i64 2) rfl rfl rfl (at_new1 (o := zPk) (by simp)) Try.underlying24 rfl (by kernel_rfl)) rfl ?_
  exact ⟨rfl, Ext.out⟩
end Go.Proofs.Ytobddmpiljknpaa
