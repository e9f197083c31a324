/-
  eap: Server.Take whole; State, Who; a server that is not there; NewServer. Conditions: sizes.
-/
import Derived.Test.YtobddmpiljknpaaEbG
import Derived.Test.YtobddmpiljknpaaEbH
namespace Go.Proofs.Ytobddmpiljknpaa
open Go.RowKit
set_option linter.unusedVariables false
set_option linter.unusedSimpArgs false

theorem take4_any (B T : Nat) (nm : ByteArray) (tries : Int) (s : SS) (us : List SV) (LA : Option Addr) (lk : Nat) (code id : Int) (A : Option Addr) (n c : Nat) (xs : List Int) (V : Option Addr) (vn vc : Nat) (v : List Int) (hn : xs.length = n) (hn' : n ≤ 140737488355000) (hnc : n ≤ c) (hb : Byt xs) (hv : v.length = vn) (hv' : vn ≤ 140737488355328) (hbv : Byt v) (w : World) (hx : Cells w A (nums .u8 xs)) (hxv : Cells w V (nums .u8 v)) (hfv : ∀ ad, V = some ad → ad.block ≠ B ∧ ad.block < w.heap.size) (hE : ESrv w B T nm tries s us LA lk) :
        Calls Try.prog 41 #[.pointer (some ⟨B, 0, none⟩), .agg #[.int .i64 code, .int .i64 id, .slice A n c], .slice V vn vc] w (TkTells B T nm tries us (takeR nm us s code id xs v) w) := by
  obtain ⟨⟨⟨mc, mi, mt, mv, ms⟩, me⟩, hrd⟩ : ∃ F, rdE code id xs = F := ⟨_, rfl⟩
  by_cases z0 : me = 0
  case neg => exact take4_b1 B T nm tries s us LA lk code id A n c xs V vn vc v hn hn' hnc hb hv hv' hbv w hx hxv hfv hE mc mi mt mv ms me hrd z0
  subst z0
  by_cases z1 : mc = 2
  case neg => exact take4_b2 B T nm tries s us LA lk code id A n c xs V vn vc v hn hn' hnc hb hv hv' hbv w hx hxv hfv hE mc mi mt mv ms 0 hrd rfl z1
  subst z1
  by_cases c1 : s.st = 1
  · by_cases z3 : mi = s.id
    case neg => exact take4_b41 B T nm tries s us LA lk code id A n c xs V vn vc v hn hn' hnc hb hv hv' hbv w hx hxv hfv hE mi mt mv ms hrd c1 z3
    by_cases t1 : mt = 1
    case neg => exact take4_g3 B T nm tries s us LA lk code id A n c xs V vn vc v hn hn' hnc hb hv hv' hbv w hx hxv hfv hE mi mt mv ms hrd c1 z3 t1
    subst t1
    rcases hnm : nameF ms with _ | _
    · exact take4_g4 B T nm tries s us LA lk code id A n c xs V vn vc v hn hn' hnc hb hv hv' hbv w hx hxv hfv hE mi mv ms hrd c1 z3 hnm
    · exact take4_g5 B T nm tries s us LA lk code id A n c xs V vn vc v hn hn' hnc hb hv hv' hbv w hx hxv hfv hE mi mv ms hrd c1 z3 hnm
  by_cases c2 : s.st = 2
  · by_cases z3 : mi = s.id
    case neg => exact take4_b42 B T nm tries s us LA lk code id A n c xs V vn vc v hn hn' hnc hb hv hv' hbv w hx hxv hfv hE mi mt mv ms hrd c2 z3
    by_cases t4 : mt = 4
    case neg => exact take4_g1 B T nm tries s us LA lk code id A n c xs V vn vc v hn hn' hnc hb hv hv' hbv w hx hxv hfv hE mi mt mv ms hrd c2 z3 t4
    subst t4
    exact take4_g2 B T nm tries s us LA lk code id A n c xs V vn vc v hn hn' hnc hb hv hv' hbv w hx hxv hfv hE mi mv ms hrd c2 z3
  exact take4_b3 B T nm tries s us LA lk code id A n c xs V vn vc v hn hn' hnc hb hv hv' hbv w hx hxv hfv hE s.st mi mt mv ms hrd rfl ⟨c1, c2⟩
section
variable (B T : Nat) (nm : ByteArray) (tries : Int) (s : SS) (us : List SV) (LA : Option Addr) (lk : Nat) (w : World) (hE : ESrv w B T nm tries s us LA lk)
include hE
theorem state4_any : Calls Try.prog 43 #[.pointer (some ⟨B, 0, none⟩)] w fun e w' => e = .returned (.int .i64 s.st) ∧ w = w' := by
  have p2 : w.cell? ⟨B, 4, none⟩ = some (.int .i64 s.st) := at_cell hE.b 4
  clear hE
  go_enter Try.func43, Try.ntmps43
  go_wp2
  go_ret
  exact ⟨rfl, rfl⟩
theorem who4_any : Calls Try.prog 45 #[.pointer (some ⟨B, 0, none⟩)] w fun e w' => e = .returned (.string s.who) ∧ w = w' := by
  have p2 : w.cell? ⟨B, 7, none⟩ = some (.string s.who) := at_cell hE.b 7
  clear hE
  go_enter Try.func45, Try.ntmps45
  go_wp2
  go_ret
  exact ⟨rfl, rfl⟩
end
theorem state4_nil (w : World) : Calls Try.prog 43 #[.pointer none] w fun e w' => e = .returned (.int .i64 0) ∧ w = w' := by
  go_enter Try.func43, Try.ntmps43
  go_wp2
  go_ret
  exact ⟨rfl, rfl⟩
theorem who4_nil (w : World) : Calls Try.prog 45 #[.pointer none] w fun e w' => e = .returned (.string ⟨#[]⟩) ∧ w = w' := by
  go_enter Try.func45, Try.ntmps45
  go_wp2
  go_ret
  exact ⟨rfl, rfl⟩
theorem start4_nil (w : World) : Calls Try.prog 40 #[.pointer none] w fun e w' => e = .returned (.tuple #[.agg #[.int .i64 0, .int .i64 0, .slice none 0 0], .int .i64 2]) ∧ Below w.heap.size w w' := by
  go_enter Try.func40, Try.ntmps40
  go_wp2
  refine bodyPost_ret (results_cell_row2 Try.results40 _ _ w.heap.size 24 #[.int .i64 0, .int .i64 0, .slice none 0 0] (0, 0) _ (.int .i64 2) rfl rfl (at_new w zPk) Try.underlying24 rfl (by kernel_rfl)) rfl ?_
  exact ⟨rfl, Ext.out⟩
theorem prove4_nil (A : Option Addr) (n c : Nat) (w : World) : Calls Try.prog 59 #[.pointer none, .slice A n c] w fun e w' => e = .returned (.tuple #[.agg #[.int .i64 0, .int .i64 0, .slice none 0 0], .int .i64 2]) ∧ Below w.heap.size w w' := by
  go_enter Try.func59, Try.ntmps59
  go_wp2
  refine bodyPost_ret (results_cell_row2 Try.results59 _ _ w.heap.size 24 #[.int .i64 0, .int .i64 0, .slice none 0 0] (0, 0) _ (.int .i64 2) rfl rfl (at_new w zPk) Try.underlying24 rfl (by kernel_rfl)) rfl ?_
  exact ⟨rfl, Ext.out⟩
theorem again4_nil (A : Option Addr) (n c : Nat) (w : World) : Calls Try.prog 63 #[.pointer none, .slice A n c] w fun e w' => e = .returned (.tuple #[.agg #[.int .i64 0, .int .i64 0, .slice none 0 0], .bool false, .int .i64 2]) ∧ Below w.heap.size w w' := by
  go_enter Try.func63, Try.ntmps63
  go_wp2
  refine bodyPost_ret (results_cell_row3 Try.results63 _ _ w.heap.size 24 #[.int .i64 0, .int .i64 0, .slice none 0 0] (0, 0) _ (.bool false) (.int .i64 2) rfl rfl rfl (at_new w zPk) Try.underlying24 rfl (by kernel_rfl)) rfl ?_
  exact ⟨rfl, Ext.out⟩
theorem take4_nil (code id : Int) (A : Option Addr) (n c : Nat) (V : Option Addr) (m d : Nat) (w : World) : Calls Try.prog 41 #[.pointer none, .agg #[.int .i64 code, .int .i64 id, .slice A n c], .slice V m d] w fun e w' => e = .returned (.tuple #[.agg #[.int .i64 0, .int .i64 0, .slice none 0 0], .bool false, .int .i64 2]) ∧ Below w.heap.size w w' := by
  go_enter Try.func41, Try.ntmps41
  go_wp2
  refine bodyPost_ret (results_cell_row3 Try.results41 _ _ (w.heap.size + 1) 24 #[.int .i64 0, .int .i64 0, .slice none 0 0] (0, 0) _ (.bool false) (.int .i64 2) rfl rfl rfl (at_new1 (o := zPk) (by simp)) Try.underlying24 rfl (by kernel_rfl)) rfl ?_
  exact ⟨rfl, Ext.out⟩
def s0S : SS := ⟨0, 0, 0, noB, noB, 0, 0, [], List.replicate 16 0⟩
def ESrvTells (nm : ByteArray) (tries : Int) (us : List SV) (w : World) (e : Ending) (w' : World) : Prop :=
  Below w.heap.size w w' ∧ if nameF (strB nm) = false then e = .returned (.tuple #[.pointer none, .int .i64 60, .int .i64 0])
    else if tries < 1 ∨ 255 < tries then e = .returned (.tuple #[.pointer none, .int .i64 1, .int .i64 0])
    else if (wrongF us).1 ≠ 0 then e = .returned (.tuple #[.pointer none, .int .i64 (wrongF us).1, .int .i64 (wrongF us).2])
    else ∃ B T vs, e = .returned (.tuple #[.pointer (some ⟨B, 0, none⟩), .int .i64 0, .int .i64 0]) ∧ w.heap.size ≤ B ∧ ESrv w' B T nm tries s0S vs none 0 ∧ vs.map SV.dat = us.map SV.dat
theorem wrong_len {us : List SV} (h : (wrongF us).1 = 0) : us.length ≤ 64 := by
  unfold wrongF at h
  split at h
  · simp at h
  · omega
set_option maxRecDepth 100000 in
set_option maxHeartbeats 2000000 in
theorem newServer4_any (nm : ByteArray) (hnm : nm.size ≤ 140737488355328) (tries : Int) (A : Option Addr) (n c : Nat) (us : List SV) (hn : us.length = n) (hn' : n ≤ 17592186044416) (w : World) (hx : SecsAt w A us) :
    Calls Try.prog 39 #[.string nm, .slice A n c, .int .i64 tries] w (ESrvTells nm tries us w) := by
  have Hn := Lib.hid hn
  have HX := Lib.hid hx
  clear hn hx
  rcases hq : nameF (strB nm) with _ | _
  · have HQ := Lib.hid hq
    clear hq
    go_enter Try.func39, Try.ntmps39
    go_wp2_with fail
    refine (isName_any nm hnm _).mono ?_
    rintro e w1 ⟨rfl, hb1⟩
    rw [HQ.out]
    have S1 : Step w1 w := ⟨hb1⟩
    have HX1 : Hid (Ext w w1) := ⟨hb1⟩
    clear hb1
    go_wp2_with fail
    go_ret3
    refine ⟨HX1.out.out, ?_⟩
    rw [if_pos HQ.out]
    rfl
  have HQ := Lib.hid hq
  clear hq
  by_cases t1 : tries < 1
  · skip
    go_enter Try.func39, Try.ntmps39
    go_wp2_with fail
    refine (isName_any nm hnm _).mono ?_
    rintro e w1 ⟨rfl, hb1⟩
    rw [HQ.out]
    have S1 : Step w1 w := ⟨hb1⟩
    have HX1 : Hid (Ext w w1) := ⟨hb1⟩
    clear hb1
    go_wp2_with fail
    go_ret3
    refine ⟨HX1.out.out, ?_⟩
    rw [if_neg (by rw [HQ.out]; simp), if_pos (.inl t1)]
    rfl
  by_cases t2 : 255 < tries
  · skip
    go_enter Try.func39, Try.ntmps39
    go_wp2_with fail
    refine (isName_any nm hnm _).mono ?_
    rintro e w1 ⟨rfl, hb1⟩
    rw [HQ.out]
    have S1 : Step w1 w := ⟨hb1⟩
    have HX1 : Hid (Ext w w1) := ⟨hb1⟩
    clear hb1
    go_wp2_with fail
    go_ret3
    refine ⟨HX1.out.out, ?_⟩
    rw [if_neg (by rw [HQ.out]; simp), if_pos (.inr t2)]
    rfl
  go_enter Try.func39, Try.ntmps39
  go_wp2_with fail
  refine (isName_any nm hnm _).mono ?_
  rintro e w1 ⟨rfl, hb1⟩
  rw [HQ.out]
  have S1 : Step w1 w := ⟨hb1⟩
  have HX1 : Hid (Ext w w1) := ⟨hb1⟩
  clear hb1
  go_wp2_with fail
  refine (new_any A n c us Hn.out hn' _ HX.out.ext).mono ?_
  rintro e w2 ⟨hb2, he⟩
  have S2 : Step w2 w1 := ⟨hb2⟩
  have HX2 : Hid (Ext w w2) := (inferInstance : Ext w w2)
  clear hb2
  obtain ⟨p1, hp1⟩ : ∃ p1, (wrongF us).1 = p1 := ⟨_, rfl⟩
  obtain ⟨p2, hp2⟩ : ∃ p2, (wrongF us).2 = p2 := ⟨_, rfl⟩
  have HP1 := Lib.hid hp1
  have HP2 := Lib.hid hp2
  rw [hp1, hp2] at he
  clear hp1 hp2
  by_cases hz : p1 = 0
  · subst hz
    rw [if_neg (by simp)] at he
    obtain ⟨T, vs, rfl, hT, ht, hd⟩ := he
    have HT := Lib.hid ht.low
    have HD := Lib.hid hd
    have HVL : Hid (vs.length ≤ 64) := by
      have h1 := congrArg List.length hd
      simp only [List.length_map] at h1
      have h2 := wrong_len HP1.out
      unfold Hid
      omega
    have HNL : Hid (nm.size ≤ 64) := by
      have h := HQ.out
      unfold nameF at h
      simp only [Bool.and_eq_true, decide_eq_true_eq] at h
      unfold Hid
      rw [← strB_len]
      omega
    clear ht hd hT
    go_wp2_with fail
    go_ret3
    refine ⟨(inferInstance : Ext w (w2.alloc _)).out, ?_⟩
    rw [if_neg (by rw [HQ.out]; simp), if_neg (by omega), if_neg (by rw [HP1.out]; simp)]
    refine ⟨w2.heap.size, T, vs, rfl, HX2.out.out.size, ⟨at_new w2 _, HT.out.move fun k hk => Ext.out.block k hk, HVL.out, rfl, (by unfold s0S; intro x hx; rw [List.eq_of_mem_replicate hx]; omega), ⟨by decide, by decide⟩, Cells.nil_ _ _, (fun _ h => by cases h), by decide, HNL.out, own_nil _ _ _ _⟩, HD.out⟩
  · rw [if_pos hz] at he
    subst he
    have hz' : (p1 != 0) = true := by simpa using hz
    go_wp2_with fail
    go_ret3
    refine ⟨HX2.out.out, ?_⟩
    rw [if_neg (by rw [HQ.out]; simp), if_neg (by omega), if_pos (by rw [HP1.out]; exact hz), HP1.out, HP2.out]
    rfl
end Go.Proofs.Ytobddmpiljknpaa
