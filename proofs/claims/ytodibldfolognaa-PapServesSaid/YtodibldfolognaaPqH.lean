/-
  NewServer of both, with where the table lies; ref06.One, Same. Conditions: sizes.
-/
import Derived.Test.YtodibldfolognaaPqG
import Derived.Deep.DeepCutAuto
namespace Go.Proofs.Ytodibldfolognaa
open Go.RowKit
set_option linter.unusedVariables false
set_option linter.unusedSimpArgs false

def SrvTells2 (nm : ByteArray) (us : List SV) (w : World) (e : Ending) (w' : World) : Prop :=
  Below w.heap.size w w' ∧ if nameF (strB nm) = false then e = .returned (.tuple #[.pointer none, .int .i64 60, .int .i64 0])
    else if (wrongF us).1 ≠ 0 then e = .returned (.tuple #[.pointer none, .int .i64 (wrongF us).1, .int .i64 (wrongF us).2])
    else ∃ B T vs, e = .returned (.tuple #[.pointer (some ⟨B, 0, none⟩), .int .i64 0, .int .i64 0]) ∧ (w.heap.size ≤ T ∧ T < B) ∧ SrvAt w' B T nm 0 ⟨#[]⟩ vs ∧ vs.map SV.dat = us.map SV.dat
set_option maxRecDepth 100000 in
set_option maxHeartbeats 2000000 in
theorem newServer2_any (nm : ByteArray) (hnm : nm.size ≤ 140737488355328) (A : Option Addr) (n c : Nat) (us : List SV) (hn : us.length = n) (hn' : n ≤ 17592186044416) (w : World) (hx : SecsAt w A us) :
    Calls Try.prog 45 #[.string nm, .slice A n c] w (SrvTells2 nm us w) := by
  have HX := Lib.hid hx
  have Hn := Lib.hid hn
  clear hx hn
  rcases h1 : nameF (strB nm) with _ | _
  · have HQ := Lib.hid h1
    have HF : Hid (∀ w', Below w.heap.size w w' → SrvTells2 nm us w (.returned (.tuple #[.pointer none, .int .i64 60, .int .i64 0])) w') := fun w' h => ⟨h, by rw [if_pos h1]⟩
    clear h1
    go_enter Try.func45, Try.ntmps45
    go_wp2_with fail
    refine (pright_any nm hnm _).mono ?_
    rintro e w1 ⟨rfl, hb1⟩
    rw [HQ.out]
    go_wp2_with fail
    go_ret3
    exact HF.out _ hb1
  · have HQ := Lib.hid h1
    have HF0 : Hid (∀ e w', (Below w.heap.size w w' ∧ if (wrongF us).1 ≠ 0 then e = .returned (.tuple #[.pointer none, .int .i64 (wrongF us).1, .int .i64 (wrongF us).2])
    else ∃ B T vs, e = .returned (.tuple #[.pointer (some ⟨B, 0, none⟩), .int .i64 0, .int .i64 0]) ∧ (w.heap.size ≤ T ∧ T < B) ∧ SrvAt w' B T nm 0 ⟨#[]⟩ vs ∧ vs.map SV.dat = us.map SV.dat) → SrvTells2 nm us w e w') := fun e w' h => ⟨h.1, by rw [if_neg (by simp [h1])]; exact h.2⟩
    clear h1
    go_enter Try.func45, Try.ntmps45
    go_wp2_with fail
    refine (pright_any nm hnm _).mono ?_
    rintro e w1 ⟨rfl, hb1⟩
    rw [HQ.out]
    have S1 : Step w1 w := ⟨hb1⟩
    have HX1 : Hid (Ext w w1) := ⟨hb1⟩
    clear hb1
    go_wp2_with fail
    refine (new_any A n c us Hn.out hn' _ HX.out.ext).mono ?_
    rintro e w2 ⟨hb2, he⟩
    have S2 : Step w2 w1 := ⟨hb2⟩
    have HX2 : Hid (Ext w w2) := (inferInstance : Ext w w2)
    clear hb2
    obtain ⟨p1, hp1⟩ : ∃ p1, (wrongF us).1 = p1 := ⟨_, rfl⟩
    obtain ⟨p2, hp2⟩ : ∃ p2, (wrongF us).2 = p2 := ⟨_, rfl⟩
    rw [hp1, hp2] at HF0
    rw [hp1, hp2] at he
    clear hp1 hp2
    by_cases hz : p1 = 0
    · subst hz
      rw [if_neg (by simp)] at he
      obtain ⟨T, vs, rfl, hT, ht, hd⟩ := he
      have HT := Lib.hid ht.low
      have HTB : Hid (w.heap.size ≤ T ∧ T < w2.heap.size) := ⟨Nat.le_trans S1.out.size hT, by obtain ⟨v, h1, _⟩ := ht; exact at_lt h1⟩
      have HD := Lib.hid hd
      clear ht hd hT
      go_wp2_with fail
      go_ret3
      refine HF0.out _ _ ⟨(inferInstance : Ext w (w2.alloc _)).out, ?_⟩
      rw [if_neg (by simp)]
      exact ⟨w2.heap.size, T, vs, rfl, HTB.out, ⟨at_new w2 _, HT.out.move fun k hk => Ext.out.block k hk⟩, HD.out⟩
    · rw [if_pos hz] at he
      subst he
      have hz' : (p1 != 0) = true := by simpa using hz
      go_wp2_with fail
      go_ret3
      refine HF0.out _ _ ⟨HX2.out.out, ?_⟩
      rw [if_pos hz]
      rfl
def RNewTells (nm : ByteArray) (A : Option Addr) (n c : Nat) (us : List SV) (w : World) (e : Ending) (w' : World) : Prop :=
  Below w.heap.size w w' ∧ if nameF (strB nm) = false then e = .returned (.tuple #[.pointer none, .int .i64 60, .int .i64 0])
    else if (wrongF us).1 ≠ 0 then e = .returned (.tuple #[.pointer none, .int .i64 (wrongF us).1, .int .i64 (wrongF us).2])
    else ∃ R, e = .returned (.tuple #[.pointer (some ⟨R, 0, none⟩), .int .i64 0, .int .i64 0]) ∧ w.heap.size ≤ R ∧ RSrvAt w' R nm A n c 0 ⟨#[]⟩
set_option maxRecDepth 100000 in
set_option maxHeartbeats 2000000 in
theorem rnewServer_any (nm : ByteArray) (hnm : nm.size ≤ 140737488355328) (A : Option Addr) (n c : Nat) (us : List SV) (hn : us.length = n) (hn' : n ≤ 17592186044416) (w : World) (hx : SecsAt w A us) :
    Calls Try.prog 46 #[.string nm, .slice A n c] w (RNewTells nm A n c us w) := by
  have HX := Lib.hid hx
  have Hn := Lib.hid hn
  clear hx hn
  rcases h1 : nameF (strB nm) with _ | _
  · have HQ := Lib.hid h1
    have HF : Hid (∀ w', Below w.heap.size w w' → RNewTells nm A n c us w (.returned (.tuple #[.pointer none, .int .i64 60, .int .i64 0])) w') := fun w' h => ⟨h, by rw [if_pos h1]⟩
    clear h1
    go_enter Try.func46, Try.ntmps46
    go_wp2_with fail
    refine (rname_any nm hnm _).mono ?_
    rintro e w1 ⟨rfl, rfl⟩
    rw [HQ.out]
    go_wp2_with fail
    go_ret3
    exact HF.out _ (Below.refl _ _)
  · have HQ := Lib.hid h1
    have HF0 : Hid (∀ e w', (Below w.heap.size w w' ∧ if (wrongF us).1 ≠ 0 then e = .returned (.tuple #[.pointer none, .int .i64 (wrongF us).1, .int .i64 (wrongF us).2])
    else ∃ R, e = .returned (.tuple #[.pointer (some ⟨R, 0, none⟩), .int .i64 0, .int .i64 0]) ∧ w.heap.size ≤ R ∧ RSrvAt w' R nm A n c 0 ⟨#[]⟩) → RNewTells nm A n c us w e w') := fun e w' h => ⟨h.1, by rw [if_neg (by simp [h1])]; exact h.2⟩
    clear h1
    go_enter Try.func46, Try.ntmps46
    go_wp2_with fail
    refine (rname_any nm hnm _).mono ?_
    rintro e w1 ⟨rfl, rfl⟩
    rw [HQ.out]
    go_wp2_with fail
    refine (rfault_any A n c us Hn.out hn' _ HX.out.ext).mono ?_
    rintro e w2 ⟨rfl, hb2⟩
    have S2 : Step w2 w := ⟨hb2⟩
    clear hb2
    obtain ⟨p1, hp1⟩ : ∃ p1, (wrongF us).1 = p1 := ⟨_, rfl⟩
    obtain ⟨p2, hp2⟩ : ∃ p2, (wrongF us).2 = p2 := ⟨_, rfl⟩
    rw [hp1, hp2] at HF0 ⊢
    clear hp1 hp2
    by_cases hz : p1 = 0
    · subst hz
      go_wp2_with fail
      go_ret3
      refine HF0.out _ _ ⟨(inferInstance : Ext w (w2.alloc _)).out, ?_⟩
      rw [if_neg (by simp)]
      exact ⟨w2.heap.size, rfl, S2.out.size, at_new w2 _⟩
    · have hz' : (p1 != 0) = true := by simpa using hz
      go_wp2_with fail
      go_ret3
      refine HF0.out _ _ ⟨S2.out, ?_⟩
      rw [if_pos hz]
      rfl
set_option maxRecDepth 100000 in
set_option maxHeartbeats 4000000 in
theorem one_same (u v : SV) (hd : u.dat = v.dat) (w : World) (hu : u.Ok w) (hv : v.Ok w) :
    Calls Try.prog 101 #[u.val, v.val] w fun e w' => e = .returned (.bool true) ∧ Below w.heap.size w w' := by
  obtain ⟨c, s, d, A, n, k, xs⟩ := u
  obtain ⟨c', s', d', A', n', k', xs'⟩ := v
  obtain ⟨rfl, rfl, rfl, rfl⟩ : c = c' ∧ s = s' ∧ d = d' ∧ xs = xs' := dat_parts hd
  obtain rfl : n = n' := hu.n.symm.trans hv.n
  have HU := Lib.hid hu
  have HV := Lib.hid hv
  have hnm : n ≤ 17592186044416 := hu.m
  clear hu hv hd
  unfold SV.val
  simp only
  go_enter Try.func101, Try.ntmps101
  go_upto_region 1 with fail
  obtain ⟨wb, hwb⟩ : ∃ wb, (w.alloc (.cells #[.string c, .string s, .string d, .slice A n k] 79)).alloc (.cells #[.string c, .string s, .string d, .slice A' n k'] 79) = wb := ⟨_, rfl⟩
  have HP1 : Hid (wb.heap[w.heap.size]? = some (.cells #[.string c, .string s, .string d, .slice A n k] 79 (0, 0))) := by unfold Hid; rw [← hwb]; exact at_ext (at_new w _)
  have HP2 : Hid (wb.heap[w.heap.size + 1]? = some (.cells #[.string c, .string s, .string d, .slice A' n k'] 79 (0, 0))) := by unfold Hid; rw [← hwb]; exact at_new1 (by simp)
  have Sb : Step wb w := ⟨by rw [← hwb]; exact Ext.out⟩
  rw [hwb]
  clear hwb
  have a0 : wb.cell? ⟨w.heap.size, 0, none⟩ = some (.string c) := at_cell HP1.out 0
  have a1 : wb.cell? ⟨w.heap.size, 1, none⟩ = some (.string s) := at_cell HP1.out 1
  have a2 : wb.cell? ⟨w.heap.size, 2, none⟩ = some (.string d) := at_cell HP1.out 2
  have a3 : wb.cell? ⟨w.heap.size, 3, none⟩ = some (.slice A n k) := at_cell HP1.out 3
  have b0 : wb.cell? ⟨w.heap.size + 1, 0, none⟩ = some (.string c) := at_cell HP2.out 0
  have b1 : wb.cell? ⟨w.heap.size + 1, 1, none⟩ = some (.string s) := at_cell HP2.out 1
  have b2 : wb.cell? ⟨w.heap.size + 1, 2, none⟩ = some (.string d) := at_cell HP2.out 2
  have b3 : wb.cell? ⟨w.heap.size + 1, 3, none⟩ = some (.slice A' n k') := at_cell HP2.out 3
  go_wp2_with fail
  clear a0 a1 a2 b0 b1 b2
  go_loopw [37, 5] (fun i t wr => ∃ j : Nat, i = .int .i64 j ∧ j ≤ n ∧ Hid (Ext wb wr)) (fun i _ _ => n - (intOf i).toNat)
  case atStart => exact ⟨0, rfl, by omega, (inferInstance : Ext wb wb)⟩
  case round =>
    obtain ⟨j, rfl, hj, HW⟩ := hrel
    have Sr : Step wr wb := ⟨HW.out.out⟩
    by_cases hlt : j < n
    · obtain ⟨ad, hA, hc⟩ := (HU.out.x.ext (w' := wr)).num (i := j) (by have h : xs.length = n := HU.out.n; show j < xs.length; omega)
      obtain ⟨ad', hA', hc'⟩ := (HV.out.x.ext (w' := wr)).num (i := j) (by have h : xs.length = n := HU.out.n; show j < xs.length; omega)
      simp only at hA hA' hc hc'
      obtain ⟨X, hX⟩ : ∃ X, xs.getD j 0 = X := ⟨_, rfl⟩
      rw [hX] at hc hc'
      have p3 : wr.cell? ⟨w.heap.size, 3, none⟩ = some (.slice (some ad) n k) := by rw [← hA]; exact cell_ext a3
      have q3 : wr.cell? ⟨w.heap.size + 1, 3, none⟩ = some (.slice (some ad') n k') := by rw [← hA']; exact cell_ext b3
      clear hX hA hA'
      go_upto_region 6 with fail
      refine wp_region_held_drew (S := fun W => Ext wr W) (by kernel_rfl) (by exact inferInstance) (fun hHeld => ?_)
      refine wpAnyH_take (i := 0) (v := ?_) rfl (by kernel_rfl) (by kernel_rfl) (by kernel_rfl) (fun _ _ _ h => h) (Yields.yieldsIf (Or.inl ⟨by rfl, ?_⟩)) hHeld ?_
      rotate_left
      · intro W
        go_simp
        try with_reducible rfl
      simp only [List.getElem_toArray, List.getElem_cons_succ, List.getElem_cons_zero, Act.put, List.setIfInBounds_toArray, List.set_cons_zero, List.set_cons_succ]
      refine wpAnyH_take (i := 1) (v := ?_) rfl (by kernel_rfl) (by kernel_rfl) (by kernel_rfl) (fun _ _ _ h => h) (Or.inl ⟨by rfl, ?_⟩) hHeld ?_
      rotate_left
      · intro W hW
        have hcl := (cell_ext (h := hW) p3)
        go_simp
        try with_reducible rfl
      simp only [List.getElem_toArray, List.getElem_cons_succ, List.getElem_cons_zero, Act.put, List.setIfInBounds_toArray, List.set_cons_zero, List.set_cons_succ]
      refine wpAnyH_take (i := 2) (v := ?_) rfl (by kernel_rfl) (by kernel_rfl) (by kernel_rfl) (fun _ _ _ h => h) (Yields.yieldsIf (Or.inl ⟨by rfl, ?_⟩)) hHeld ?_
      rotate_left
      · intro W
        go_simp
        try with_reducible rfl
      simp only [List.getElem_toArray, List.getElem_cons_succ, List.getElem_cons_zero, Act.put, List.setIfInBounds_toArray, List.set_cons_zero, List.set_cons_succ]
      refine wpAnyH_take (i := 3) (v := ?_) rfl (by kernel_rfl) (by kernel_rfl) (by kernel_rfl) (fun _ _ _ h => h) (Yields.yieldsIf (Or.inl ⟨by rfl, ?_⟩)) hHeld ?_
      rotate_left
      · intro W
        go_simp
        try with_reducible rfl
      simp only [List.getElem_toArray, List.getElem_cons_succ, List.getElem_cons_zero, Act.put, List.setIfInBounds_toArray, List.set_cons_zero, List.set_cons_succ]
      refine wpAnyH_take (i := 4) (v := ?_) rfl (by kernel_rfl) (by kernel_rfl) (by kernel_rfl) (fun _ _ _ h => h) (Or.inl ⟨by rfl, ?_⟩) hHeld ?_
      rotate_left
      · intro W hW
        have hcl := (cell_ext (h := hW) hc)
        go_simp
        try with_reducible rfl
      simp only [List.getElem_toArray, List.getElem_cons_succ, List.getElem_cons_zero, Act.put, List.setIfInBounds_toArray, List.set_cons_zero, List.set_cons_succ]
      refine wpAnyH_take (i := 5) (v := ?_) rfl (by kernel_rfl) (by kernel_rfl) (by kernel_rfl) (fun _ _ _ h => h) (Yields.yieldsIf (Or.inl ⟨by rfl, ?_⟩)) hHeld ?_
      rotate_left
      · intro W
        go_simp
        try with_reducible rfl
      simp only [List.getElem_toArray, List.getElem_cons_succ, List.getElem_cons_zero, Act.put, List.setIfInBounds_toArray, List.set_cons_zero, List.set_cons_succ]
      refine wpAnyH_take (i := 6) (v := ?_) rfl (by kernel_rfl) (by kernel_rfl) (by kernel_rfl) (fun _ _ _ h => h) (Or.inl ⟨by rfl, ?_⟩) hHeld ?_
      rotate_left
      · intro W hW
        have hcl := (cell_ext (h := hW) q3)
        go_simp
        try with_reducible rfl
      simp only [List.getElem_toArray, List.getElem_cons_succ, List.getElem_cons_zero, Act.put, List.setIfInBounds_toArray, List.set_cons_zero, List.set_cons_succ]
      refine wpAnyH_take (i := 7) (v := ?_) rfl (by kernel_rfl) (by kernel_rfl) (by kernel_rfl) (fun _ _ _ h => h) (Yields.yieldsIf (Or.inl ⟨by rfl, ?_⟩)) hHeld ?_
      rotate_left
      · intro W
        go_simp
        try with_reducible rfl
      simp only [List.getElem_toArray, List.getElem_cons_succ, List.getElem_cons_zero, Act.put, List.setIfInBounds_toArray, List.set_cons_zero, List.set_cons_succ]
      refine wpAnyH_take (i := 8) (v := ?_) rfl (by kernel_rfl) (by kernel_rfl) (by kernel_rfl) (fun _ _ _ h => h) (Yields.yieldsIf (Or.inl ⟨by rfl, ?_⟩)) hHeld ?_
      rotate_left
      · intro W
        go_simp
        try with_reducible rfl
      simp only [List.getElem_toArray, List.getElem_cons_succ, List.getElem_cons_zero, Act.put, List.setIfInBounds_toArray, List.set_cons_zero, List.set_cons_succ]
      refine wpAnyH_take (i := 9) (v := ?_) rfl (by kernel_rfl) (by kernel_rfl) (by kernel_rfl) (fun _ _ _ h => h) (Or.inl ⟨by rfl, ?_⟩) hHeld ?_
      rotate_left
      · intro W hW
        have hcl := (cell_ext (h := hW) hc')
        go_simp
        try with_reducible rfl
      simp only [List.getElem_toArray, List.getElem_cons_succ, List.getElem_cons_zero, Act.put, List.setIfInBounds_toArray, List.set_cons_zero, List.set_cons_succ]
      refine wpAnyH_take (i := 10) (v := ?_) rfl (by kernel_rfl) (by kernel_rfl) (by kernel_rfl) (fun _ _ _ h => h) (Yields.yieldsIf (Or.inl ⟨by rfl, ?_⟩)) hHeld ?_
      rotate_left
      · intro W
        go_simp
        try with_reducible rfl
      simp only [List.getElem_toArray, List.getElem_cons_succ, List.getElem_cons_zero, Act.put, List.setIfInBounds_toArray, List.set_cons_zero, List.set_cons_succ]
      refine wpAnyH_done (by kernel_rfl) ?_ _
      clear hHeld
      go_wp2_with fail
      go_roundw
      case rel => exact ⟨j + 1, by go_num, by omega, (inferInstance : Ext wb wr.drew)⟩
      case measure => simp [intOf]; omega
    · obtain rfl : j = n := by omega
      go_wp2_with fail
      go_ret
      exact ⟨rfl, Ext.out⟩
set_option maxRecDepth 100000 in
set_option maxHeartbeats 4000000 in
theorem same06_same (A B : Option Addr) (n c c' : Nat) (us vs : List SV) (hn : us.length = n) (hn' : n ≤ 17592186044416) (hd : us.map SV.dat = vs.map SV.dat) (w : World) (hu : SecsAt w A us) (hv : SecsAt w B vs) :
    Calls Try.prog 47 #[.slice A n c, .slice B n c'] w fun e w' => e = .returned (.bool true) ∧ Below w.heap.size w w' := by
  have HU := Lib.hid hu
  have HV := Lib.hid hv
  have HD := Lib.hid hd
  have Hn := Lib.hid hn
  have Hm : Hid (vs.length = n) := by have h := congrArg List.length hd; unfold Hid; simpa [hn] using h.symm
  clear hu hv hd hn
  go_enter Try.func47, Try.ntmps47
  go_wp2_with fail
  go_loopw [13, 5] (fun i t wr => ∃ j : Nat, i = .int .i64 j ∧ j ≤ n ∧ Hid (Ext w wr)) (fun i _ _ => n - (intOf i).toNat)
  case atStart => exact ⟨0, rfl, by omega, (inferInstance : Ext w w)⟩
  case round =>
    obtain ⟨j, rfl, hj, HW⟩ := hrel
    have Sr : Step wr w := ⟨HW.out.out⟩
    by_cases hlt : j < n
    · obtain ⟨u, hu⟩ : ∃ u, us[j]? = some u := ⟨_, List.getElem?_eq_getElem (by rw [Hn.out]; exact hlt)⟩
      obtain ⟨v, hv⟩ : ∃ v, vs[j]? = some v := ⟨_, List.getElem?_eq_getElem (by rw [Hm.out]; exact hlt)⟩
      have hdd : u.dat = v.dat := by
        have h := congrArg (fun l => l[j]?) HD.out
        simp only [List.getElem?_map, hu, hv, Option.map_some, Option.some.injEq] at h
        exact h
      obtain ⟨ad, rfl, hc0, hc1, hc2, hc3⟩ := sec_at (HU.out.ext (w' := wr)).x hu
      obtain ⟨ad', rfl, hd0, hd1, hd2, hd3⟩ := sec_at (HV.out.ext (w' := wr)).x hv
      have HK := Lib.hid ((HU.out.ext (w' := wr)).ok u (List.mem_of_getElem? hu))
      have HL := Lib.hid ((HV.out.ext (w' := wr)).ok v (List.mem_of_getElem? hv))
      have HDD := Lib.hid hdd
      clear hu hv hdd
      obtain ⟨uc, uss, ud, uA, un, uk, ux⟩ := u
      obtain ⟨vc, vss, vd, vA, vn, vk, vx⟩ := v
      simp only at hc0 hc1 hc2 hc3 hd0 hd1 hd2 hd3
      go_upto_region 6 with fail
      refine wp_region_held_drew (S := fun W => Ext wr W) (by kernel_rfl) (by exact inferInstance) (fun hHeld => ?_)
      refine wpAnyH_take (i := 0) (v := ?_) rfl (by kernel_rfl) (by kernel_rfl) (by kernel_rfl) (fun _ _ _ h => h) (Yields.yieldsIf (Or.inl ⟨by rfl, ?_⟩)) hHeld ?_
      rotate_left
      · intro W
        go_simp
        try with_reducible rfl
      simp only [List.getElem_toArray, List.getElem_cons_succ, List.getElem_cons_zero, Act.put, List.setIfInBounds_toArray, List.set_cons_zero, List.set_cons_succ]
      refine wpAnyH_take (i := 1) (v := ?_) rfl (by kernel_rfl) (by kernel_rfl) (by kernel_rfl) (fun _ _ _ h => h) (Yields.yieldsIf (Or.inl ⟨by rfl, ?_⟩)) hHeld ?_
      rotate_left
      · intro W
        go_simp
        try with_reducible rfl
      simp only [List.getElem_toArray, List.getElem_cons_succ, List.getElem_cons_zero, Act.put, List.setIfInBounds_toArray, List.set_cons_zero, List.set_cons_succ]
      refine wpAnyH_take (i := 2) (v := ?_) rfl (by kernel_rfl) (by kernel_rfl) (by kernel_rfl) (fun _ _ _ h => h) (Yields.yieldsIf (Or.inl ⟨by rfl, ?_⟩)) hHeld ?_
      rotate_left
      · intro W
        go_simp
        try with_reducible rfl
      simp only [List.getElem_toArray, List.getElem_cons_succ, List.getElem_cons_zero, Act.put, List.setIfInBounds_toArray, List.set_cons_zero, List.set_cons_succ]
      refine wpAnyH_take (i := 3) (v := ?_) rfl (by kernel_rfl) (by kernel_rfl) (by kernel_rfl) (fun _ _ _ h => h) (Or.inl ⟨by rfl, ?_⟩) hHeld ?_
      rotate_left
      · intro W hW
        have hcl0 := cell_ext (h := hW) hc0
        have hcl1 := cell_ext (h := hW) hc1
        have hcl2 := cell_ext (h := hW) hc2
        have hcl3 := cell_ext (h := hW) hc3
        go_simp
        try with_reducible rfl
      simp only [List.getElem_toArray, List.getElem_cons_succ, List.getElem_cons_zero, Act.put, List.setIfInBounds_toArray, List.set_cons_zero, List.set_cons_succ]
      refine wpAnyH_take (i := 4) (v := ?_) rfl (by kernel_rfl) (by kernel_rfl) (by kernel_rfl) (fun _ _ _ h => h) (Yields.yieldsIf (Or.inl ⟨by rfl, ?_⟩)) hHeld ?_
      rotate_left
      · intro W
        go_simp
        try with_reducible rfl
      simp only [List.getElem_toArray, List.getElem_cons_succ, List.getElem_cons_zero, Act.put, List.setIfInBounds_toArray, List.set_cons_zero, List.set_cons_succ]
      refine wpAnyH_take (i := 5) (v := ?_) rfl (by kernel_rfl) (by kernel_rfl) (by kernel_rfl) (fun _ _ _ h => h) (Yields.yieldsIf (Or.inl ⟨by rfl, ?_⟩)) hHeld ?_
      rotate_left
      · intro W
        go_simp
        try with_reducible rfl
      simp only [List.getElem_toArray, List.getElem_cons_succ, List.getElem_cons_zero, Act.put, List.setIfInBounds_toArray, List.set_cons_zero, List.set_cons_succ]
      refine wpAnyH_take (i := 6) (v := ?_) rfl (by kernel_rfl) (by kernel_rfl) (by kernel_rfl) (fun _ _ _ h => h) (Yields.yieldsIf (Or.inl ⟨by rfl, ?_⟩)) hHeld ?_
      rotate_left
      · intro W
        go_simp
        try with_reducible rfl
      simp only [List.getElem_toArray, List.getElem_cons_succ, List.getElem_cons_zero, Act.put, List.setIfInBounds_toArray, List.set_cons_zero, List.set_cons_succ]
      refine wpAnyH_take (i := 7) (v := ?_) rfl (by kernel_rfl) (by kernel_rfl) (by kernel_rfl) (fun _ _ _ h => h) (Or.inl ⟨by rfl, ?_⟩) hHeld ?_
      rotate_left
      · intro W hW
        have hcl0 := cell_ext (h := hW) hd0
        have hcl1 := cell_ext (h := hW) hd1
        have hcl2 := cell_ext (h := hW) hd2
        have hcl3 := cell_ext (h := hW) hd3
        go_simp
        try with_reducible rfl
      simp only [List.getElem_toArray, List.getElem_cons_succ, List.getElem_cons_zero, Act.put, List.setIfInBounds_toArray, List.set_cons_zero, List.set_cons_succ]
      refine wpAnyH_ready (rs := [8]) (by kernel_rfl) (by simp) ?_
      refine AllReadyH.cons rfl (fun K hK => ?_) AllReadyH.nil
      refine step_call_w (by rfl) Try.func101 (by kernel_rfl) (by kernel_rfl) #[.tmp 19, .tmp 23] #[79, 79] rfl #[.agg #[.string uc, .string uss, .string ud, .slice uA un uk], .agg #[.string vc, .string vss, .string vd, .slice vA vn vk]] ?hv (one_same ⟨uc, uss, ud, uA, un, uk, ux⟩ ⟨vc, vss, vd, vA, vn, vk, vx⟩ HDD.out _ (by exact HK.out.ext) (by exact HL.out.ext)) ?_
      case hv => go_simp
      rintro e w4 ⟨rfl, hbb⟩
      refine ⟨_, rfl, ?_⟩
      skip
      have S4 : Step w4 _ := ⟨hbb⟩
      clear hbb hHeld
      refine hK.out _ _ (by exact inferInstance) (fun hHeld => ?_)
      clear hK K
      simp only [List.getElem_toArray, List.getElem_cons_succ, List.getElem_cons_zero, Act.put, List.setIfInBounds_toArray, List.set_cons_zero, List.set_cons_succ]
      refine wpAnyH_take (i := 9) (v := ?_) rfl (by kernel_rfl) (by kernel_rfl) (by kernel_rfl) (fun _ _ _ h => h) (Yields.yieldsIf (Or.inl ⟨by rfl, ?_⟩)) hHeld ?_
      rotate_left
      · intro W
        go_simp
        try with_reducible rfl
      simp only [List.getElem_toArray, List.getElem_cons_succ, List.getElem_cons_zero, Act.put, List.setIfInBounds_toArray, List.set_cons_zero, List.set_cons_succ]
      refine wpAnyH_done (by kernel_rfl) ?_ _
      clear hHeld
      go_wp2_with fail
      go_roundw
      case rel => exact ⟨j + 1, by go_num, by omega, (inferInstance : Ext w w4)⟩
      case measure => simp [intOf]; omega
    · obtain rfl : j = n := by omega
      go_wp2_with fail
      go_ret
      exact ⟨rfl, Ext.out⟩
end Go.Proofs.Ytodibldfolognaa
