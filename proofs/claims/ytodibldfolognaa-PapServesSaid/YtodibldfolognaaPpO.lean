/-
  law12.awake: chapter 12's example. No condition.
-/
import Derived.Test.YtodibldfolognaaPpN
namespace Go.Proofs.Ytodibldfolognaa
open Go.RowKit
set_option linter.unusedVariables false
set_option linter.unusedSimpArgs false

abbrev bAlice : ByteArray := ⟨#[97, 108, 105, 99, 101]⟩
abbrev bMill : ByteArray := ⟨#[109, 105, 108, 108]⟩
abbrev bX : ByteArray := ⟨#[120]⟩
abbrev rqX : List Int := [5, 97, 108, 105, 99, 101, 1, 120]
abbrev anX : List Int := [7, 119, 101, 108, 99, 111, 109, 101]
theorem req_alice : reqF 7 (strB bAlice) (strB bX) = ((1, 7), rqX, 0) := by decide +kernel
theorem rr_alice : rrF 1 7 rqX = (([97, 108, 105, 99, 101], [120]), 0) := by decide +kernel
theorem an_alice : ansF 7 true (strB bWelcome) = ((2, 7), anX, 0) := by decide +kernel
theorem str_alice : strOfNums [97, 108, 105, 99, 101] = bAlice := by rfl
theorem str_x : strOfNums [120] = bX := by rfl
theorem wrong_alice : wrongF [⟨bAlice, bMill, bX, none, 0, 0, []⟩] = (0, 0) := by decide +kernel
theorem check_alice (A : Option Addr) (n k : Nat) : checkF (strB bAlice) (strB bMill) (strB bX) [⟨bAlice, bMill, bX, A, n, k, []⟩] = 0 := by kernel_rfl
theorem acc_alice (A : Option Addr) (n k : Nat) : accF bMill [⟨bAlice, bMill, bX, A, n, k, []⟩] bAlice bX = true := by
  unfold accF
  rw [check_alice, show nameF (strB bAlice) = true by decide +kernel]
  rfl
theorem own_but {w w' : World} {base n size B : Nat} {e : TypeId} {v : Value} {cs : List Value} (h : w.ownsRow base e size v n cs) (k : But w w' B) (hB : v.ownBlock ≠ some B) : w'.ownsRow base e size v n cs :=
  own_heap2 h fun j hj => k.block j (own_lt h j hj) (fun e => hB (e ▸ hj))
theorem conv8 {w : World} {A : Option Addr} {n c : Nat} {xs : List Int} {s : ByteArray} (hn : xs.length = n) (hx : Cells w A (nums .u8 xs)) (hs : strOfNums xs = s) : (convert 41 9 (.slice A n c)).run Try.prog w = .ok (.string s) w := by
  rw [← hs]
  exact conv_cells (P := Try.prog) (c := c) 41 5 9 Try.underlying41 Try.underlying5 Try.underlying9 hn hx
set_option maxRecDepth 100000 in
set_option maxHeartbeats 8000000 in
theorem awake12_any (w : World) : Calls Try.prog 48 #[] w fun e w' => e = .returned (.bool true) ∧ Below w.heap.size w w' := by
  go_enter Try.func48, Try.ntmps48
  go_wp2_with fail
  refine (request_any 7 bAlice bX (by decide) (by decide) _).mono ?_
  rintro e w1 ⟨A1, c1, rfl, ho1, hb1⟩
  rw [req_alice] at ho1 ⊢
  simp only at ho1 ⊢
  have S1 : Step w1 w := ⟨hb1⟩
  have HO1 := Lib.hid ho1
  have HX1 : Hid (Ext w w1) := ⟨hb1⟩
  clear hb1 ho1
  have p1 : ∀ o, (w1.alloc o).heap[w1.heap.size]? = some o := at_new w1
  go_wp2_with
    (refine wpList_store_row_o rfl 43 (.tmp 1) (.tmp 11) rfl w1.heap.size #[.int .i64 1, .int .i64 7, .slice A1 8 c1] rfl rfl 43 #[.int .i64 0, .int .i64 0, .slice none 0 0] (p1 _) (by kernel_rfl) rfl (by simp [Value.oneCell']) ?_
     intro w2 hr2 ho2 hz2 hb2
     have HR2 := Lib.hid hr2
     have H12 : Hid (Ext w1 w2) := ⟨hb2 _ _ (inferInstance : Ext w1 (w1.alloc _)).out (Nat.le_refl _)⟩
     have S2 : Step w2 w1 := ⟨H12.out.out⟩
     clear hr2 ho2 hz2 hb2 p1)
  refine (newServer_any bMill (by decide) (some ⟨w2.heap.size, 0, none⟩) 1 1 [⟨bAlice, bMill, bX, none, 0, 0, []⟩] rfl (by decide) _ ⟨cells_box w2 _ rfl (secs [⟨bAlice, bMill, bX, none, 0, 0, []⟩]) _, fun u hu => by
    simp only [List.mem_singleton] at hu
    subst hu
    exact ⟨by decide, by decide, by decide, rfl, Nat.zero_le _, Nat.le_refl _, Cells.nil_ _ _⟩⟩).mono ?_
  rintro e w3 ⟨hb3, he⟩
  have S3 : Step w3 _ := ⟨hb3⟩
  have H23 : Hid (Ext w2 w3) := (inferInstance : Ext w2 w3)
  clear hb3
  rw [if_neg (by rw [show nameF (strB bMill) = true by decide +kernel]; simp), if_neg (by rw [wrong_alice]; simp)] at he
  obtain ⟨B, T, vs, rfl, hB, hv, hd⟩ := he
  have hB2 : w2.heap.size < B := by simp at hB; omega
  obtain ⟨A5, n5, k5, rfl⟩ : ∃ A5 n5 k5, vs = [⟨bAlice, bMill, bX, A5, n5, k5, []⟩] := by
    match vs, hd with
    | [⟨a, b, c, A5, n5, k5, x⟩], hd =>
      simp only [List.map_cons, List.map_nil, List.cons.injEq, and_true, SV.dat, Prod.mk.injEq] at hd
      obtain ⟨⟨rfl, rfl⟩, rfl, rfl⟩ := hd
      exact ⟨A5, n5, k5, rfl⟩
  have HV := Lib.hid hv
  have HBl := Lib.hid hB2
  have H13 : Hid (Ext w1 w3) := Ext.trans_ H12.out H23.out
  have Sa : Step w3 w1 := ⟨H13.out.out⟩
  have HW3 : Hid (Ext w w3) := Ext.trans_ HX1.out H13.out
  have HP3 : Hid (w3.heap[w1.heap.size]? = some (.cells #[.int .i64 1, .int .i64 7, .slice A1 8 c1] 43 (0, 0))) := at_ext (h := H23.out) HR2.out
  clear hB hv hd hB2
  have k0 : w3.cell? ⟨w1.heap.size, 0, none⟩ = some (.int .i64 1) := at_cell HP3.out 0
  have k1 : w3.cell? ⟨w1.heap.size, 1, none⟩ = some (.int .i64 7) := at_cell HP3.out 1
  have k2 : w3.cell? ⟨w1.heap.size, 2, none⟩ = some (.slice A1 8 c1) := at_cell HP3.out 2
  go_wp2_with fail
  have HO3 := Lib.hid (own_ext (w' := w3) HO1.out)
  have hcc : rqX.length ≤ c1 := by
    obtain ⟨Ax, cx, hcx, hlx⟩ := own_slice HO1.out
    injection hcx with _ _ hcx
    rw [hcx]
    exact hlx
  refine (take_any B T bMill [⟨bAlice, bMill, bX, A5, n5, k5, []⟩] 0 ⟨#[]⟩ 1 7 A1 8 c1 rqX rfl (by decide) hcc (by unfold Byt; decide) (by simp) _ (own_cells HO3.out) HV.out).mono ?_
  rintro e w4 ⟨hb4, he⟩
  rw [rr_alice, if_neg (by simp)] at he
  obtain ⟨s', a', A4, c4, hs, ha, hv4, rfl, ho4⟩ := he
  simp only [str_alice, str_x] at hs
  rw [stepS, if_pos rfl, acc_alice, if_pos rfl] at hs
  subst hs
  rw [show ((1 : Int) == 1) = true from rfl, show sayB 1 = bWelcome from rfl, an_alice] at ha
  subst ha
  simp only at ho4 hv4 ⊢
  have hs1 := HX1.out.out.size
  have hs2 := H12.out.out.size
  have hB := HBl.out
  have HX4 : Hid (Ext w w4) := hb4.ext HW3.out (by omega)
  have HP4 : Hid (w4.heap[w1.heap.size]? = some (.cells #[.int .i64 1, .int .i64 7, .slice A1 8 c1] 43 (0, 0))) := hb4.at (by omega) HP3.out
  have HO14 := Lib.hid (own_but HO3.out hb4 (fun h => by have := own_lt HO1.out _ h; omega))
  have HO4 := Lib.hid ho4
  have HV4 := Lib.hid hv4
  clear hs1 hs2 hB hb4 ho4 hv4 k0 k1 k2
  have p1 : ∀ o, (w4.alloc o).heap[w4.heap.size]? = some o := at_new w4
  go_upto_region 6 with
    (refine wpList_store_row_o rfl 43 (.tmp 6) (.tmp 34) rfl w4.heap.size #[.int .i64 2, .int .i64 7, .slice A4 8 c4] rfl rfl 43 #[.int .i64 0, .int .i64 0, .slice none 0 0] (p1 _) (by kernel_rfl) rfl (by simp [Value.oneCell']) ?_
     intro w5 hr5 ho5 hz5 hb5
     have HR5 := Lib.hid hr5
     have H45 : Hid (Ext w4 w5) := ⟨hb5 _ _ (inferInstance : Ext w4 (w4.alloc _)).out (Nat.le_refl _)⟩
     have S5 : Step w5 w4 := ⟨H45.out.out⟩
     clear hr5 ho5 hz5 hb5 p1)
  have HP5 : Hid (w5.heap[w1.heap.size]? = some (.cells #[.int .i64 1, .int .i64 7, .slice A1 8 c1] 43 (0, 0))) := at_ext HP4.out
  have HX5 : Hid (Ext w w5) := Ext.trans_ HX4.out H45.out
  have HV5 := Lib.hid (HV4.out.ext (w' := w5))
  have k2 : w5.cell? ⟨w1.heap.size, 2, none⟩ = some (.slice A1 8 c1) := at_cell HP5.out 2
  have j0 : w5.cell? ⟨w4.heap.size, 0, none⟩ = some (.int .i64 2) := at_cell HR5.out 0
  have j1 : w5.cell? ⟨w4.heap.size, 1, none⟩ = some (.int .i64 7) := at_cell HR5.out 1
  have j2 : w5.cell? ⟨w4.heap.size, 2, none⟩ = some (.slice A4 8 c4) := at_cell HR5.out 2
  have hcv1 := conv8 (n := 8) (c := c1) (s := ⟨#[5, 97, 108, 105, 99, 101, 1, 120]⟩) rfl (Cells.ext (w' := w5) (own_cells HO14.out)) (by rfl)
  have hcv2 := conv8 (n := 8) (c := c4) (s := ⟨#[7, 119, 101, 108, 99, 111, 109, 101]⟩) rfl (Cells.ext (w' := w5) (own_cells HO4.out)) (by rfl)
  go_wp2_with fail
  refine (who_any B T bMill bAlice 1 _ _ HV5.out).mono ?_
  rintro e w6 ⟨rfl, rfl⟩
  go_wp2_with fail
  go_ret
  exact ⟨rfl, HX5.out.out⟩
end Go.Proofs.Ytodibldfolognaa
