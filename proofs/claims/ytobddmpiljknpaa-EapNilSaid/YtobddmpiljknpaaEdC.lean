/-
  law14.awake: chapter 14's example. No condition.
-/
import Derived.Test.YtobddmpiljknpaaEdB
namespace Go.Proofs.Ytobddmpiljknpaa
open Go.RowKit
set_option linter.unusedVariables false
set_option linter.unusedSimpArgs false

theorem asecs {w : World} {A : Option Addr} (h : Cells w A (secs [⟨aAlice, aMill, aX, none, 0, 0, []⟩])) : SecsAt w A [⟨aAlice, aMill, aX, none, 0, 0, []⟩] := ⟨h, fun u hu => by
  simp only [List.mem_singleton] at hu
  subst hu
  exact ⟨by decide, by decide, by decide, rfl, Nat.zero_le _, Nat.le_refl _, Cells.nil_ _ _⟩⟩
theorem aform {vs : List SV} (hd : vs.map SV.dat = [(⟨aAlice, aMill, aX, none, 0, 0, []⟩ : SV)].map SV.dat) : ∃ A n k, vs = [⟨aAlice, aMill, aX, A, n, k, []⟩] := by
  match vs, hd with
  | [⟨a, b, c, A5, n5, k5, x⟩], hd =>
    simp only [List.map_cons, List.map_nil, List.cons.injEq, and_true, SV.dat, Prod.mk.injEq] at hd
    obtain ⟨⟨rfl, rfl⟩, rfl, rfl⟩ := hd
    exact ⟨A5, n5, k5, rfl⟩
theorem ch_cells (w : World) (o : Obj) (ho : o = .cells #[.int .u8 99, .int .u8 104] 5 (2, 3)) : Cells (w.alloc o) (some ⟨w.heap.size, 0, none⟩) (nums .u8 [99, 104]) :=
  fun _ => ⟨_, rfl, fun j u hu => by rw [add_plain, ho, World.cell?_alloc_mark]; simpa [nums] using hu⟩
theorem aP2_byt : Byt aP2 := by
  unfold aP2
  intro y hy
  simp only [List.mem_append] at hy
  rcases hy with (h | h) | h
  · simp at h; omega
  · exact respD_byt y h
  · exact strB_byt aAlice y h
/-- A row of bytes stands where a server's or a peer's block alone is written. -/
theorem own_but2 {w w' : World} {base n B : Nat} {v : Value} {cs : List Value} {c0 : Array Value} {t : TypeId} (h : w.ownsRow base 5 1 v n cs) (hB : w.heap[B]? = some (.cells c0 t (0, 0))) (ht : t ≠ 5) (hb : But w w' B) : w'.ownsRow base 5 1 v n cs :=
  own_heap2 h fun j hj => hb.block j (own_lt h j hj) (fun e => own_type_ne h hB ht (e ▸ hj))
theorem own_le {w : World} {base n k : Nat} {A : Option Addr} {cs : List Value} (h : w.ownsRow base 5 1 (.slice A n k) n cs) : n ≤ k := by
  obtain ⟨Ax, cx, hcx, hlx⟩ := own_slice h
  injection hcx with _ _ hcx
  rw [hcx]
  exact hlx
set_option maxRecDepth 100000 in
set_option maxHeartbeats 8000000 in
theorem awake14_any (w : World) : Calls Try.prog 38 #[] w fun e w' => e = .returned (.bool true) ∧ Below w.heap.size w w' := by
  go_enter Try.func38, Try.ntmps38
  go_wp2_with fail
  refine (newServer4_any aMill (by decide) 3 (some ⟨w.heap.size, 0, none⟩) 1 1 [⟨aAlice, aMill, aX, none, 0, 0, []⟩] rfl (by decide) _ (asecs (cells_box w _ rfl (secs [⟨aAlice, aMill, aX, none, 0, 0, []⟩]) _))).mono ?_
  rintro e w1 ⟨hb1, he⟩
  rw [if_neg (by rw [show nameF (strB aMill) = true by decide +kernel]; simp), if_neg (by decide), if_neg (by rw [awrong]; simp)] at he
  obtain ⟨B, T, vs, rfl, hB, hE, hd⟩ := he
  obtain ⟨A5, n5, k5, rfl⟩ := aform hd
  have X1 : Hid (Ext (w.alloc (.cells (secs [⟨aAlice, aMill, aX, none, 0, 0, []⟩]).toArray 44)) w1) := ⟨hb1⟩
  have HBw : Hid (w.heap.size < B) := by unfold Hid; simp at hB; omega
  have HSC : Hid (Cells w1 (some ⟨w.heap.size, 0, none⟩) (secs [⟨aAlice, aMill, aX, none, 0, 0, []⟩])) := (cells_box w _ rfl (secs [⟨aAlice, aMill, aX, none, 0, 0, []⟩]) 44).ext (h := X1.out)
  have XW1 : Hid (Ext w w1) := Ext.trans_ (inferInstance : Ext w (w.alloc _)) X1.out
  have HE1 := Lib.hid hE
  clear hB hE hd hb1
  go_wp2_with fail
  refine (newPeer4_any aAlice (by decide) (some ⟨w.heap.size, 0, none⟩) 1 1 [⟨aAlice, aMill, aX, none, 0, 0, []⟩] rfl (by decide) _ (asecs HSC.out)).mono ?_
  rintro e w2 ⟨hb2, he⟩
  rw [if_neg (by rw [show nameF (strB aAlice) = true by decide +kernel]; simp), if_neg (by rw [awrong]; simp)] at he
  obtain ⟨P, S, vs, rfl, hP, hE, hd⟩ := he
  obtain ⟨A6, n6, k6, rfl⟩ := aform hd
  have X2 : Hid (Ext w1 w2) := ⟨hb2⟩
  have HPw : Hid (w.heap.size < P) := Nat.lt_of_lt_of_le (Nat.lt_of_lt_of_le HBw.out (Nat.le_of_lt (at_lt HE1.out.b))) hP
  have HQ2 := Lib.hid hE
  have HE2 := Lib.hid (HE1.out.ext (h := X2.out))
  have XW2 : Hid (Ext w w2) := Ext.trans_ XW1.out X2.out
  clear hP hE hd hb2
  go_wp2_with fail
  refine (start4_any B T aMill 3 s0S [⟨aAlice, aMill, aX, A5, n5, k5, []⟩] none 0 _ HE2.out).mono ?_
  rw [show startS s0S = ⟨1, 1, 1, noB, noB, 1, 1, [1], List.replicate 16 0⟩ from aS1_eq]
  rintro e w3 ⟨A3, k3, LA3, lk3, rfl, ho3, hE3, hb3, _⟩
  have HQ3 := Lib.hid (HQ2.out.but HE2.out.b hE3.b hb3)
  have HE3 := Lib.hid hE3
  have HO3 := Lib.hid ho3
  have XW3 : Hid (Ext w w3) := hb3.ext XW2.out (Nat.le_of_lt HBw.out)
  have HLB : Hid (B < w3.heap.size) := at_lt hE3.b
  have HLP : Hid (P < w3.heap.size) := at_lt HQ3.out.b
  have pp : ∀ o, (w3.alloc o).heap[w3.heap.size]? = some o := at_new w3
  clear ho3 hE3 hb3
  simp only [List.length_cons, List.length_nil, Nat.zero_add] at HO3 ⊢
  go_upto_region 7 with
    (refine wpList_store_row_o rfl 24 (.tmp 8) (.tmp 50) rfl w3.heap.size #[.int .i64 1, .int .i64 1, .slice A3 1 k3] rfl rfl 24 #[.int .i64 0, .int .i64 0, .slice none 0 0] (pp _) (by kernel_rfl) rfl (by simp [Value.oneCell']) ?_
     intro w4 hr2 ho2 hz2 hb2
     have HRw4 := Lib.hid hr2
     have Xw4 : Hid (Ext w3 w4) := ⟨hb2 _ _ (inferInstance : Ext w3 (w3.alloc _)).out (Nat.le_refl _)⟩
     clear hr2 ho2 hz2 hb2 pp)
  have HE4 := Lib.hid (HE3.out.ext (h := Xw4.out))
  have HQ4 := Lib.hid (HQ3.out.ext (h := Xw4.out))
  have HO4 := Lib.hid (own_ext (h := Xw4.out) HO3.out)
  have a0 : w4.cell? ⟨w3.heap.size, 0, none⟩ = some (.int .i64 1) := at_cell HRw4.out 0
  have a1 : w4.cell? ⟨w3.heap.size, 1, none⟩ = some (.int .i64 1) := at_cell HRw4.out 1
  have a2 : w4.cell? ⟨w3.heap.size, 2, none⟩ = some (.slice A3 1 k3) := at_cell HRw4.out 2
  have hk3 : 1 ≤ k3 := by
    obtain ⟨Ax, cx, hcx, hlx⟩ := own_slice HO3.out
    injection hcx with _ _ hcx
    rw [hcx]
    exact hlx
  go_wp2_with fail
  refine (ptake4_any P S aAlice 0 noB [⟨aAlice, aMill, aX, A6, n6, k6, []⟩] 1 1 A3 1 k3 [1] rfl (by decide) hk3 (by unfold Byt; decide) _ (own_cells HO4.out) HQ4.out).mono ?_
  rw [pr1]
  rintro e w5 ⟨A7, k7, rfl, ho5, hQ5, hb5⟩
  simp only [List.length_cons, List.length_nil, Nat.zero_add, Nat.reduceAdd] at ho5 ⊢
  have HE5 := Lib.hid (HE4.out.but HQ4.out.b hQ5.b hb5)
  have HQ5 := Lib.hid hQ5
  have HO5 := Lib.hid ho5
  have HN3 : Hid ((Value.slice A3 1 k3).ownBlock ≠ some P) := own_type_ne HO4.out HQ4.out.b (by decide)
  have HO35 := Lib.hid (own_heap2 HO4.out fun j hj => hb5.block j (own_lt HO4.out j hj) (fun e => HN3.out (e ▸ hj)))
  have HR5 : Hid (w5.heap[w3.heap.size]? = some (.cells #[.int .i64 1, .int .i64 1, .slice A3 1 k3] 24 (0, 0))) := hb5.at (by have := HLP.out; omega) HRw4.out
  have XW5 : Hid (Ext w w5) := hb5.ext (Ext.trans_ XW3.out Xw4.out) (Nat.le_of_lt HPw.out)
  have HZ35 : Hid (w3.heap.size < w5.heap.size) := at_lt HR5.out
  have pp : ∀ o, (w5.alloc o).heap[w5.heap.size]? = some o := at_new w5
  clear ho5 hQ5 hb5 a0 a1 a2
  go_upto_region 8 with
    (refine wpList_store_row_o rfl 24 (.tmp 10) (.tmp 56) rfl w5.heap.size #[.int .i64 2, .int .i64 1, .slice A7 6 k7] rfl rfl 24 #[.int .i64 0, .int .i64 0, .slice none 0 0] (pp _) (by kernel_rfl) rfl (by simp [Value.oneCell']) ?_
     intro w6 hr2 ho2 hz2 hb2
     have HRw6 := Lib.hid hr2
     have Xw6 : Hid (Ext w5 w6) := ⟨hb2 _ _ (inferInstance : Ext w5 (w5.alloc _)).out (Nat.le_refl _)⟩
     clear hr2 ho2 hz2 hb2 pp)
  have HE6 := Lib.hid (HE5.out.ext (h := Xw6.out))
  have HQ6 := Lib.hid (HQ5.out.ext (h := Xw6.out))
  have HO6 := Lib.hid (own_ext (h := Xw6.out) HO5.out)
  have a0 : w6.cell? ⟨w5.heap.size, 0, none⟩ = some (.int .i64 2) := at_cell HRw6.out 0
  have a1 : w6.cell? ⟨w5.heap.size, 1, none⟩ = some (.int .i64 1) := at_cell HRw6.out 1
  have a2 : w6.cell? ⟨w5.heap.size, 2, none⟩ = some (.slice A7 6 k7) := at_cell HRw6.out 2
  have hk7 : 6 ≤ k7 := by
    obtain ⟨Ax, cx, hcx, hlx⟩ := own_slice HO5.out
    injection hcx with _ _ hcx
    rw [hcx]
    exact hlx
  have kc := Lib.run_convert_bytes_const (P := Try.prog) w6 22 5 #[.int .u8 99, .int .u8 104] 2 2 Try.underlying22 Try.underlying5
  have HLB6 : Hid (B < w6.heap.size) := at_lt HE6.out.b
  go_wp2_with fail
  refine (take4_any B T aMill 3 aS1 [⟨aAlice, aMill, aX, A5, n5, k5, []⟩] LA3 lk3 2 1 A7 6 k7 [1, 97, 108, 105, 99, 101] (some ⟨w6.heap.size, 0, none⟩) 2 2 [99, 104] rfl (by decide) hk7 (by unfold Byt; decide) rfl (by decide) (by unfold Byt; decide) _ ((own_cells HO6.out).alloc _) (ch_cells w6 _ rfl) (fun ad ha => by injection ha with ha; rw [← ha]; refine ⟨?_, ?_⟩; (have := HLB6.out; show w6.heap.size ≠ B; omega); (show w6.heap.size < _; simp)) (by rw [aS1_eq]; exact HE6.out.ext)).mono ?_
  rw [sr1]
  rintro e w7 ⟨A8, k8, LA7, lk7, rfl, ho7, hE7, hb7⟩
  simp only [List.length_cons, List.length_nil, Nat.zero_add, Nat.reduceAdd] at ho7 ⊢
  obtain ⟨y6, hy6⟩ : ∃ y6, w6.alloc (.cells #[.int .u8 99, .int .u8 104] 5 (2, 3)) = y6 := ⟨_, rfl⟩
  have Y6 : Hid (Ext w6 y6) := by unfold Hid; rw [← hy6]; exact inferInstance
  have hb7 : But y6 w7 B := by rw [← hy6]; exact hb7
  have HEy := Lib.hid (HE6.out.ext (h := Y6.out))
  have HQ7 := Lib.hid ((HQ6.out.ext (h := Y6.out)).but HEy.out.b hE7.b hb7)
  have HE7 := Lib.hid hE7
  have HO7 := Lib.hid (own_weaken ho7 (Nat.zero_le _))
  have HO37 := Lib.hid (own_but2 (own_ext (h := Ext.trans_ Xw6.out Y6.out) HO35.out) HEy.out.b (by decide) hb7)
  have HZ6 : Hid (w3.heap.size < w6.heap.size) := Nat.lt_of_lt_of_le HZ35.out Xw6.out.out.size
  have HR7 : Hid (w7.heap[w3.heap.size]? = some (.cells #[.int .i64 1, .int .i64 1, .slice A3 1 k3] 24 (0, 0))) := hb7.at (by have := HLB.out; omega) (at_ext (h := Ext.trans_ Xw6.out Y6.out) HR5.out)
  have XW7 : Hid (Ext w w7) := hb7.ext (Ext.trans_ XW5.out (Ext.trans_ Xw6.out Y6.out)) (Nat.le_of_lt HBw.out)
  have HZ7 : Hid (w3.heap.size < w7.heap.size) := at_lt HR7.out
  have pp : ∀ o, (w7.alloc o).heap[w7.heap.size]? = some o := at_new w7
  clear ho7 hE7 hb7 hy6 a0 a1 a2 kc
  go_upto_region 9 with
    (refine wpList_store_row_o rfl 24 (.tmp 13) (.tmp 65) rfl w7.heap.size #[.int .i64 1, .int .i64 2, .slice A8 8 k8] rfl rfl 24 #[.int .i64 0, .int .i64 0, .slice none 0 0] (pp _) (by kernel_rfl) rfl (by simp [Value.oneCell']) ?_
     intro w8 hr2 ho2 hz2 hb2
     have HRw8 := Lib.hid hr2
     have Xw8 : Hid (Ext w7 w8) := ⟨hb2 _ _ (inferInstance : Ext w7 (w7.alloc _)).out (Nat.le_refl _)⟩
     clear hr2 ho2 hz2 hb2 pp)
  have HE8 := Lib.hid (HE7.out.ext (h := Xw8.out))
  have HQ8 := Lib.hid (HQ7.out.ext (h := Xw8.out))
  have HO8 := Lib.hid (own_ext (h := Xw8.out) HO7.out)
  have HO38 := Lib.hid (own_ext (h := Xw8.out) HO37.out)
  have a0 : w8.cell? ⟨w7.heap.size, 0, none⟩ = some (.int .i64 1) := at_cell HRw8.out 0
  have a1 : w8.cell? ⟨w7.heap.size, 1, none⟩ = some (.int .i64 2) := at_cell HRw8.out 1
  have a2 : w8.cell? ⟨w7.heap.size, 2, none⟩ = some (.slice A8 8 k8) := at_cell HRw8.out 2
  go_wp2_with fail
  refine (ptake4_any P S aAlice 1 noB [⟨aAlice, aMill, aX, A6, n6, k6, []⟩] 1 2 A8 8 k8 [4, 2, 99, 104, 109, 105, 108, 108] rfl (by decide) (own_le HO8.out) (by unfold Byt; decide) _ (own_cells HO8.out) HQ8.out).mono ?_
  rw [pr2]
  rintro e w9 ⟨A9, k9, rfl, ho9, hQ9, hb9⟩
  simp only [aP2_len] at ho9 ⊢
  have HE9 := Lib.hid (HE8.out.but HQ8.out.b hQ9.b hb9)
  have HQ9 := Lib.hid hQ9
  have HO9 := Lib.hid (own_weaken ho9 (Nat.zero_le _))
  have HO39 := Lib.hid (own_but2 HO38.out HQ8.out.b (by decide) hb9)
  have HO89 := Lib.hid (own_but2 HO8.out HQ8.out.b (by decide) hb9)
  have HR9 : Hid (w9.heap[w3.heap.size]? = some (.cells #[.int .i64 1, .int .i64 1, .slice A3 1 k3] 24 (0, 0))) := hb9.at (by have := HLP.out; omega) (at_ext (h := Xw8.out) HR7.out)
  have HC9 : Hid (w9.heap[w7.heap.size]? = some (.cells #[.int .i64 1, .int .i64 2, .slice A8 8 k8] 24 (0, 0))) := hb9.at (by have := HLP.out; have := HZ7.out; omega) HRw8.out
  have XW9 : Hid (Ext w w9) := hb9.ext (Ext.trans_ XW7.out Xw8.out) (Nat.le_of_lt HPw.out)
  have pp : ∀ o, (w9.alloc o).heap[w9.heap.size]? = some o := at_new w9
  clear ho9 hQ9 hb9 a0 a1 a2
  go_upto_region 10 with
    (refine wpList_store_row_o rfl 24 (.tmp 16) (.tmp 72) rfl w9.heap.size #[.int .i64 2, .int .i64 2, .slice A9 23 k9] rfl rfl 24 #[.int .i64 0, .int .i64 0, .slice none 0 0] (pp _) (by kernel_rfl) rfl (by simp [Value.oneCell']) ?_
     intro w10 hr2 ho2 hz2 hb2
     have HRw10 := Lib.hid hr2
     have Xw10 : Hid (Ext w9 w10) := ⟨hb2 _ _ (inferInstance : Ext w9 (w9.alloc _)).out (Nat.le_refl _)⟩
     clear hr2 ho2 hz2 hb2 pp)
  have HE10 := Lib.hid (HE9.out.ext (h := Xw10.out))
  have HO10 := Lib.hid (own_ext (h := Xw10.out) HO9.out)
  have a0 : w10.cell? ⟨w9.heap.size, 0, none⟩ = some (.int .i64 2) := at_cell HRw10.out 0
  have a1 : w10.cell? ⟨w9.heap.size, 1, none⟩ = some (.int .i64 2) := at_cell HRw10.out 1
  have a2 : w10.cell? ⟨w9.heap.size, 2, none⟩ = some (.slice A9 23 k9) := at_cell HRw10.out 2
  go_wp2_with fail
  refine (take4_any B T aMill 3 aS2 [⟨aAlice, aMill, aX, A5, n5, k5, []⟩] LA7 lk7 2 2 A9 23 k9 aP2 none 0 0 [] aP2_len (by decide) (own_le HO10.out) aP2_byt rfl (by decide) (fun _ h => by cases h) _ (own_cells HO10.out) (Cells.nil_ _ _) (fun _ h => by cases h) HE10.out).mono ?_
  rw [sr2]
  rintro e w11 ⟨A11, k11, LA11, lk11, rfl, ho11, hE11, hb11⟩
  have HE11 := Lib.hid hE11
  have HO311 := Lib.hid (own_but2 (own_ext (h := Xw10.out) HO39.out) HE10.out.b (by decide) hb11)
  have HO811 := Lib.hid (own_but2 (own_ext (h := Xw10.out) HO89.out) HE10.out.b (by decide) hb11)
  have HR11 : Hid (w11.heap[w3.heap.size]? = some (.cells #[.int .i64 1, .int .i64 1, .slice A3 1 k3] 24 (0, 0))) := hb11.at (by have := HLB.out; omega) (at_ext (h := Xw10.out) HR9.out)
  have HC11 : Hid (w11.heap[w7.heap.size]? = some (.cells #[.int .i64 1, .int .i64 2, .slice A8 8 k8] 24 (0, 0))) := hb11.at (by have := HLB.out; have := HZ7.out; omega) (at_ext (h := Xw10.out) HC9.out)
  have XW11 : Hid (Ext w w11) := hb11.ext (Ext.trans_ XW9.out Xw10.out) (Nat.le_of_lt HBw.out)
  clear ho11 hE11 hb11 a0 a1 a2
  have a1 : w11.cell? ⟨w3.heap.size, 1, none⟩ = some (.int .i64 1) := at_cell HR11.out 1
  have a2 : w11.cell? ⟨w3.heap.size, 2, none⟩ = some (.slice A3 1 k3) := at_cell HR11.out 2
  have c2 : w11.cell? ⟨w7.heap.size, 2, none⟩ = some (.slice A8 8 k8) := at_cell HC11.out 2
  have hcv1 := conv12 (n := 1) (c := k3) (s := ⟨#[1]⟩) rfl (own_cells HO311.out) (by rfl)
  have hcv2 := conv12 (n := 8) (c := k8) (s := ⟨#[4, 2, 99, 104, 109, 105, 108, 108]⟩) rfl (own_cells HO811.out) (by rfl)
  go_wp2_with fail
  refine (state4_any B T aMill 3 aS3 [⟨aAlice, aMill, aX, A5, n5, k5, []⟩] LA11 lk11 _ HE11.out).mono ?_
  rintro e w12 ⟨rfl, rfl⟩
  rw [show aS3.st = 3 from rfl]
  go_wp2_with fail
  refine (who4_any B T aMill 3 aS3 [⟨aAlice, aMill, aX, A5, n5, k5, []⟩] LA11 lk11 _ HE11.out).mono ?_
  rintro e w12 ⟨rfl, rfl⟩
  rw [show aS3.who = aAlice from rfl]
  go_wp2_with fail
  go_ret
  exact ⟨rfl, XW11.out.out⟩
end Go.Proofs.Ytobddmpiljknpaa
