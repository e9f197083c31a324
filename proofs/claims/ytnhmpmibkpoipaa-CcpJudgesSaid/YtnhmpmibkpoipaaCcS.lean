/-
  The reference's borne, other and Judge (ccp). Conditions: the list is no longer than the model's memory.
-/
import Derived.Test.YtnhmpmibkpoipaaCcR
import Derived.Test.YtnhmpmibkpoipaaCcP
import Derived.Test.YtnhmpmibkpoipaaR9c
namespace Go.Proofs.Ytnhmpmibkpoipaa
open Go.RowKit
set_option linter.unusedVariables false
set_option linter.unusedSimpArgs false

def borneR (df bs : Int) (o : Int × List Int) : Bool := decide (o.1 = 26 ∧ o.2.length = 2 ∧ df ≠ 0 ∨ o.1 = 21 ∧ o.2.length = 1 ∧ bs ≠ 0)
theorem borneF_R {df bs : Int} {pre : OL} {o : Int × List Int} : borneF df bs pre o = (!hasT pre o.1 && borneR df bs o) := by
  obtain ⟨t, xs⟩ := o
  rcases hT : hasT pre t with _ | _
  · by_cases h : t = 26
    · subst h
      rw [borneF_26 hT]
      simp [borneR, hT]
    · by_cases h' : t = 21
      · subst h'
        rw [borneF_21 hT]
        simp [borneR, hT]
      · rw [borneF_no h h']
        simp [borneR, h, h']
  · rw [borneF_twice hT]
    simp [hT]
set_option maxRecDepth 100000 in
set_option maxHeartbeats 1000000 in
theorem rborne22_any (cf : Array Value) (df bs t : Int) (VA : Option Addr) (vn vc : Nat) (xs : List Int) (hdf : cf[16]? = some (.int .i64 df)) (hbs : cf[17]? = some (.int .i64 bs)) (hn : xs.length = vn) (w : World) :
    Calls Try.prog 81 #[.agg cf, .agg #[.int .i64 t, .slice VA vn vc]] w fun e w' => e = .returned (.bool (borneR df bs (t, xs))) ∧ Below w.heap.size w w' := by
  have Hn := Lib.hid hn
  have q16 : ∀ o, ((w.alloc (.cells cf 39)).alloc o).cell? ⟨w.heap.size, 16, none⟩ = some (.int .i64 df) := fun o => (at_cell (at_ext (at_new w (.cells cf 39))) 16).trans hdf
  have q17 : ∀ o, ((w.alloc (.cells cf 39)).alloc o).cell? ⟨w.heap.size, 17, none⟩ = some (.int .i64 bs) := fun o => (at_cell (at_ext (at_new w (.cells cf 39))) 17).trans hbs
  clear hn hdf hbs
  by_cases h26 : t = 26
  · subst h26
    by_cases h2 : vn = 2
    · subst h2
      by_cases hd0 : df = 0
      · have HR : Hid (borneR df bs (26, xs) = false) := by unfold Hid borneR; simp [Hn.out, hd0]
        have hd1 : (df != 0) = false := by simpa using hd0
        clear hd0
        go_enter Try.func81, Try.ntmps81
        go_wp2
        go_ret
        exact ⟨ret_bool HR.out.symm, Ext.out⟩
      · have HR : Hid (borneR df bs (26, xs) = true) := by unfold Hid borneR; simp [Hn.out, hd0]
        have hd1 : (df != 0) = true := by simpa using hd0
        clear hd0
        go_enter Try.func81, Try.ntmps81
        go_wp2
        go_ret
        exact ⟨ret_bool HR.out.symm, Ext.out⟩
    · have HR : Hid (borneR df bs (26, xs) = false) := by unfold Hid borneR; simp [Hn.out, h2]
      have h2' : ((vn : Int) == 2) = false := by rw [beq_eq_false_iff_ne]; omega
      clear h2
      go_enter Try.func81, Try.ntmps81
      go_wp2
      go_ret
      exact ⟨ret_bool HR.out.symm, Ext.out⟩
  by_cases h21 : t = 21
  · subst h21
    clear h26
    by_cases h2 : vn = 1
    · subst h2
      by_cases hd0 : bs = 0
      · have HR : Hid (borneR df bs (21, xs) = false) := by unfold Hid borneR; simp [Hn.out, hd0]
        have hd1 : (bs != 0) = false := by simpa using hd0
        clear hd0
        go_enter Try.func81, Try.ntmps81
        go_wp2
        go_ret
        exact ⟨ret_bool HR.out.symm, Ext.out⟩
      · have HR : Hid (borneR df bs (21, xs) = true) := by unfold Hid borneR; simp [Hn.out, hd0]
        have hd1 : (bs != 0) = true := by simpa using hd0
        clear hd0
        go_enter Try.func81, Try.ntmps81
        go_wp2
        go_ret
        exact ⟨ret_bool HR.out.symm, Ext.out⟩
    · have HR : Hid (borneR df bs (21, xs) = false) := by unfold Hid borneR; simp [Hn.out, h2]
      have h2' : ((vn : Int) == 1) = false := by rw [beq_eq_false_iff_ne]; omega
      clear h2
      go_enter Try.func81, Try.ntmps81
      go_wp2
      go_ret
      exact ⟨ret_bool HR.out.symm, Ext.out⟩
  · have HR : Hid (borneR df bs (t, xs) = false) := by unfold Hid borneR; simp [h26, h21]
    have h26' : (t == 26) = false := by simpa using h26
    have h21' : (t == 21) = false := by simpa using h21
    clear h26 h21
    go_enter Try.func81, Try.ntmps81
    go_wp2
    go_ret
    exact ⟨ret_bool HR.out.symm, Ext.out⟩
def ROther (y : Int × List Int) (w : World) (e : Ending) (w' : World) : Prop :=
  ∃ A m c, e = .returned (.tuple #[.agg #[.int .i64 y.1, .slice A m c], .bool true]) ∧ y.2.length = m ∧ w'.ownsRow w.heap.size 5 1 (.slice A m c) m (nums .u8 y.2) ∧ Below w.heap.size w w'
set_option maxRecDepth 100000 in
set_option maxHeartbeats 2000000 in
theorem rother22_yes (cf : Array Value) (df bs t : Int) (y : Int × List Int) (VA : Option Addr) (vn vc : Nat) (xs : List Int) (hdf : cf[16]? = some (.int .i64 df)) (hbs : cf[17]? = some (.int .i64 bs)) (hn : xs.length = vn) (hb : Byt xs) (hy : othF df bs (t, xs) = some y) (w : World) (hx : Cells w VA (nums .u8 xs)) :
    Calls Try.prog 82 #[.agg cf, .agg #[.int .i64 t, .slice VA vn vc]] w (ROther y w) := by
  by_cases h26 : t = 26
  · subst h26
    have Hn := Lib.hid hn
    have HB := Lib.hid hb
    have HX := Lib.hid hx
    have HDF := Lib.hid hdf
    have HBS := Lib.hid hbs
    have HG0 := Lib.hid (at_new w (.cells cf 39))
    have HG1 : Hid (((w.alloc (.cells cf 39)).alloc (.cells #[.int .i64 26, .slice VA vn vc] 109)).heap[w.heap.size + 1]? = some (.cells #[.int .i64 26, .slice VA vn vc] 109 (0, 0))) := at_new1 (by simp)
    have HG2 : Hid ((((w.alloc (.cells cf 39)).alloc (.cells #[.int .i64 26, .slice VA vn vc] 109)).alloc (.cells #[.int .i64 0, .slice none 0 0] 109)).heap[w.heap.size + 2]? = some (.cells #[.int .i64 0, .slice none 0 0] 109 (0, 0))) := at_new1 (by simp)
    clear hn hb hx hdf hbs
    obtain ⟨S, hS⟩ : ∃ S, saysF (26, xs) = S := ⟨_, rfl⟩
    have HS := Lib.hid hS
    by_cases hc : S = 0 ∨ df < S
    · rw [othF_26 rfl hS hc] at hy
      injection hy with hy
      subst hy
      clear hS
      by_cases hs0 : S = 0
      · have hs1 : (S == 0) = true := by simpa using hs0
        clear hc hs0
        go_enter Try.func82, Try.ntmps82
        go_wp2_with fail
        refine (says22_any 26 VA vn vc xs Hn.out HB.out _ (by exact HX.out.ext)).mono ?_
        rintro e w1 ⟨rfl, hb1⟩
        rw [HS.out]
        have S1 : Step w1 _ := ⟨hb1⟩
        have p0 : w1.cell? ⟨w.heap.size + 1, 0, none⟩ = some (.int .i64 26) := at_cell (at_ext HG1.out) 0
        have p1 : w1.cell? ⟨w.heap.size + 1, 1, none⟩ = some (.slice VA vn vc) := at_cell (at_ext HG1.out) 1
        have q16 : w1.cell? ⟨w.heap.size, 16, none⟩ = some (.int .i64 df) := (at_cell (at_ext HG0.out) 16).trans HDF.out
        have q17 : w1.cell? ⟨w.heap.size, 17, none⟩ = some (.int .i64 bs) := (at_cell (at_ext HG0.out) 17).trans HBS.out
        have HH2 := Lib.hid (at_ext (w' := w1) HG2.out)
        clear hb1
        go_wp2_with fail
        refine (rdeflate22_any df _).mono ?_
        rintro e w2 ⟨A2, c2, rfl, ho2, hb2⟩
        have S2 : Step w2 _ := ⟨hb2⟩
        have HO2 := Lib.hid ho2
        have P2 := at_ext (w' := w2) HH2.out
        have f0 := at_frozen P2 0
        have f1 := at_frozen P2 1
        have r0 : w2.cell? ⟨w.heap.size + 2, 0, none⟩ = some (.int .i64 0) := at_cell P2 0
        have r1 : w2.cell? ⟨w.heap.size + 2, 1, none⟩ = some (.slice none 0 0) := at_cell P2 1
        have HP2 := Lib.hid P2
        clear hb2 ho2 P2
        go_wp2
        have hd0 := at_cell (at_set2 (.int .i64 26) (.slice A2 2 c2) HP2.out) 0
        have hd1 := at_cell (at_set2 (.int .i64 26) (.slice A2 2 c2) HP2.out) 1
        simp only [List.getElem?_toArray, List.getElem?_cons_zero, List.getElem?_cons_succ] at hd0 hd1
        exact bodyPost_ret (v := .tuple #[.agg #[.int .i64 26, .slice A2 2 c2], .bool true]) (by simp [results, Try.results82, go_sem, hd0, hd1]) rfl ⟨A2, 2, c2, rfl, rfl, own_weaken (own_young (own_young HO2.out (at_lt HH2.out)) (at_lt HH2.out)) (size_ext), Ext.out⟩
      · have hs1 : (S == 0) = false := by simpa using hs0
        have hlt : df < S := hc.resolve_left hs0
        clear hc hs0
        go_enter Try.func82, Try.ntmps82
        go_wp2_with fail
        refine (says22_any 26 VA vn vc xs Hn.out HB.out _ (by exact HX.out.ext)).mono ?_
        rintro e w1 ⟨rfl, hb1⟩
        rw [HS.out]
        have S1 : Step w1 _ := ⟨hb1⟩
        have p0 : w1.cell? ⟨w.heap.size + 1, 0, none⟩ = some (.int .i64 26) := at_cell (at_ext HG1.out) 0
        have p1 : w1.cell? ⟨w.heap.size + 1, 1, none⟩ = some (.slice VA vn vc) := at_cell (at_ext HG1.out) 1
        have q16 : w1.cell? ⟨w.heap.size, 16, none⟩ = some (.int .i64 df) := (at_cell (at_ext HG0.out) 16).trans HDF.out
        have q17 : w1.cell? ⟨w.heap.size, 17, none⟩ = some (.int .i64 bs) := (at_cell (at_ext HG0.out) 17).trans HBS.out
        have HH2 := Lib.hid (at_ext (w' := w1) HG2.out)
        clear hb1
        go_wp2_with fail
        refine (rdeflate22_any df _).mono ?_
        rintro e w2 ⟨A2, c2, rfl, ho2, hb2⟩
        have S2 : Step w2 _ := ⟨hb2⟩
        have HO2 := Lib.hid ho2
        have P2 := at_ext (w' := w2) HH2.out
        have f0 := at_frozen P2 0
        have f1 := at_frozen P2 1
        have r0 : w2.cell? ⟨w.heap.size + 2, 0, none⟩ = some (.int .i64 0) := at_cell P2 0
        have r1 : w2.cell? ⟨w.heap.size + 2, 1, none⟩ = some (.slice none 0 0) := at_cell P2 1
        have HP2 := Lib.hid P2
        clear hb2 ho2 P2
        go_wp2
        have hd0 := at_cell (at_set2 (.int .i64 26) (.slice A2 2 c2) HP2.out) 0
        have hd1 := at_cell (at_set2 (.int .i64 26) (.slice A2 2 c2) HP2.out) 1
        simp only [List.getElem?_toArray, List.getElem?_cons_zero, List.getElem?_cons_succ] at hd0 hd1
        exact bodyPost_ret (v := .tuple #[.agg #[.int .i64 26, .slice A2 2 c2], .bool true]) (by simp [results, Try.results82, go_sem, hd0, hd1]) rfl ⟨A2, 2, c2, rfl, rfl, own_weaken (own_young (own_young HO2.out (at_lt HH2.out)) (at_lt HH2.out)) (size_ext), Ext.out⟩
    · rw [othF_26n rfl hS hc] at hy
      cases hy
  by_cases h21 : t = 21
  · subst h21
    clear h26
    have Hn := Lib.hid hn
    have HB := Lib.hid hb
    have HX := Lib.hid hx
    have HDF := Lib.hid hdf
    have HBS := Lib.hid hbs
    have HG0 := Lib.hid (at_new w (.cells cf 39))
    have HG1 : Hid (((w.alloc (.cells cf 39)).alloc (.cells #[.int .i64 21, .slice VA vn vc] 109)).heap[w.heap.size + 1]? = some (.cells #[.int .i64 21, .slice VA vn vc] 109 (0, 0))) := at_new1 (by simp)
    have HG2 : Hid ((((w.alloc (.cells cf 39)).alloc (.cells #[.int .i64 21, .slice VA vn vc] 109)).alloc (.cells #[.int .i64 0, .slice none 0 0] 109)).heap[w.heap.size + 2]? = some (.cells #[.int .i64 0, .slice none 0 0] 109 (0, 0))) := at_new1 (by simp)
    clear hn hb hx hdf hbs
    obtain ⟨S, hS⟩ : ∃ S, saysF (21, xs) = S := ⟨_, rfl⟩
    have HS := Lib.hid hS
    by_cases hc : S = 0 ∨ bs < S
    · rw [othF_21 rfl hS hc] at hy
      injection hy with hy
      subst hy
      clear hS
      by_cases hs0 : S = 0
      · have hs1 : (S == 0) = true := by simpa using hs0
        clear hc hs0
        go_enter Try.func82, Try.ntmps82
        go_wp2_with fail
        refine (says22_any 21 VA vn vc xs Hn.out HB.out _ (by exact HX.out.ext)).mono ?_
        rintro e w1 ⟨rfl, hb1⟩
        rw [HS.out]
        have S1 : Step w1 _ := ⟨hb1⟩
        have p0 : w1.cell? ⟨w.heap.size + 1, 0, none⟩ = some (.int .i64 21) := at_cell (at_ext HG1.out) 0
        have p1 : w1.cell? ⟨w.heap.size + 1, 1, none⟩ = some (.slice VA vn vc) := at_cell (at_ext HG1.out) 1
        have q16 : w1.cell? ⟨w.heap.size, 16, none⟩ = some (.int .i64 df) := (at_cell (at_ext HG0.out) 16).trans HDF.out
        have q17 : w1.cell? ⟨w.heap.size, 17, none⟩ = some (.int .i64 bs) := (at_cell (at_ext HG0.out) 17).trans HBS.out
        have HH2 := Lib.hid (at_ext (w' := w1) HG2.out)
        clear hb1
        go_wp2_with fail
        refine (rbsd22_any bs _).mono ?_
        rintro e w2 ⟨A2, c2, rfl, ho2, hb2⟩
        have S2 : Step w2 _ := ⟨hb2⟩
        have HO2 := Lib.hid ho2
        have P2 := at_ext (w' := w2) HH2.out
        have f0 := at_frozen P2 0
        have f1 := at_frozen P2 1
        have r0 : w2.cell? ⟨w.heap.size + 2, 0, none⟩ = some (.int .i64 0) := at_cell P2 0
        have r1 : w2.cell? ⟨w.heap.size + 2, 1, none⟩ = some (.slice none 0 0) := at_cell P2 1
        have HP2 := Lib.hid P2
        clear hb2 ho2 P2
        go_wp2
        have hd0 := at_cell (at_set2 (.int .i64 21) (.slice A2 1 c2) HP2.out) 0
        have hd1 := at_cell (at_set2 (.int .i64 21) (.slice A2 1 c2) HP2.out) 1
        simp only [List.getElem?_toArray, List.getElem?_cons_zero, List.getElem?_cons_succ] at hd0 hd1
        exact bodyPost_ret (v := .tuple #[.agg #[.int .i64 21, .slice A2 1 c2], .bool true]) (by simp [results, Try.results82, go_sem, hd0, hd1]) rfl ⟨A2, 1, c2, rfl, rfl, own_weaken (own_young (own_young HO2.out (at_lt HH2.out)) (at_lt HH2.out)) (size_ext), Ext.out⟩
      · have hs1 : (S == 0) = false := by simpa using hs0
        have hlt : bs < S := hc.resolve_left hs0
        clear hc hs0
        go_enter Try.func82, Try.ntmps82
        go_wp2_with fail
        refine (says22_any 21 VA vn vc xs Hn.out HB.out _ (by exact HX.out.ext)).mono ?_
        rintro e w1 ⟨rfl, hb1⟩
        rw [HS.out]
        have S1 : Step w1 _ := ⟨hb1⟩
        have p0 : w1.cell? ⟨w.heap.size + 1, 0, none⟩ = some (.int .i64 21) := at_cell (at_ext HG1.out) 0
        have p1 : w1.cell? ⟨w.heap.size + 1, 1, none⟩ = some (.slice VA vn vc) := at_cell (at_ext HG1.out) 1
        have q16 : w1.cell? ⟨w.heap.size, 16, none⟩ = some (.int .i64 df) := (at_cell (at_ext HG0.out) 16).trans HDF.out
        have q17 : w1.cell? ⟨w.heap.size, 17, none⟩ = some (.int .i64 bs) := (at_cell (at_ext HG0.out) 17).trans HBS.out
        have HH2 := Lib.hid (at_ext (w' := w1) HG2.out)
        clear hb1
        go_wp2_with fail
        refine (rbsd22_any bs _).mono ?_
        rintro e w2 ⟨A2, c2, rfl, ho2, hb2⟩
        have S2 : Step w2 _ := ⟨hb2⟩
        have HO2 := Lib.hid ho2
        have P2 := at_ext (w' := w2) HH2.out
        have f0 := at_frozen P2 0
        have f1 := at_frozen P2 1
        have r0 : w2.cell? ⟨w.heap.size + 2, 0, none⟩ = some (.int .i64 0) := at_cell P2 0
        have r1 : w2.cell? ⟨w.heap.size + 2, 1, none⟩ = some (.slice none 0 0) := at_cell P2 1
        have HP2 := Lib.hid P2
        clear hb2 ho2 P2
        go_wp2
        have hd0 := at_cell (at_set2 (.int .i64 21) (.slice A2 1 c2) HP2.out) 0
        have hd1 := at_cell (at_set2 (.int .i64 21) (.slice A2 1 c2) HP2.out) 1
        simp only [List.getElem?_toArray, List.getElem?_cons_zero, List.getElem?_cons_succ] at hd0 hd1
        exact bodyPost_ret (v := .tuple #[.agg #[.int .i64 21, .slice A2 1 c2], .bool true]) (by simp [results, Try.results82, go_sem, hd0, hd1]) rfl ⟨A2, 1, c2, rfl, rfl, own_weaken (own_young (own_young HO2.out (at_lt HH2.out)) (at_lt HH2.out)) (size_ext), Ext.out⟩
    · rw [othF_21n rfl hS hc] at hy
      cases hy
  · unfold othF at hy
    rw [if_neg (by rintro ⟨h, _⟩; exact h26 h), if_neg (by rintro ⟨h, _⟩; exact h21 h)] at hy
    cases hy
set_option maxRecDepth 100000 in
set_option maxHeartbeats 2000000 in
theorem rother22_no (cf : Array Value) (df bs t : Int) (VA : Option Addr) (vn vc : Nat) (xs : List Int) (hdf : cf[16]? = some (.int .i64 df)) (hbs : cf[17]? = some (.int .i64 bs)) (hn : xs.length = vn) (hb : Byt xs) (hk : t = 26 ∨ t = 21) (hy : othF df bs (t, xs) = none) (w : World) (hx : Cells w VA (nums .u8 xs)) :
    Calls Try.prog 82 #[.agg cf, .agg #[.int .i64 t, .slice VA vn vc]] w fun e w' => e = .returned (.tuple #[.agg #[.int .i64 t, .slice VA vn vc], .bool false]) ∧ Below w.heap.size w w' := by
  rcases hk with h26 | h21
  · subst h26
    have Hn := Lib.hid hn
    have HB := Lib.hid hb
    have HX := Lib.hid hx
    have HDF := Lib.hid hdf
    have HBS := Lib.hid hbs
    have HG0 := Lib.hid (at_new w (.cells cf 39))
    have HG1 : Hid (((w.alloc (.cells cf 39)).alloc (.cells #[.int .i64 26, .slice VA vn vc] 109)).heap[w.heap.size + 1]? = some (.cells #[.int .i64 26, .slice VA vn vc] 109 (0, 0))) := at_new1 (by simp)
    have HG2 : Hid ((((w.alloc (.cells cf 39)).alloc (.cells #[.int .i64 26, .slice VA vn vc] 109)).alloc (.cells #[.int .i64 0, .slice none 0 0] 109)).heap[w.heap.size + 2]? = some (.cells #[.int .i64 0, .slice none 0 0] 109 (0, 0))) := at_new1 (by simp)
    clear hn hb hx hdf hbs
    obtain ⟨S, hS⟩ : ∃ S, saysF (26, xs) = S := ⟨_, rfl⟩
    have HS := Lib.hid hS
    by_cases hc : S = 0 ∨ df < S
    · rw [othF_26 rfl hS hc] at hy
      cases hy
    · have hs1 : (S == 0) = false := by simp only [beq_eq_false_iff_ne, ne_eq]; exact fun h => hc (.inl h)
      have hlt : ¬ df < S := fun h => hc (.inr h)
      clear hS hc hy
      go_enter Try.func82, Try.ntmps82
      go_wp2_with fail
      refine (says22_any 26 VA vn vc xs Hn.out HB.out _ (by exact HX.out.ext)).mono ?_
      rintro e w1 ⟨rfl, hb1⟩
      rw [HS.out]
      have S1 : Step w1 _ := ⟨hb1⟩
      have p0 : w1.cell? ⟨w.heap.size + 1, 0, none⟩ = some (.int .i64 26) := at_cell (at_ext HG1.out) 0
      have p1 : w1.cell? ⟨w.heap.size + 1, 1, none⟩ = some (.slice VA vn vc) := at_cell (at_ext HG1.out) 1
      have q16 : w1.cell? ⟨w.heap.size, 16, none⟩ = some (.int .i64 df) := (at_cell (at_ext HG0.out) 16).trans HDF.out
      have q17 : w1.cell? ⟨w.heap.size, 17, none⟩ = some (.int .i64 bs) := (at_cell (at_ext HG0.out) 17).trans HBS.out
      have HH2 := Lib.hid (at_ext (w' := w1) HG2.out)
      clear hb1
      have f0 := at_frozen HH2.out 0
      have f1 := at_frozen HH2.out 1
      have r0 : w1.cell? ⟨w.heap.size + 2, 0, none⟩ = some (.int .i64 0) := at_cell HH2.out 0
      have r1 : w1.cell? ⟨w.heap.size + 2, 1, none⟩ = some (.slice none 0 0) := at_cell HH2.out 1
      go_wp2
      have hd0 := at_cell (at_set2 (.int .i64 26) (.slice VA vn vc) HH2.out) 0
      have hd1 := at_cell (at_set2 (.int .i64 26) (.slice VA vn vc) HH2.out) 1
      simp only [List.getElem?_toArray, List.getElem?_cons_zero, List.getElem?_cons_succ] at hd0 hd1
      exact bodyPost_ret (v := .tuple #[.agg #[.int .i64 26, .slice VA vn vc], .bool false]) (by simp [results, Try.results82, go_sem, hd0, hd1]) rfl ⟨rfl, Ext.out⟩
  · subst h21
    have Hn := Lib.hid hn
    have HB := Lib.hid hb
    have HX := Lib.hid hx
    have HDF := Lib.hid hdf
    have HBS := Lib.hid hbs
    have HG0 := Lib.hid (at_new w (.cells cf 39))
    have HG1 : Hid (((w.alloc (.cells cf 39)).alloc (.cells #[.int .i64 21, .slice VA vn vc] 109)).heap[w.heap.size + 1]? = some (.cells #[.int .i64 21, .slice VA vn vc] 109 (0, 0))) := at_new1 (by simp)
    have HG2 : Hid ((((w.alloc (.cells cf 39)).alloc (.cells #[.int .i64 21, .slice VA vn vc] 109)).alloc (.cells #[.int .i64 0, .slice none 0 0] 109)).heap[w.heap.size + 2]? = some (.cells #[.int .i64 0, .slice none 0 0] 109 (0, 0))) := at_new1 (by simp)
    clear hn hb hx hdf hbs
    obtain ⟨S, hS⟩ : ∃ S, saysF (21, xs) = S := ⟨_, rfl⟩
    have HS := Lib.hid hS
    by_cases hc : S = 0 ∨ bs < S
    · rw [othF_21 rfl hS hc] at hy
      cases hy
    · have hs1 : (S == 0) = false := by simp only [beq_eq_false_iff_ne, ne_eq]; exact fun h => hc (.inl h)
      have hlt : ¬ bs < S := fun h => hc (.inr h)
      clear hS hc hy
      go_enter Try.func82, Try.ntmps82
      go_wp2_with fail
      refine (says22_any 21 VA vn vc xs Hn.out HB.out _ (by exact HX.out.ext)).mono ?_
      rintro e w1 ⟨rfl, hb1⟩
      rw [HS.out]
      have S1 : Step w1 _ := ⟨hb1⟩
      have p0 : w1.cell? ⟨w.heap.size + 1, 0, none⟩ = some (.int .i64 21) := at_cell (at_ext HG1.out) 0
      have p1 : w1.cell? ⟨w.heap.size + 1, 1, none⟩ = some (.slice VA vn vc) := at_cell (at_ext HG1.out) 1
      have q16 : w1.cell? ⟨w.heap.size, 16, none⟩ = some (.int .i64 df) := (at_cell (at_ext HG0.out) 16).trans HDF.out
      have q17 : w1.cell? ⟨w.heap.size, 17, none⟩ = some (.int .i64 bs) := (at_cell (at_ext HG0.out) 17).trans HBS.out
      have HH2 := Lib.hid (at_ext (w' := w1) HG2.out)
      clear hb1
      have f0 := at_frozen HH2.out 0
      have f1 := at_frozen HH2.out 1
      have r0 : w1.cell? ⟨w.heap.size + 2, 0, none⟩ = some (.int .i64 0) := at_cell HH2.out 0
      have r1 : w1.cell? ⟨w.heap.size + 2, 1, none⟩ = some (.slice none 0 0) := at_cell HH2.out 1
      go_wp2
      have hd0 := at_cell (at_set2 (.int .i64 21) (.slice VA vn vc) HH2.out) 0
      have hd1 := at_cell (at_set2 (.int .i64 21) (.slice VA vn vc) HH2.out) 1
      simp only [List.getElem?_toArray, List.getElem?_cons_zero, List.getElem?_cons_succ] at hd0 hd1
      exact bodyPost_ret (v := .tuple #[.agg #[.int .i64 21, .slice VA vn vc], .bool false]) (by simp [results, Try.results82, go_sem, hd0, hd1]) rfl ⟨rfl, Ext.out⟩
end Go.Proofs.Ytnhmpmibkpoipaa
