/-
  ccp's options are written: deflate, compress, their twins, Options. No condition.
-/
import Derived.Test.YtnhmpmibkpoipaaCcA
namespace Go.Proofs.Ytnhmpmibkpoipaa
open Go.RowKit
set_option linter.unusedVariables false
set_option linter.unusedSimpArgs false

def dflB (n : Int) : Int := (16 * (n - 8) + 8) % 256
def cmpB (n : Int) : Int := (32 + n) % 256
theorem or8a (x : Int) : bits .or .i64 x 8 = IntKind.i64.wrap (((x % 18446744073709551616).toNat ||| 8 : Nat) : Int) := by
  unfold bits
  simp only [BitVec.toNat_or]
  have h1 : (BitVec.ofInt IntKind.i64.bits x).toNat = (x % 18446744073709551616).toNat := BitVec.toNat_ofInt ..
  have h2 : (BitVec.ofInt IntKind.i64.bits 8).toNat = 8 := by decide
  rw [h1, h2]
theorem or8b {a : Nat} (h4 : a % 16 = 0) : a ||| 8 = a + 8 := by
  have h6 := Nat.two_pow_add_eq_or_of_lt (i := 4) (b := 8) (by decide) (a / 16)
  have hq : 2 ^ 4 * (a / 16) = a := by omega
  rw [hq] at h6
  exact h6.symm
theorem or8 {x : Int} (h : x % 16 = 0) : bits .or .i64 x 8 % 256 = (x + 8) % 256 := by
  rw [or8a, IntKind.wrap_i64]
  obtain ⟨a, ha⟩ : ∃ a, (x % 18446744073709551616).toNat = a := ⟨_, rfl⟩
  have h3 : (a : Int) = x % 18446744073709551616 := by
    rw [← ha]
    exact Int.toNat_of_nonneg (Int.emod_nonneg _ (by decide))
  rw [ha, or8b (by omega)]
  clear ha
  omega
theorem dfl_or (n : Int) : bits .or .i64 (RowKit.wrap64 (RowKit.wrap64 (n - 8) * 16)) 8 % 256 = dflB n := by
  have h : RowKit.wrap64 (RowKit.wrap64 (n - 8) * 16) % 16 = 0 := by unfold RowKit.wrap64; omega
  rw [or8 h]
  unfold RowKit.wrap64 dflB
  omega
theorem dfl_add (n : Int) : RowKit.wrap64 (RowKit.wrap64 (16 * RowKit.wrap64 (n - 8)) + 8) % 256 = dflB n := by
  unfold RowKit.wrap64 dflB
  omega
theorem cmp_add (n : Int) : RowKit.wrap64 (32 + n) % 256 = cmpB n := by
  unfold RowKit.wrap64 cmpB
  omega
theorem dflB_byt (n : Int) : Byt [dflB n, 0] := by
  intro x hx
  simp at hx
  rcases hx with rfl | rfl
  · unfold dflB; omega
  · omega
theorem cmpB_byt (n : Int) : Byt [cmpB n] := by
  intro x hx
  simp at hx
  subst hx
  unfold cmpB
  omega
def ODat (t : Int) (d : List Int) (m : Nat) (w : World) (e : Ending) (w' : World) : Prop :=
  ∃ A c, e = .returned (.agg #[.int .i64 t, .slice A m c]) ∧ w'.ownsRow w.heap.size 5 1 (.slice A m c) m (nums .u8 d) ∧ Below w.heap.size w w'
def SDat (d : List Int) (m : Nat) (w : World) (e : Ending) (w' : World) : Prop :=
  ∃ A c, e = .returned (.slice A m c) ∧ w'.ownsRow w.heap.size 5 1 (.slice A m c) m (nums .u8 d) ∧ Below w.heap.size w w'
theorem deflate22_any (n : Int) (w : World) : Calls Try.prog 72 #[.int .i64 n] w (ODat 26 [dflB n, 0] 2 w) := by
  have HD := Lib.hid (dfl_or n)
  go_enter Try.func72, Try.ntmps72
  go_wp2
  rw [HD.out]
  exact bodyPost_ret (v := .agg #[.int .i64 26, .slice (some ⟨w.heap.size + 1, 0, none⟩) 2 2]) (by simp [results, Try.results72, go_sem]) rfl ⟨_, _, rfl, own_box (w.alloc _) w.heap.size (w.heap.size + 1) (by simp) (by omega) (nums .u8 [dflB n, 0]) 2 1 rfl (by omega) 5, Ext.out⟩
theorem compress22_any (n : Int) (w : World) : Calls Try.prog 74 #[.int .i64 n] w (ODat 21 [cmpB n] 1 w) := by
  have HD := Lib.hid (cmp_add n)
  go_enter Try.func74, Try.ntmps74
  go_wp2
  rw [HD.out]
  exact bodyPost_ret (v := .agg #[.int .i64 21, .slice (some ⟨w.heap.size + 1, 0, none⟩) 1 1]) (by simp [results, Try.results74, go_sem]) rfl ⟨_, _, rfl, own_box (w.alloc _) w.heap.size (w.heap.size + 1) (by simp) (by omega) (nums .u8 [cmpB n]) 1 1 rfl (by omega) 5, Ext.out⟩
theorem rdeflate22_any (n : Int) (w : World) : Calls Try.prog 75 #[.int .i64 n] w (SDat [dflB n, 0] 2 w) := by
  have HD := Lib.hid (dfl_add n)
  go_enter Try.func75, Try.ntmps75
  go_wp2
  rw [HD.out]
  go_ret
  exact ⟨_, _, rfl, own_box w w.heap.size w.heap.size rfl (by omega) (nums .u8 [dflB n, 0]) 2 1 rfl (by omega) 5, Ext.out⟩
theorem rbsd22_any (n : Int) (w : World) : Calls Try.prog 76 #[.int .i64 n] w (SDat [cmpB n] 1 w) := by
  have HD := Lib.hid (cmp_add n)
  go_enter Try.func76, Try.ntmps76
  go_wp2
  rw [HD.out]
  go_ret
  exact ⟨_, _, rfl, own_box w w.heap.size w.heap.size rfl (by omega) (nums .u8 [cmpB n]) 1 1 rfl (by omega) 5, Ext.out⟩

def optsC (d b : Int) : List (Int × List Int) := (if isD d then [(26, [dflB d, 0])] else []) ++ (if isB b then [(21, [cmpB b])] else [])
def OptsTells (os : List (Int × List Int)) (w : World) (e : Ending) (w' : World) : Prop :=
  ∃ v us, e = .returned v ∧ OptsOwn w' w.heap.size v us ∧ us.map OV.opt = os ∧ Below w.heap.size w w'
set_option maxRecDepth 100000 in
set_option maxHeartbeats 4000000 in
theorem options22_any (d b : Int) (w : World) : Calls Try.prog 23 #[.agg #[.int .i64 d, .int .i64 b]] w (OptsTells (optsC d b) w) := by
  have HN : Hid (OptsOwn (w.alloc (.cells #[.int .i64 d, .int .i64 b] 34)) w.heap.size (.slice none 0 0) []) := OptsOwn.nil_ _ _
  rcases hd : isD d with _ | _
  · have HDD := Lib.hid hd
    go_enter Try.func23, Try.ntmps23
    go_wp2_with fail
    refine (isD_any d _).mono ?_
    rintro e w0 ⟨rfl, rfl⟩
    rw [HDD.out]
    rcases hb : isB b with _ | _
    · have HBB := Lib.hid hb
      have HF : Hid (([] : List OV).map OV.opt = optsC d b) := by unfold Hid optsC; rw [hd, hb]; rfl
      clear hd hb
      go_wp2_with fail
      refine (isB_any b _).mono ?_
      rintro e w0 ⟨rfl, rfl⟩
      rw [HBB.out]
      go_wp2
      go_ret
      exact ⟨_, _, rfl, HN.out.ext, HF.out, Ext.out⟩
    · have HBB := Lib.hid hb
      have hopt : optsC d b = [(21, [cmpB b])] := by unfold optsC; rw [hd, hb]; rfl
      have HOP := Lib.hid hopt
      clear hd hb hopt
      go_wp2_with fail
      refine (isB_any b _).mono ?_
      rintro e w0 ⟨rfl, rfl⟩
      rw [HBB.out]
      go_wp2_with fail
      refine (compress22_any _ _).mono ?_
      rintro e w1 ⟨A1, c1, rfl, ho1, hb1⟩
      have S1 : Step w1 _ := ⟨hb1⟩
      have HD1 := Lib.hid ho1
      clear ho1 hb1
      go_wp2_with
        (at_builtin
         refine wp_append_box (w0 := w) w.heap.size rfl (.tmp 16) (.tmp 20) 35 109 (.agg #[.int .i64 0, .slice none 0 0]) 2 32 1 rfl Try.underlying35 info_opt rfl (by decide) (by decide) (.slice none 0 0) 0 (flat []) [.int .i64 21, .slice A1 1 c1] rfl rfl rfl (flat_one [⟨21, A1, 1, c1, []⟩]) (own_ext HN.out.1) Ext.out Ext.out.size (by simp) ?_
         intro v2 w2 ho2 hb2 hg2 hat2
         obtain ⟨A2, c2, rfl, hc2⟩ := own_slice ho2
         have HO2 := Lib.hid (OptsOwn.push (W := (w.alloc (.cells #[.int .i64 d, .int .i64 b] 34))) (u := ⟨21, A1, 1, c1, [cmpB b]⟩) HN.out (size_ext (w := w)) (inferInstance : Ext (w.alloc (.cells #[.int .i64 d, .int .i64 b] 34)) w1) (own_weaken HD1.out (size_ext (w := (w.alloc (.cells #[.int .i64 d, .int .i64 b] 34))))) ⟨rfl, by simp, cmpB_byt b⟩ ho2 hg2 hat2)
         have X2 : Ext w w2 := ⟨hb2⟩
         skip
         clear ho2 hb2 hg2 hat2 hc2)
      have HF : Hid (([⟨21, A1, 1, c1, [cmpB b]⟩] : List OV).map OV.opt = optsC d b) := HOP.out.symm
      go_wp2
      go_ret
      exact ⟨_, _, rfl, HO2.out.ext, HF.out, Ext.out⟩
  · have HDD := Lib.hid hd
    go_enter Try.func23, Try.ntmps23
    go_wp2_with fail
    refine (isD_any d _).mono ?_
    rintro e w0 ⟨rfl, rfl⟩
    rw [HDD.out]
    go_wp2_with fail
    refine (deflate22_any _ _).mono ?_
    rintro e w1 ⟨A1, c1, rfl, ho1, hb1⟩
    have S1 : Step w1 _ := ⟨hb1⟩
    have HD1 := Lib.hid ho1
    clear ho1 hb1
    go_wp2_with
      (at_builtin
       refine wp_append_box (w0 := w) w.heap.size rfl (.tmp 7) (.tmp 11) 35 109 (.agg #[.int .i64 0, .slice none 0 0]) 2 32 1 rfl Try.underlying35 info_opt rfl (by decide) (by decide) (.slice none 0 0) 0 (flat []) [.int .i64 26, .slice A1 2 c1] rfl rfl rfl (flat_one [⟨26, A1, 2, c1, []⟩]) (own_ext HN.out.1) Ext.out Ext.out.size (by simp) ?_
       intro v2 w2 ho2 hb2 hg2 hat2
       obtain ⟨A2, c2, rfl, hc2⟩ := own_slice ho2
       have HO2 := Lib.hid (OptsOwn.push (W := (w.alloc (.cells #[.int .i64 d, .int .i64 b] 34))) (u := ⟨26, A1, 2, c1, [dflB d, 0]⟩) HN.out (size_ext (w := w)) (inferInstance : Ext (w.alloc (.cells #[.int .i64 d, .int .i64 b] 34)) w1) (own_weaken HD1.out (size_ext (w := (w.alloc (.cells #[.int .i64 d, .int .i64 b] 34))))) ⟨rfl, by simp, dflB_byt d⟩ ho2 hg2 hat2)
       have X2 : Ext w w2 := ⟨hb2⟩
       have hbx : w2.cell? ⟨w.heap.size, 1, none⟩ = some (.int .i64 b) := hg2.cell (cell_ext (at_cell (at_new w (.cells #[.int .i64 d, .int .i64 b] 34)) 1)) (by simp [Value.ownBlock])
       clear ho2 hb2 hg2 hat2 hc2)
    rcases hb : isB b with _ | _
    · have HBB := Lib.hid hb
      have hopt : optsC d b = [(26, [dflB d, 0])] := by unfold optsC; rw [hd, hb]; rfl
      have HF : Hid (([⟨26, A1, 2, c1, [dflB d, 0]⟩] : List OV).map OV.opt = optsC d b) := hopt.symm
      clear hd hb hopt
      go_wp2_with fail
      refine (isB_any b _).mono ?_
      rintro e w0 ⟨rfl, rfl⟩
      rw [HBB.out]
      go_wp2
      go_ret
      exact ⟨_, _, rfl, HO2.out.ext, HF.out, Ext.out⟩
    · have HBB := Lib.hid hb
      have hopt : optsC d b = [(26, [dflB d, 0]), (21, [cmpB b])] := by unfold optsC; rw [hd, hb]; rfl
      have HOP : Hid (([⟨26, A1, 2, c1, [dflB d, 0]⟩] : List OV).map OV.opt ++ [(21, [cmpB b])] = optsC d b) := hopt.symm
      clear hd hb hopt
      go_wp2_with fail
      refine (isB_any b _).mono ?_
      rintro e w0 ⟨rfl, rfl⟩
      rw [HBB.out]
      obtain ⟨us, hus⟩ : ∃ us : List OV, us = [⟨26, A1, 2, c1, [dflB d, 0]⟩] := ⟨_, rfl⟩
      have HO3 : Hid (OptsOwn w2 w.heap.size (.slice A2 1 c2) us) := by rw [hus]; exact HO2.out
      rw [← hus] at HOP
      have hul : us.length = 1 := by rw [hus]; rfl
      have HUL := Lib.hid hul
      clear HO2 HD1 S1 hus hul
      go_wp2_with fail
      refine (compress22_any _ _).mono ?_
      rintro e w3 ⟨A3, c3, rfl, ho3, hb3⟩
      have S3 : Step w3 _ := ⟨hb3⟩
      have HD3 := Lib.hid ho3
      clear ho3 hb3
      go_wp2_with
        (at_builtin
         refine wp_append_box (w0 := w) w.heap.size rfl (.tmp 16) (.tmp 20) 35 109 (.agg #[.int .i64 0, .slice none 0 0]) 2 32 1 rfl Try.underlying35 info_opt rfl (by decide) (by decide) (.slice A2 1 c2) 1 (flat us) [.int .i64 21, .slice A3 1 c3] rfl rfl rfl (flat_one [⟨21, A3, 1, c3, []⟩]) (by have h1 := own_ext (w' := w3) HO3.out.1; rw [HUL.out] at h1; exact h1) Ext.out Ext.out.size (by simp) ?_
         intro v4 w4 ho4 hb4 hg4 hat4
         obtain ⟨A4, c4, rfl, hc4⟩ := own_slice ho4
         have HO4 := Lib.hid (OptsOwn.push (W := w2) (u := ⟨21, A3, 1, c3, [cmpB b]⟩) HO3.out (size_ext (w := w)) (inferInstance : Ext w2 w3) (own_weaken HD3.out (size_ext (w := w2))) ⟨rfl, by simp, cmpB_byt b⟩ (by rw [HUL.out]; exact ho4) hg4 hat4)
         have X4 : Ext w w4 := ⟨hb4⟩
         clear ho4 hb4 hg4 hat4 hc4)
      have HF : Hid ((us ++ [(⟨21, A3, 1, c3, [cmpB b]⟩ : OV)]).map OV.opt = optsC d b) := by
        unfold Hid
        rw [List.map_append]
        exact HOP.out
      go_wp2
      go_ret
      exact ⟨_, _, rfl, HO4.out.ext, HF.out, Ext.out⟩
end Go.Proofs.Ytnhmpmibkpoipaa
