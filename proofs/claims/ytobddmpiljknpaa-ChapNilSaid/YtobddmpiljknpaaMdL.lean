/-
  The reference's Sum (md5). Condition: what is held is no longer than the model's memory.
-/
import Derived.Test.YtobddmpiljknpaaMdJ
import Derived.Test.YtobddmpiljknpaaMdK
import Derived.Test.YtobddmpiljknpaaReg
namespace Go.Proofs.Ytobddmpiljknpaa
open Go.RowKit
set_option linter.unusedVariables false
set_option linter.unusedSimpArgs false

/-- A whole struct or array that is loaded, as one step of a region that draws its order. -/
theorem step_load_row {P : Program} {ops : Array Oper} {o : Oper} {a : Act} {w : World} {K : Act → World → Prop} {Q : Exit → Act → World → Prop} {F : Prop} (hw : Region.wanted o (yielded ops a.tmps) = true) (ty : TypeId) (x : Operand) (ho : o.op = .load ty x)
    (g : Nat) (hx : a.eval x = .pointer (some ⟨g, 0, none⟩)) (t : TypeId) (cs : Array Value) (fr : Nat × Nat) (d : TypeDesc) (hg : w.heap[g]? = some (.cells cs t fr))
    (hu : P.underlying ty = some d) (hd : (match d with | .struct _ | .array _ _ => true | _ => false) = true) (hi : (P.info? ty).map (·.size) = some cs.size)
    (h : K (a.put o.dst (.agg cs)) w) : if Region.wanted o (yielded ops a.tmps) = true then Oper.wp P o a w K Q else F := by
  rw [if_pos hw]
  unfold Oper.wp execOp
  simp only [ho, hx, Instr.loadAt, Instr.sureAddr, Sem.run_bind, Sem.run_pure, Result.andThen_ok, run_loadVar_row w g t ty cs fr d hg hu hd hi]
  exact h
/-- A whole struct or array that is stored, as one step of a region that draws its order. -/
theorem step_store_row {P : Program} {ops : Array Oper} {o : Oper} {a : Act} {w : World} {K : Act → World → Prop} {Q : Exit → Act → World → Prop} {F : Prop} (hw : Region.wanted o (yielded ops a.tmps) = true) (ty : TypeId) (x y : Operand) (ho : o.op = .store ty x y)
    (g : Nat) (cells : Array Value) (hx : a.eval x = .pointer (some ⟨g, 0, none⟩)) (hy : a.eval y = .agg cells)
    (t : TypeId) (old : Array Value) (hg : w.heap[g]? = some (.cells old t (0, 0))) (hi : (P.info? ty).map (·.size) = some cells.size)
    (hold : old.size = cells.size) (h1 : cells.all (·.oneCell') = true)
    (h : K (a.put o.dst undef) (w.setRow g cells)) : if Region.wanted o (yielded ops a.tmps) = true then Oper.wp P o a w K Q else F := by
  rw [if_pos hw]
  exact wp_store_row ty x y ho g cells hx hy t old hg hi hold h1 h
theorem begin_nums : nums .u32 beginL = nums .u32 [beginW.1, beginW.2.1, beginW.2.2.1, beginW.2.2.2] := rfl
set_option maxRecDepth 100000 in
set_option maxHeartbeats 8000000 in
theorem rsum4_any (A : Option Addr) (m c : Nat) (xs : List Int) (hm : xs.length = m) (hm' : m ≤ 140737488355200) (hby : Byt xs) (w : World) (hy : Cells w A (nums .u8 xs)) :
    Calls Try.prog 72 #[.slice A m c] w fun e w' => e = .returned (.agg (nums .u8 (digest xs)).toArray) ∧ Below w.heap.size w w' := by
  have HBX := Lib.hid hby
  have HXL := Lib.hid hm
  have HY := Lib.hid hy
  clear hm hby hy
  go_enter Try.func72, Try.ntmps72
  go_wp2_with
    (first
     | (at_builtin
        refine wp_append_cells (w0 := w.alloc zB16) (w.alloc zB16).heap.size rfl (.tmp 8) (.tmp 9) 22 5 (.int .u8 0) 1 1 rfl Try.underlying22 info_u8 rfl (by decide) (by decide) (.slice none 0 0) 0 [] A m c (nums .u8 xs) rfl rfl (by rw [nums_length, HXL.out, Nat.mul_one]) (nums_one _ _) (own_nil _ _ _ _) (by exact HY.out.ext) (Below.refl _ _) (Nat.le_refl _) (by omega) ?_
        intro v2 w2 ho2 hb2 hg2 hat2
        rw [List.nil_append, Nat.zero_add] at ho2
        obtain ⟨L2, l2, rfl, hl2⟩ := own_slice ho2
        have HO2 := Lib.hid ho2
        have X2 : Ext (w.alloc zB16) w2 := ⟨hb2⟩
        have HX2 := Lib.hid X2
        clear ho2 hb2 hg2 hat2)
     | (at_builtin
        refine wp_append_box (w0 := w.alloc zB16) (w.alloc zB16).heap.size rfl (.tmp 11) (.tmp 12) 22 5 (.int .u8 0) 1 1 1 rfl Try.underlying22 info_u8 rfl (by decide) (by decide) (.slice L2 m l2) m (nums .u8 xs) [.int .u8 128] rfl rfl rfl (one_int _ _) HO2.out HX2.out.out size_ext (by omega) ?_
        intro v3 w3 ho3 hb3 hg3 hat3
        obtain ⟨L3, l3, rfl, hl3⟩ := own_slice ho3
        have HO3 := Lib.hid ho3
        have HX3 : Hid (Ext (w.alloc zB16) w3) := ⟨hb3⟩
        clear ho3 hb3 hg3 hat3))
  have HBG : Hid ((8 : Int) * (m : Int) < 18446744073709551616) := by unfold Hid; omega
  go_loopw [3] (fun v wr => ∃ (k : Nat) (A : Option Addr) (c : Nat), k ≤ padZ m ∧ v = .slice A (m + 1 + k) c ∧ Hid (wr.ownsRow (w.alloc zB16).heap.size 5 1 (.slice A (m + 1 + k) c) (m + 1 + k) (nums .u8 (xs ++ [128] ++ List.replicate k 0))) ∧ Hid (Ext (w.alloc zB16) wr)) (fun v _ => match v with | .slice _ n _ => m + 200 - n | _ => 0)
  case atStart => exact ⟨0, L3, l3, by omega, rfl, (show World.ownsRow _ _ _ _ _ _ _ by simpa [nums] using HO3.out), HX3.out⟩
  case round =>
    obtain ⟨k, A3, c3, hk, rfl, HO, HX⟩ := hrel
    have hpz := padZ_ok m
    have XR : Ext (w.alloc zB16) wr := HX.out
    by_cases hlt : k < padZ m
    · have hne := padZ_no hlt
      have hk63 : k ≤ 63 := by omega
      have hneI : (((m : Int) + 1 + (k : Int)) % 64 != 56) = true := by rw [bne_iff_ne]; omega
      clear hpz hne
      go_wp2_with
        (at_builtin
         refine wp_append_box (w0 := w.alloc zB16) (w.alloc zB16).heap.size rfl (.tmp 18) (.tmp 19) 22 5 (.int .u8 0) 1 1 1 rfl Try.underlying22 info_u8 rfl (by decide) (by decide) (.slice A3 (m + 1 + k) c3) (m + 1 + k) (nums .u8 (xs ++ [128] ++ List.replicate k 0)) [.int .u8 0] rfl rfl rfl (one_int _ _) HO.out HX.out.out size_ext (by omega) ?_
         intro v4 w4 ho4 hb4 hg4 hat4
         obtain ⟨L4, l4, rfl, hl4⟩ := own_slice ho4
         have HO4 := Lib.hid ho4
         have HX4 : Hid (Ext (w.alloc zB16) w4) := ⟨hb4⟩
         clear ho4 hb4 hg4 hat4)
      go_roundw
      case rel =>
        refine ⟨k + 1, L4, l4, by omega, rfl, ?_, HX4.out⟩
        show World.ownsRow _ _ _ _ _ _ _
        rw [List.replicate_succ', ← List.append_assoc, nums_append (ys := [0])]
        exact HO4.out
      case measure => show m + 200 - (m + 1 + k + 1) < m + 200 - (m + 1 + k); omega
    · obtain rfl : k = padZ m := by omega
      obtain ⟨z, hz⟩ : ∃ z, padZ m = z := ⟨_, rfl⟩
      have HPZ := Lib.hid hz
      rw [hz] at hpz HO hk
      have heq : (((m : Int) + 1 + (z : Int)) % 64 != 56) = false := by rw [bne_eq_false_iff_eq]; omega
      rw [hz]
      clear hlt hz
      obtain ⟨zs, hzs⟩ : ∃ zs, xs ++ [128] ++ List.replicate z 0 = zs := ⟨_, rfl⟩
      have HZS := Lib.hid hzs
      rw [hzs] at HO
      clear hzs
      have h8w := HBG.out
      go_wp2
      clear h8w
      have hzl : zs.length = m + 1 + z := by rw [← HZS.out]; simp [HXL.out]; try omega
      have HZL := Lib.hid hzl
      clear hzl heq hpz
      have hz63 : z ≤ 63 := by have := padZ_ok m; have := HPZ.out; omega
      go_loopw [3, 5] (fun v i wr => ∃ (k : Nat) (A : Option Addr) (c : Nat), i = .int .i64 k ∧ k ≤ 8 ∧ v = .slice A (m + 1 + z + k) c ∧ Hid (wr.ownsRow (w.alloc zB16).heap.size 5 1 (.slice A (m + 1 + z + k) c) (m + 1 + z + k) (nums .u8 (zs ++ le8 (8 * (m : Int)) k))) ∧ Hid (Ext (w.alloc zB16) wr)) (fun _ i _ => 8 - (intOf i).toNat)
      case atStart => exact ⟨0, A3, c3, rfl, by omega, rfl, (show World.ownsRow _ _ _ _ _ _ _ by simpa [le8] using HO.out), HX.out⟩
      case round =>
        obtain ⟨k, A5, c5, rfl, hk8, rfl, HO5, HX5⟩ := hrel
        have XR5 : Ext (w.alloc zB16) wr := HX5.out
        by_cases hlt8 : k < 8
        · have hk0 : (0 : Int) ≤ (k : Int) := by omega
          have hkI : (k : Int) < 8 := by omega
          go_wp2_with
            (at_builtin
             refine wp_append_box (w0 := w.alloc zB16) (w.alloc zB16).heap.size rfl (.tmp 29) (.tmp 36) 22 5 (.int .u8 0) 1 1 1 rfl Try.underlying22 info_u8 rfl (by decide) (by decide) (.slice A5 (m + 1 + z + k) c5) (m + 1 + z + k) (nums .u8 (zs ++ le8 (8 * (m : Int)) k)) [.int .u8 (8 * (m : Int) / 2 ^ (8 * k) % 256)] rfl rfl rfl (one_int _ _) HO5.out HX5.out.out size_ext (by omega) ?_
             intro v4 w4 ho4 hb4 hg4 hat4
             obtain ⟨L4, l4, rfl, hl4⟩ := own_slice ho4
             have HO4 := Lib.hid ho4
             have HX4 : Hid (Ext (w.alloc zB16) w4) := ⟨hb4⟩
             clear ho4 hb4 hg4 hat4)
          go_roundw
          case rel =>
            refine ⟨k + 1, L4, l4, by go_num, by omega, rfl, ?_, HX4.out⟩
            show World.ownsRow _ _ _ _ _ _ _
            rw [le8_succ, ← List.append_assoc, nums_append (ys := [_])]
            exact HO4.out
          case measure => simp [intOf]; omega
        · obtain rfl : k = 8 := by omega
          have HPL : Hid (padL xs m = zs ++ le8 (8 * (m : Int)) 8) := by
            unfold Hid padL
            rw [HXL.out, HPZ.out, HZS.out, Int.mul_comm]
          obtain ⟨P, hP⟩ : ∃ P, padL xs m = P := ⟨_, rfl⟩
          have HPP := Lib.hid hP
          have hpm := padL_mod xs m
          rw [hP] at HPL hpm
          rw [← HPL.out] at HO5
          have hpl : P.length = m + 1 + z + 8 := by rw [← hP, padL_len, HXL.out, HPZ.out]
          have HPLN := Lib.hid hpl
          have HPM := Lib.hid hpm
          have hm9 : P.length ≤ 140737488355328 := by omega
          clear hP hpm hpl
          rw [show (((8 : Nat)) : Int) = (8 : Int) from rfl]
          have HBP : Hid (Byt P) := by
            unfold Hid
            rw [← HPP.out]
            exact padL_byt HBX.out
          have HCP := Lib.hid (own_cells HO5.out)
          have hc5 : m + 1 + z + 8 ≤ c5 := by
            obtain ⟨_, _, he, h⟩ := own_slice HO5.out
            injection he with _ _ he
            omega
          rw [← HPLN.out] at hc5
          have hgoalN : m + 1 + z + 8 = P.length := HPLN.out.symm
          go_wp2_with fail
          refine (rbegin4_any _).mono ?_
          rintro e w8 ⟨rfl, hb8⟩
          have S8 : Step w8 _ := ⟨hb8⟩
          clear hb8
          rw [begin_nums]
          simp only [nums, List.map_cons, List.map_nil]
          go_wp2
          rw [hgoalN]
          clear hgoalN
          have X8 : Ext wr w8 := inferInstance
          have HX8 : Hid (Ext (w.alloc zB16) w8) := Ext.trans_ XR5 X8
          have HC8 : Hid (Cells w8 A5 (nums .u8 P)) := HCP.out.ext
          have HB0 : Hid (beginW = (beginW.1, beginW.2.1, beginW.2.2.1, beginW.2.2.2)) := rfl
          go_loopw [7] (fun i wr' => ∃ (j : Nat), i = .int .i64 (64 * j : Nat) ∧ 64 * j ≤ P.length ∧ Hid (wr'.heap[w8.heap.size]? = some (cV (mdN beginW P j))) ∧ Hid (Ext w8 wr')) (fun i _ => P.length - (intOf i).toNat)
          case atStart => exact ⟨0, rfl, by omega, at_new w8 _, (inferInstance : Ext w8 (World.alloc _ _))⟩
          case round =>
            obtain ⟨j, rfl, hj, HK6, HX6⟩ := hrel
            have X9 : Ext w8 wr := HX6.out
            have HC6 : Hid (Cells wr A5 (nums .u8 P)) := HC8.out.ext
            obtain ⟨⟨a1, b1, c1, d1⟩, hq⟩ : ∃ q, mdN beginW P j = q := ⟨_, rfl⟩
            rw [hq] at HK6
            by_cases hlt : 64 * j < P.length
            · have h64 : 64 * j + 64 ≤ P.length := by have := HPM.out; omega
              have HPc : P.length ≤ c5 := hc5
              obtain ⟨bs, hbs⟩ : ∃ bs, P.drop (64 * j) = bs := ⟨_, rfl⟩
              have HBB : Hid (Byt (bs.take 64)) := by rw [← hbs]; exact (HBP.out.drop _).take _
              have HBL : Hid ((bs.take 64).length = 64) := by unfold Hid; rw [List.length_take, ← hbs, List.length_drop]; omega
              obtain ⟨⟨a2, b2, c2, d2⟩, hq2⟩ : ∃ q, mdBlock (a1, b1, c1, d1) bs = q := ⟨_, rfl⟩
              have HQ2 : Hid (mdBlock (a1, b1, c1, d1) (bs.take 64) = (a2, b2, c2, d2)) := by
                unfold Hid
                rw [← hq2]
                refine mdBlock_ext _ fun k hk => ?_
                simp only [List.getD_eq_getElem?_getD]
                rw [List.getElem?_take_of_lt hk]
              have HNX : Hid (mdN beginW P (j + 1) = (a2, b2, c2, d2)) := by
                unfold Hid
                rw [mdN, hq, hbs]
                exact hq2
              obtain ⟨ad, rfl, hat⟩ := HC6.out (by rw [nums_length]; omega)
              have HAT := Lib.hid hat
              have HBC : Hid (Cells wr (some (ad.add (64 * j))) (nums .u8 (bs.take 64))) := by
                have h1 := HC6.out.drop (n := P.length) (c := c5) (size := 1) (by rw [nums_length, Nat.mul_one]) HPc (64 * j) (by omega)
                rw [if_neg (by omega), Nat.mul_one, ← nums_drop, hbs] at h1
                have h2 := h1.take 64
                rw [← nums_take] at h2
                exact h2
              clear hq hq2 hbs hat
              have hltI : (64 : Int) * (j : Int) < (P.length : Int) := by omega
              have wi : IntKind.i64.wrap (64 * (j : Int) + 64) = 64 * (j : Int) + 64 := by rw [IntKind.wrap_i64]; omega
              have g0 : (0 : Int) ≤ 64 * (j : Int) := by omega
              have g1 : 64 * (j : Int) ≤ 64 * (j : Int) + 64 := by omega
              have g2 : 64 * (j : Int) + 64 ≤ (c5 : Int) := by omega
              have g3 : (64 * (j : Int)).toNat = 64 * j := by omega
              have g4 : (64 * (j : Int) + 64).toNat = 64 * j + 64 := by omega
              have g5 : ¬ c5 = 64 * j := by omega
              have g6 : 64 * j + 64 - 64 * j = 64 := by omega
              have hcc : 64 ≤ c5 - 64 * j := by omega
              have z9 : w8.heap.size < wr.heap.size := at_lt HK6.out
              go_wp2
              refine wp_region_held_drew (S := fun W => Ext w8 W) (by kernel_rfl) (by exact inferInstance) (fun hHeld => ?_)
              refine wpAnyH_take (i := 1) (v := ?_) rfl (by kernel_rfl) (by kernel_rfl) (by kernel_rfl) (fun _ _ _ h => h) (Yields.yieldsIf (Or.inl ⟨by rfl, ?_⟩)) hHeld ?_
              rotate_left
              · intro W
                go_simp
                try with_reducible rfl
              simp only [List.getElem_toArray, List.getElem_cons_succ, List.getElem_cons_zero, Act.put, List.setIfInBounds_toArray, List.set_cons_zero, List.set_cons_succ]
              refine wpAnyH_take (i := 2) (v := ?_) rfl (by kernel_rfl) (by kernel_rfl) (by kernel_rfl) (fun _ _ _ h => h) (Yields.yieldsIf (Or.inl ⟨by rfl, ?_⟩)) hHeld ?_
              rotate_left
              · intro W
                go_simp
                try with_reducible rfl
              simp only [List.getElem_toArray, List.getElem_cons_succ, List.getElem_cons_zero, Act.put, List.setIfInBounds_toArray, List.set_cons_zero, List.set_cons_succ]
              refine wpAnyH_take (i := 3) (v := ?_) rfl (by kernel_rfl) (by kernel_rfl) (by kernel_rfl) (fun _ _ _ h => h) (Yields.yieldsIf (Or.inl ⟨by rfl, ?_⟩)) hHeld ?_
              rotate_left
              · intro W
                go_simp
                try with_reducible rfl
              simp only [List.getElem_toArray, List.getElem_cons_succ, List.getElem_cons_zero, Act.put, List.setIfInBounds_toArray, List.set_cons_zero, List.set_cons_succ]
              refine wpAnyH_take (i := 4) (v := ?_) rfl (by kernel_rfl) (by kernel_rfl) (by kernel_rfl) (fun _ _ _ h => h) (Yields.yieldsIf (Or.inl ⟨by rfl, ?_⟩)) hHeld ?_
              rotate_left
              · intro W
                go_simp
                try with_reducible rfl
              simp only [List.getElem_toArray, List.getElem_cons_succ, List.getElem_cons_zero, Act.put, List.setIfInBounds_toArray, List.set_cons_zero, List.set_cons_succ]
              refine wpAnyH_take (i := 5) (v := ?_) rfl (by kernel_rfl) (by kernel_rfl) (by kernel_rfl) (fun _ _ _ h => h) (Yields.yieldsIf (Or.inl ⟨by rfl, ?_⟩)) hHeld ?_
              rotate_left
              · intro W
                go_simp
                try with_reducible rfl
              simp only [List.getElem_toArray, List.getElem_cons_succ, List.getElem_cons_zero, Act.put, List.setIfInBounds_toArray, List.set_cons_zero, List.set_cons_succ]
              refine wpAnyH_ready (rs := [0]) (by kernel_rfl) (by simp) ?_
              refine AllReadyH.cons rfl (fun K hK => ?_) AllReadyH.nil
              refine step_load_row (by rfl) 161 (.tmp 6) rfl w8.heap.size rfl 161 #[.int .u32 a1, .int .u32 b1, .int .u32 c1, .int .u32 d1] (0, 0) _ (by exact HK6.out) Try.underlying161 rfl (by kernel_rfl) ?_
              clear hHeld
              refine hK.out _ _ (by exact inferInstance) (fun hHeld => ?_)
              clear hK K
              simp only [List.getElem_toArray, List.getElem_cons_succ, List.getElem_cons_zero, Act.put, List.setIfInBounds_toArray, List.set_cons_zero, List.set_cons_succ]
              refine wpAnyH_ready (rs := [6]) (by kernel_rfl) (by simp) ?_
              refine AllReadyH.cons rfl (fun K hK => ?_) AllReadyH.nil
              refine step_call_w (by rfl) Try.func104 (by kernel_rfl) (by kernel_rfl) #[.tmp 45, .tmp 50] #[161, 22] rfl #[.agg #[.int .u32 a1, .int .u32 b1, .int .u32 c1, .int .u32 d1], .slice (some (ad.add (64 * j))) 64 (c5 - 64 * j)] ?hv (rblock4_any a1 b1 c1 d1 (some (ad.add (64 * j))) 64 (c5 - 64 * j) (bs.take 64) HBL.out (Nat.le_refl _) hcc HBB.out _ (by exact HBC.out.ext)) ?_
              case hv => go_simp
              rintro e w5 ⟨rfl, hb5⟩
              refine ⟨_, rfl, ?_⟩
              rw [HQ2.out]
              simp only
              have S5 : Step w5 _ := ⟨hb5⟩
              have HK5 := Lib.hid (at_ext (w' := w5) HK6.out)
              clear hb5 hHeld
              refine hK.out _ _ (by exact inferInstance) (fun hHeld => ?_)
              clear hK K
              simp only [List.getElem_toArray, List.getElem_cons_succ, List.getElem_cons_zero, Act.put, List.setIfInBounds_toArray, List.set_cons_zero, List.set_cons_succ]
              refine wpAnyH_ready (rs := [7]) (by kernel_rfl) (by simp) ?_
              refine AllReadyH.cons rfl (fun K hK => ?_) AllReadyH.nil
              refine step_store_row (by rfl) 161 (.tmp 6) (.tmp 51) rfl w8.heap.size #[.int .u32 a2, .int .u32 b2, .int .u32 c2, .int .u32 d2] rfl rfl 161 #[.int .u32 a1, .int .u32 b1, .int .u32 c1, .int .u32 d1] HK5.out (by kernel_rfl) rfl (one_all .u32 [a2, b2, c2, d2]) ?_
              clear hHeld
              have X5 : Ext w8 w5 := inferInstance
              refine hK.out _ _ (Ext.setRow_ X5 (Nat.le_refl _) _) (fun hHeld => ?_)
              clear hK K
              simp only [List.getElem_toArray, List.getElem_cons_succ, List.getElem_cons_zero, Act.put, List.setIfInBounds_toArray, List.set_cons_zero, List.set_cons_succ]
              refine wpAnyH_done (by kernel_rfl) ?_ _
              clear hHeld
              go_wp2
              go_roundw
              case rel =>
                refine ⟨j + 1, by go_num, by omega, ?_, Ext.setRow_ X5 (Nat.le_refl _) _⟩
                unfold Hid
                rw [HNX.out]
                exact setRow_heap _ _ _ _ _ _ HK5.out
              case measure => simp [intOf]; omega
            · obtain hjq : 64 * j = P.length := by omega
              have hjI : ¬ (64 : Int) * (j : Int) < (P.length : Int) := by omega
              have HDS : Hid (digest xs = toldS (a1, b1, c1, d1) 16) := by
                unfold Hid
                rw [digest_eq, HXL.out, HPP.out, show P.length / 64 = j by omega, hq]
              have HWK : Hid (WOk (a1, b1, c1, d1)) := by
                unfold Hid
                rw [← hq]
                exact wok_run wok_begin P j
              have HZ0 : Hid ((w.alloc zB16).heap[w.heap.size]? = some zB16) := at_new w _
              have YA : Ext (w.alloc zB16) w8 := HX8.out
              have YW : Ext (w.alloc zB16) wr := Ext.trans_ YA X9
              have HZW := Lib.hid (at_ext (w' := wr) HZ0.out)
              clear hq hjq
              go_wp2_with
                (refine wpList_load_row rfl 161 (.tmp 6) rfl w8.heap.size rfl 161 #[.int .u32 a1, .int .u32 b1, .int .u32 c1, .int .u32 d1] (0, 0) _ HK6.out Try.underlying161 rfl (by kernel_rfl) ?_)
              refine (rtold4_any (a1, b1, c1, d1) HWK.out _).mono ?_
              rintro e w5 ⟨rfl, hb5⟩
              have S5 : Step w5 _ := ⟨hb5⟩
              have HZ5 := Lib.hid (at_ext (w' := w5) HZW.out)
              have hl := toldS_len (a1, b1, c1, d1) 16
              obtain ⟨ts, hts⟩ : ∃ ts, toldS (a1, b1, c1, d1) 16 = ts := ⟨_, rfl⟩
              rw [hts] at hl HDS ⊢
              have HI16 : Hid ((Try.prog.info? 47).map (·.size) = some (nums .u8 ts).toArray.size) := by
                unfold Hid
                rw [List.size_toArray, nums_length, hl]
                kernel_rfl
              have HZ16 : Hid ((nums .u8 (List.replicate 16 0)).toArray.size = (nums .u8 ts).toArray.size) := by
                unfold Hid
                rw [List.size_toArray, List.size_toArray, nums_length, nums_length, hl]
                rfl
              clear hts hl hb5
              have YZ : Ext w w5 := Ext.trans_ (Ext.trans_ (inferInstance : Ext w (w.alloc zB16)) YA) (inferInstance : Ext w8 w5)
              go_wp2_with
                (refine wpList_store_row rfl 47 (.tmp 2) (.tmp 53) rfl w.heap.size (nums .u8 ts).toArray rfl rfl 47 (nums .u8 (List.replicate 16 0)).toArray HZ5.out HI16.out HZ16.out (one_all _ _) ?_)
              exact bodyPost_ret (results_cell_row Try.results72 _ _ w.heap.size 47 _ (0, 0) _ rfl (setRow_heap _ _ _ _ _ _ HZ5.out) Try.underlying47 rfl HI16.out) rfl ⟨by rw [HDS.out], (Ext.setRow_ YZ (Nat.le_refl _) _).out⟩
end Go.Proofs.Ytobddmpiljknpaa
