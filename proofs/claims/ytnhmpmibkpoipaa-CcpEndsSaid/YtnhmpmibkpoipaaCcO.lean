/-
  ccp.Read, the reference's twice and Read. Conditions: the list is no longer than the model's memory.
-/
import Derived.Test.YtnhmpmibkpoipaaCcC
namespace Go.Proofs.Ytnhmpmibkpoipaa
open Go.RowKit
set_option linter.unusedVariables false
set_option linter.unusedSimpArgs false

def rdU (s : Int × Int) (o : Int × List Int) : Int × Int := if o.1 = 26 then (saysF o, s.2) else (s.1, saysF o)
def readC : List (Int × List Int) → List (Int × List Int) → Int × Int → (Int × Int) × Int
  | _, [], s => (s, 0)
  | pre, o :: rest, s => if saysF o = 0 ∨ hasT pre o.1 = true then ((0, 0), 91) else readC (pre ++ [o]) rest (rdU s o)
section
variable {os : List (Int × List Int)} {k : Nat} {s : Int × Int} {o : Int × List Int} {r : (Int × Int) × Int} {pre : List (Int × List Int)}
theorem readC_end (h : readC pre (os.drop k) s = r) (hk : os.length ≤ k) : r = (s, 0) := by
  rw [List.drop_of_length_le hk, readC] at h
  exact h.symm
theorem readC_bad (h : readC (os.take k) (os.drop k) s = r) (ho : os[k]? = some o) (hb : saysF o = 0 ∨ hasT (os.take k) o.1 = true) : r = ((0, 0), 91) := by
  rw [drop_at ho, readC, if_pos hb] at h
  exact h.symm
theorem readC_step (h : readC (os.take k) (os.drop k) s = r) (ho : os[k]? = some o) (hb : ¬ (saysF o = 0 ∨ hasT (os.take k) o.1 = true)) : readC (os.take (k + 1)) (os.drop (k + 1)) (rdU s o) = r := by
  rw [drop_at ho, readC, if_neg hb] at h
  rw [take_snoc ho]
  exact h
end
set_option maxRecDepth 100000 in
set_option maxHeartbeats 2000000 in
theorem twice22_any (A : Option Addr) (n c i : Nat) (vs : List OV) (v : OV) (hn : vs.length = n) (hn' : n ≤ 4398046511104) (hnc : n ≤ c) (hv : vs[i]? = some v) (w : World) (hx : Cells w A (flat vs)) :
    Calls Try.prog 70 #[.slice A n c, .int .i64 i] w fun e w' => e = .returned (.bool (hasT ((vs.map OV.opt).take i) v.t)) ∧ Below w.heap.size w w' := by
  have hi : i < n := by rw [← hn]; exact (List.getElem?_eq_some_iff.1 hv).1
  have Hn := Lib.hid hn
  have HX := Lib.hid hx
  have HV := Lib.hid hv
  obtain ⟨ad, rfl, _, _⟩ := opt_at hx hv
  have hic : i ≤ c := by omega
  have hicI : (i : Int) ≤ (c : Int) := by omega
  have hinI : (i : Int) < (n : Int) := by omega
  have hi0 : (0 : Int) ≤ (i : Int) := by omega
  clear hn hx hv
  go_enter Try.func70, Try.ntmps70
  go_wp2
  go_loopw [11] (fun j wr => ∃ k : Nat, j = .int .i64 k ∧ k ≤ i ∧ Hid (hasT ((vs.map OV.opt).take k) v.t = false) ∧ Hid (Below w.heap.size w wr)) (fun j _ => i - (intOf j).toNat)
  case atStart => exact ⟨0, rfl, by omega, rfl, Below.refl _ _⟩
  case round =>
    obtain ⟨k, rfl, hk, HT, HB⟩ := hrel
    have X0 : Ext w wr := ⟨HB.out⟩
    by_cases hlt : k < i
    · obtain ⟨u, hu, hum⟩ := optD (vs := vs) (k := k) (by rw [Hn.out]; omega)
      obtain ⟨ad', he, hc0, hc1⟩ := opt_at (HX.out.ext (w' := wr)) hu
      injection he with he
      subst he
      have HU : Hid ((vs.map OV.opt)[k]? = some u.opt) := by unfold Hid; rw [List.getElem?_map, hu]; rfl
      have hd0 : ∀ o, (wr.alloc o).cell? (ad.add (i * 2)) = some (.int .i64 v.t) := fun o => by
        obtain ⟨ad', he, hd0, _⟩ := opt_at (HX.out.ext (w' := wr.alloc o)) HV.out
        injection he with he
        subst he
        exact hd0
      clear hu hum
      obtain ⟨t, VA, vn, vc, xs⟩ := u
      obtain ⟨s, UA, un, uc, ys⟩ := v
      simp only at hc0 hc1 hd0 HT ⊢
      by_cases ht : t = s
      · subst ht
        have HH : Hid (hasT ((vs.map OV.opt).take i) t = true) := by
          refine hasT_at (k := k) (o := (t, xs)) ?_ rfl
          rw [List.getElem?_take, if_pos hlt]
          exact HU.out
        go_wp2
        go_quiet (fail)
        go_wp2
        go_ret
        exact ⟨ret_bool HH.out.symm, Ext.out⟩
      · have ht' : (t == s) = false := by simpa using ht
        have HN := Lib.hid (hasT_take HT.out HU.out (show (t, xs).1 ≠ s from ht))
        clear ht
        go_wp2
        go_quiet (fail)
        go_wp2
        go_roundw
        case rel => exact ⟨k + 1, by go_num, by omega, HN, Ext.out⟩
        case measure => simp [intOf]; omega
    · go_wp2
      go_ret
      obtain rfl : k = i := by omega
      exact ⟨ret_bool HT.out.symm, Ext.out⟩
def ReadTells22 (r : (Int × Int) × Int) (w : World) (e : Ending) (w' : World) : Prop := e = .returned (.tuple #[.agg #[.int .i64 r.1.1, .int .i64 r.1.2], .int .i64 r.2]) ∧ Below w.heap.size w w'
theorem readTells22_of {r : (Int × Int) × Int} {a b c : Int} {w w' : World} (h : r = ((a, b), c)) (hb : Below w.heap.size w w') : ReadTells22 r w (.returned (.tuple #[.agg #[.int .i64 a, .int .i64 b], .int .i64 c])) w' := by
  subst h
  exact ⟨rfl, hb⟩
set_option maxRecDepth 100000 in
set_option maxHeartbeats 8000000 in
theorem read22_any (A : Option Addr) (n c : Nat) (vs : List OV) (hn : vs.length = n) (hn' : n ≤ 4398046511104) (hnc : n ≤ c) (w : World) (hx : Cells w A (flat vs)) (gx : Good w vs) :
    Calls Try.prog 21 #[.slice A n c] w (ReadTells22 (readC [] (vs.map OV.opt) (0, 0)) w) := by
  have Hn := Lib.hid hn
  have HX := Lib.hid hx
  have GX := Lib.hid gx
  clear hn hx gx
  obtain ⟨R, hR⟩ : ∃ R, readC [] (vs.map OV.opt) (0, 0) = R := ⟨_, rfl⟩
  have HR := Lib.hid hR
  rw [hR]
  clear hR
  have HI0 : Hid ((((w.alloc (.cells #[.int .i64 0, .int .i64 0] 34)).alloc (.cells #[.int .i64 0, .int .i64 0] 34)).heap[w.heap.size]?) = some (.cells #[.int .i64 0, .int .i64 0] 34 (0, 0))) := at_ext (at_new w _)
  have HI1 : Hid ((((w.alloc (.cells #[.int .i64 0, .int .i64 0] 34)).alloc (.cells #[.int .i64 0, .int .i64 0] 34)).heap[w.heap.size + 1]?) = some (.cells #[.int .i64 0, .int .i64 0] 34 (0, 0))) := at_new1 (by simp)
  go_enter Try.func21, Try.ntmps21
  go_wp2
  go_loopw [12] (fun i wr => ∃ (k : Nat) (d b : Int), i = .int .i64 k ∧ k ≤ n ∧ Hid (readC ((vs.map OV.opt).take k) ((vs.map OV.opt).drop k) (d, b) = R) ∧ Hid (wr.heap[w.heap.size + 1]? = some (.cells #[.int .i64 d, .int .i64 b] 34 (0, 0))) ∧ Hid (wr.heap[w.heap.size]? = some (.cells #[.int .i64 0, .int .i64 0] 34 (0, 0))) ∧ Hid (Below w.heap.size w wr)) (fun i _ => n - (intOf i).toNat)
  case atStart => exact ⟨0, 0, 0, rfl, by omega, HR.out, HI1.out, HI0.out, Ext.out⟩
  case round =>
    obtain ⟨k, d, b, rfl, hk, HRK, HBK, HP0, HB⟩ := hrel
    have X0 : Ext w wr := ⟨HB.out⟩
    by_cases hlt : k < n
    · obtain ⟨v, hv, hvm⟩ := optD (vs := vs) (k := k) (by rw [Hn.out]; exact hlt)
      obtain ⟨ad, rfl, hc0, hc1⟩ := opt_at (HX.out.ext (w' := wr)) hv
      have GV := Lib.hid (GX.out v hvm)
      have HV : Hid ((vs.map OV.opt)[k]? = some v.opt) := by unfold Hid; rw [List.getElem?_map, hv]; rfl
      have hkc : k ≤ c := by omega
      have hkcI : (k : Int) ≤ (c : Int) := by omega
      have hk0 : (0 : Int) ≤ (k : Int) := by omega
      clear hv hvm
      obtain ⟨t, VA, vn, vc, xs⟩ := v
      simp only at hc0 hc1
      by_cases hs : saysF (t, xs) = 0
      · have HE := Lib.hid (readC_bad HRK.out HV.out (.inl hs))
        have HS := Lib.hid hs
        clear hs
        go_wp2_with fail
        refine (bits22_any t VA vn vc xs GV.out.1 GV.out.2.2.2.1 _ (by exact GV.out.2.2.2.2.ext)).mono ?_
        rintro e w1 ⟨rfl, hb1⟩
        rw [HS.out]
        have S1 : Step w1 _ := ⟨hb1⟩
        have P1 := at_ext (w' := w1) (at_new wr (.cells #[.int .i64 t, .slice VA vn vc] 109))
        have p0 : w1.cell? ⟨wr.heap.size, 0, none⟩ = some (.int .i64 t) := at_cell P1 0
        have p1 : ∀ o, (w1.alloc o).cell? ⟨wr.heap.size, 0, none⟩ = some (.int .i64 t) := fun o => cell_ext p0
        have HP1 := Lib.hid P1
        clear P1 hb1
        go_wp2
        go_region_law
          (refine step_call ?hg Try.func68 (by kernel_rfl) (by kernel_rfl) #[.tmp 22, .tmp 24] #[35, 3] ?ho #[.slice (some ad) k c, .int .i64 t] ?hv (find_any (some ad) k c (vs.take k) t ?l1 ?l2 _ ?c1 ?c2) ?_
           (case hg => rfl)
           (case ho => rfl)
           (case hv => go_simp)
           (case l1 => rw [List.length_take, Hn.out]; omega)
           (case l2 => omega)
           (case c1 => exact (HX.out.optTake k).ext)
           (case c2 => exact (GX.out.take k).ext)
           rintro e w2 ⟨t2, A2, n2, c2, rfl, hb2⟩
           refine ⟨_, rfl, ?_⟩
           rw [List.map_take]
           skip
           have S2 : Step w2 _ := ⟨hb2⟩
           first
             | (have Q3 : w2.heap[w1.heap.size]? = some (.cells #[.int .i64 0, .slice none 0 0] 109 (0, 0)) := at_ext (w' := w2) (at_new w1 (.cells #[.int .i64 0, .slice none 0 0] 109))
                have s0 : w2.cell? ⟨w1.heap.size, 0, none⟩ = some (.int .i64 0) := at_cell Q3 0
                have s1 : w2.cell? ⟨w1.heap.size, 1, none⟩ = some (.slice none 0 0) := at_cell Q3 1
                have f4 := at_frozen Q3 0
                have f5 := at_frozen Q3 1
                clear Q3)
             | skip
           clear hb2)
        all_goals first
          | (obtain ⟨W3, hW3⟩ : ∃ W3, w2.alloc (.cells #[.int .i64 t2, .slice A2 n2 c2] 109) = W3 := ⟨_, rfl⟩
             rw [hW3]
             have X3 : Ext w2 W3 := by rw [← hW3]; infer_instance
             have S3 : Step W3 _ := ⟨X3.out⟩
             have HQ0 := Lib.hid (at_ext (w' := W3) HP0.out)
             have HQ1 := Lib.hid (at_ext (w' := W3) HBK.out)
             have HQ2 := Lib.hid (at_ext (w' := W3) HP1.out)
             clear hW3)
          | (obtain ⟨W3, hW3⟩ : ∃ W3, (w2.setCell ⟨w1.heap.size, 0, none⟩ (.int .i64 t2)).setCell ⟨w1.heap.size, 1, none⟩ (.slice A2 n2 c2) = W3 := ⟨_, rfl⟩
             rw [hW3]
             have X3 : Ext w1 W3 := by rw [← hW3]; infer_instance
             have S3 : Step W3 _ := ⟨X3.out⟩
             have HQ0 := Lib.hid (at_ext (w' := W3) HP0.out)
             have HQ1 := Lib.hid (at_ext (w' := W3) HBK.out)
             have HQ2 := Lib.hid (at_ext (w' := W3) HP1.out)
             clear hW3 s0 s1 f4 f5)
        all_goals
          have f0 := at_frozen HQ0.out 0
          have f1 := at_frozen HQ0.out 1
          have f2 := at_frozen HQ1.out 0
          have f3 := at_frozen HQ1.out 1
          have r0 : W3.cell? ⟨w.heap.size, 0, none⟩ = some (.int .i64 0) := at_cell HQ0.out 0
          have r1 : W3.cell? ⟨w.heap.size, 1, none⟩ = some (.int .i64 0) := at_cell HQ0.out 1
          have r2 : W3.cell? ⟨w.heap.size + 1, 0, none⟩ = some (.int .i64 d) := at_cell HQ1.out 0
          have r3 : W3.cell? ⟨w.heap.size + 1, 1, none⟩ = some (.int .i64 b) := at_cell HQ1.out 1
          have r4 : W3.cell? ⟨wr.heap.size, 0, none⟩ = some (.int .i64 t) := at_cell HQ2.out 0
          clear p0 p1
        all_goals
          go_wp2
          have hd0 := at_cell (at_set2 (.int .i64 0) (.int .i64 0) HQ0.out) 0
          have hd1 := at_cell (at_set2 (.int .i64 0) (.int .i64 0) HQ0.out) 1
          simp only [List.getElem?_toArray, List.getElem?_cons_zero, List.getElem?_cons_succ] at hd0 hd1
          exact bodyPost_ret (v := .tuple #[.agg #[.int .i64 0, .int .i64 0], .int .i64 91]) (by simp [results, Try.results21, go_sem, hd0, hd1]) rfl (readTells22_of HE.out Ext.out)
      have hs' : (saysF (t, xs) == 0) = false := by simpa using hs
      obtain ⟨S, hS⟩ : ∃ S, saysF (t, xs) = S := ⟨_, rfl⟩
      have HS := Lib.hid hS
      rw [hS] at hs'
      rcases hT : hasT ((vs.map OV.opt).take k) t with _ | _
      · have HRS := Lib.hid (readC_step HRK.out HV.out (by simp [OV.opt, hs, hT]))
        have HT := Lib.hid hT
        clear hs hS hT
        by_cases ht : t = 26
        · have ht' : (t == 26) = true := by simpa using ht
          have HRN : Hid (readC ((vs.map OV.opt).take (k + 1)) ((vs.map OV.opt).drop (k + 1)) (S, b) = R) := by
            have h := HRS.out
            simp only [rdU, OV.opt, if_pos ht, HS.out] at h
            exact h
          clear ht
          go_wp2_with fail
          refine (bits22_any t VA vn vc xs GV.out.1 GV.out.2.2.2.1 _ (by exact GV.out.2.2.2.2.ext)).mono ?_
          rintro e w1 ⟨rfl, hb1⟩
          rw [HS.out]
          have S1 : Step w1 _ := ⟨hb1⟩
          have P1 := at_ext (w' := w1) (at_new wr (.cells #[.int .i64 t, .slice VA vn vc] 109))
          have p0 : w1.cell? ⟨wr.heap.size, 0, none⟩ = some (.int .i64 t) := at_cell P1 0
          have p1 : ∀ o, (w1.alloc o).cell? ⟨wr.heap.size, 0, none⟩ = some (.int .i64 t) := fun o => cell_ext p0
          have HP1 := Lib.hid P1
          clear P1 hb1
          go_wp2
          go_region_law
            (refine step_call ?hg Try.func68 (by kernel_rfl) (by kernel_rfl) #[.tmp 22, .tmp 24] #[35, 3] ?ho #[.slice (some ad) k c, .int .i64 t] ?hv (find_any (some ad) k c (vs.take k) t ?l1 ?l2 _ ?c1 ?c2) ?_
             (case hg => rfl)
             (case ho => rfl)
             (case hv => go_simp)
             (case l1 => rw [List.length_take, Hn.out]; omega)
             (case l2 => omega)
             (case c1 => exact (HX.out.optTake k).ext)
             (case c2 => exact (GX.out.take k).ext)
             rintro e w2 ⟨t2, A2, n2, c2, rfl, hb2⟩
             refine ⟨_, rfl, ?_⟩
             rw [List.map_take]
             rw [HT.out]
             have S2 : Step w2 _ := ⟨hb2⟩
             first
               | (have Q3 : w2.heap[w1.heap.size]? = some (.cells #[.int .i64 0, .slice none 0 0] 109 (0, 0)) := at_ext (w' := w2) (at_new w1 (.cells #[.int .i64 0, .slice none 0 0] 109))
                  have s0 : w2.cell? ⟨w1.heap.size, 0, none⟩ = some (.int .i64 0) := at_cell Q3 0
                  have s1 : w2.cell? ⟨w1.heap.size, 1, none⟩ = some (.slice none 0 0) := at_cell Q3 1
                  have f4 := at_frozen Q3 0
                  have f5 := at_frozen Q3 1
                  clear Q3)
               | skip
             clear hb2)
          all_goals first
            | (obtain ⟨W3, hW3⟩ : ∃ W3, w2.alloc (.cells #[.int .i64 t2, .slice A2 n2 c2] 109) = W3 := ⟨_, rfl⟩
               rw [hW3]
               have X3 : Ext w2 W3 := by rw [← hW3]; infer_instance
               have S3 : Step W3 _ := ⟨X3.out⟩
               have HQ0 := Lib.hid (at_ext (w' := W3) HP0.out)
               have HQ1 := Lib.hid (at_ext (w' := W3) HBK.out)
               have HQ2 := Lib.hid (at_ext (w' := W3) HP1.out)
               clear hW3)
            | (obtain ⟨W3, hW3⟩ : ∃ W3, (w2.setCell ⟨w1.heap.size, 0, none⟩ (.int .i64 t2)).setCell ⟨w1.heap.size, 1, none⟩ (.slice A2 n2 c2) = W3 := ⟨_, rfl⟩
               rw [hW3]
               have X3 : Ext w1 W3 := by rw [← hW3]; infer_instance
               have S3 : Step W3 _ := ⟨X3.out⟩
               have HQ0 := Lib.hid (at_ext (w' := W3) HP0.out)
               have HQ1 := Lib.hid (at_ext (w' := W3) HBK.out)
               have HQ2 := Lib.hid (at_ext (w' := W3) HP1.out)
               clear hW3 s0 s1 f4 f5)
          all_goals
            have f0 := at_frozen HQ0.out 0
            have f1 := at_frozen HQ0.out 1
            have f2 := at_frozen HQ1.out 0
            have f3 := at_frozen HQ1.out 1
            have r0 : W3.cell? ⟨w.heap.size, 0, none⟩ = some (.int .i64 0) := at_cell HQ0.out 0
            have r1 : W3.cell? ⟨w.heap.size, 1, none⟩ = some (.int .i64 0) := at_cell HQ0.out 1
            have r2 : W3.cell? ⟨w.heap.size + 1, 0, none⟩ = some (.int .i64 d) := at_cell HQ1.out 0
            have r3 : W3.cell? ⟨w.heap.size + 1, 1, none⟩ = some (.int .i64 b) := at_cell HQ1.out 1
            have r4 : W3.cell? ⟨wr.heap.size, 0, none⟩ = some (.int .i64 t) := at_cell HQ2.out 0
            clear p0 p1
          all_goals
            go_wp2
            go_roundw
            case rel => exact ⟨k + 1, S, b, by go_num, by omega, HRN, at_set HQ1.out 0 _, at_other _ HQ0.out (by simp), Ext.out⟩
            case measure => simp [intOf]; omega
        · have ht' : (t == 26) = false := by simpa using ht
          have HRN : Hid (readC ((vs.map OV.opt).take (k + 1)) ((vs.map OV.opt).drop (k + 1)) (d, S) = R) := by
            have h := HRS.out
            simp only [rdU, OV.opt, if_neg ht, HS.out] at h
            exact h
          clear ht
          go_wp2_with fail
          refine (bits22_any t VA vn vc xs GV.out.1 GV.out.2.2.2.1 _ (by exact GV.out.2.2.2.2.ext)).mono ?_
          rintro e w1 ⟨rfl, hb1⟩
          rw [HS.out]
          have S1 : Step w1 _ := ⟨hb1⟩
          have P1 := at_ext (w' := w1) (at_new wr (.cells #[.int .i64 t, .slice VA vn vc] 109))
          have p0 : w1.cell? ⟨wr.heap.size, 0, none⟩ = some (.int .i64 t) := at_cell P1 0
          have p1 : ∀ o, (w1.alloc o).cell? ⟨wr.heap.size, 0, none⟩ = some (.int .i64 t) := fun o => cell_ext p0
          have HP1 := Lib.hid P1
          clear P1 hb1
          go_wp2
          go_region_law
            (refine step_call ?hg Try.func68 (by kernel_rfl) (by kernel_rfl) #[.tmp 22, .tmp 24] #[35, 3] ?ho #[.slice (some ad) k c, .int .i64 t] ?hv (find_any (some ad) k c (vs.take k) t ?l1 ?l2 _ ?c1 ?c2) ?_
             (case hg => rfl)
             (case ho => rfl)
             (case hv => go_simp)
             (case l1 => rw [List.length_take, Hn.out]; omega)
             (case l2 => omega)
             (case c1 => exact (HX.out.optTake k).ext)
             (case c2 => exact (GX.out.take k).ext)
             rintro e w2 ⟨t2, A2, n2, c2, rfl, hb2⟩
             refine ⟨_, rfl, ?_⟩
             rw [List.map_take]
             rw [HT.out]
             have S2 : Step w2 _ := ⟨hb2⟩
             first
               | (have Q3 : w2.heap[w1.heap.size]? = some (.cells #[.int .i64 0, .slice none 0 0] 109 (0, 0)) := at_ext (w' := w2) (at_new w1 (.cells #[.int .i64 0, .slice none 0 0] 109))
                  have s0 : w2.cell? ⟨w1.heap.size, 0, none⟩ = some (.int .i64 0) := at_cell Q3 0
                  have s1 : w2.cell? ⟨w1.heap.size, 1, none⟩ = some (.slice none 0 0) := at_cell Q3 1
                  have f4 := at_frozen Q3 0
                  have f5 := at_frozen Q3 1
                  clear Q3)
               | skip
             clear hb2)
          all_goals first
            | (obtain ⟨W3, hW3⟩ : ∃ W3, w2.alloc (.cells #[.int .i64 t2, .slice A2 n2 c2] 109) = W3 := ⟨_, rfl⟩
               rw [hW3]
               have X3 : Ext w2 W3 := by rw [← hW3]; infer_instance
               have S3 : Step W3 _ := ⟨X3.out⟩
               have HQ0 := Lib.hid (at_ext (w' := W3) HP0.out)
               have HQ1 := Lib.hid (at_ext (w' := W3) HBK.out)
               have HQ2 := Lib.hid (at_ext (w' := W3) HP1.out)
               clear hW3)
            | (obtain ⟨W3, hW3⟩ : ∃ W3, (w2.setCell ⟨w1.heap.size, 0, none⟩ (.int .i64 t2)).setCell ⟨w1.heap.size, 1, none⟩ (.slice A2 n2 c2) = W3 := ⟨_, rfl⟩
               rw [hW3]
               have X3 : Ext w1 W3 := by rw [← hW3]; infer_instance
               have S3 : Step W3 _ := ⟨X3.out⟩
               have HQ0 := Lib.hid (at_ext (w' := W3) HP0.out)
               have HQ1 := Lib.hid (at_ext (w' := W3) HBK.out)
               have HQ2 := Lib.hid (at_ext (w' := W3) HP1.out)
               clear hW3 s0 s1 f4 f5)
          all_goals
            have f0 := at_frozen HQ0.out 0
            have f1 := at_frozen HQ0.out 1
            have f2 := at_frozen HQ1.out 0
            have f3 := at_frozen HQ1.out 1
            have r0 : W3.cell? ⟨w.heap.size, 0, none⟩ = some (.int .i64 0) := at_cell HQ0.out 0
            have r1 : W3.cell? ⟨w.heap.size, 1, none⟩ = some (.int .i64 0) := at_cell HQ0.out 1
            have r2 : W3.cell? ⟨w.heap.size + 1, 0, none⟩ = some (.int .i64 d) := at_cell HQ1.out 0
            have r3 : W3.cell? ⟨w.heap.size + 1, 1, none⟩ = some (.int .i64 b) := at_cell HQ1.out 1
            have r4 : W3.cell? ⟨wr.heap.size, 0, none⟩ = some (.int .i64 t) := at_cell HQ2.out 0
            clear p0 p1
          all_goals
            go_wp2
            go_roundw
            case rel => exact ⟨k + 1, d, S, by go_num, by omega, HRN, at_set HQ1.out 1 _, at_other _ HQ0.out (by simp), Ext.out⟩
            case measure => simp [intOf]; omega
      · have HE := Lib.hid (readC_bad HRK.out HV.out (.inr hT))
        have HT := Lib.hid hT
        clear hs hS hT
        go_wp2_with fail
        refine (bits22_any t VA vn vc xs GV.out.1 GV.out.2.2.2.1 _ (by exact GV.out.2.2.2.2.ext)).mono ?_
        rintro e w1 ⟨rfl, hb1⟩
        rw [HS.out]
        have S1 : Step w1 _ := ⟨hb1⟩
        have P1 := at_ext (w' := w1) (at_new wr (.cells #[.int .i64 t, .slice VA vn vc] 109))
        have p0 : w1.cell? ⟨wr.heap.size, 0, none⟩ = some (.int .i64 t) := at_cell P1 0
        have p1 : ∀ o, (w1.alloc o).cell? ⟨wr.heap.size, 0, none⟩ = some (.int .i64 t) := fun o => cell_ext p0
        have HP1 := Lib.hid P1
        clear P1 hb1
        go_wp2
        go_region_law
          (refine step_call ?hg Try.func68 (by kernel_rfl) (by kernel_rfl) #[.tmp 22, .tmp 24] #[35, 3] ?ho #[.slice (some ad) k c, .int .i64 t] ?hv (find_any (some ad) k c (vs.take k) t ?l1 ?l2 _ ?c1 ?c2) ?_
           (case hg => rfl)
           (case ho => rfl)
           (case hv => go_simp)
           (case l1 => rw [List.length_take, Hn.out]; omega)
           (case l2 => omega)
           (case c1 => exact (HX.out.optTake k).ext)
           (case c2 => exact (GX.out.take k).ext)
           rintro e w2 ⟨t2, A2, n2, c2, rfl, hb2⟩
           refine ⟨_, rfl, ?_⟩
           rw [List.map_take]
           rw [HT.out]
           have S2 : Step w2 _ := ⟨hb2⟩
           first
             | (have Q3 : w2.heap[w1.heap.size]? = some (.cells #[.int .i64 0, .slice none 0 0] 109 (0, 0)) := at_ext (w' := w2) (at_new w1 (.cells #[.int .i64 0, .slice none 0 0] 109))
                have s0 : w2.cell? ⟨w1.heap.size, 0, none⟩ = some (.int .i64 0) := at_cell Q3 0
                have s1 : w2.cell? ⟨w1.heap.size, 1, none⟩ = some (.slice none 0 0) := at_cell Q3 1
                have f4 := at_frozen Q3 0
                have f5 := at_frozen Q3 1
                clear Q3)
             | skip
           clear hb2)
        all_goals first
          | (obtain ⟨W3, hW3⟩ : ∃ W3, w2.alloc (.cells #[.int .i64 t2, .slice A2 n2 c2] 109) = W3 := ⟨_, rfl⟩
             rw [hW3]
             have X3 : Ext w2 W3 := by rw [← hW3]; infer_instance
             have S3 : Step W3 _ := ⟨X3.out⟩
             have HQ0 := Lib.hid (at_ext (w' := W3) HP0.out)
             have HQ1 := Lib.hid (at_ext (w' := W3) HBK.out)
             have HQ2 := Lib.hid (at_ext (w' := W3) HP1.out)
             clear hW3)
          | (obtain ⟨W3, hW3⟩ : ∃ W3, (w2.setCell ⟨w1.heap.size, 0, none⟩ (.int .i64 t2)).setCell ⟨w1.heap.size, 1, none⟩ (.slice A2 n2 c2) = W3 := ⟨_, rfl⟩
             rw [hW3]
             have X3 : Ext w1 W3 := by rw [← hW3]; infer_instance
             have S3 : Step W3 _ := ⟨X3.out⟩
             have HQ0 := Lib.hid (at_ext (w' := W3) HP0.out)
             have HQ1 := Lib.hid (at_ext (w' := W3) HBK.out)
             have HQ2 := Lib.hid (at_ext (w' := W3) HP1.out)
             clear hW3 s0 s1 f4 f5)
        all_goals
          have f0 := at_frozen HQ0.out 0
          have f1 := at_frozen HQ0.out 1
          have f2 := at_frozen HQ1.out 0
          have f3 := at_frozen HQ1.out 1
          have r0 : W3.cell? ⟨w.heap.size, 0, none⟩ = some (.int .i64 0) := at_cell HQ0.out 0
          have r1 : W3.cell? ⟨w.heap.size, 1, none⟩ = some (.int .i64 0) := at_cell HQ0.out 1
          have r2 : W3.cell? ⟨w.heap.size + 1, 0, none⟩ = some (.int .i64 d) := at_cell HQ1.out 0
          have r3 : W3.cell? ⟨w.heap.size + 1, 1, none⟩ = some (.int .i64 b) := at_cell HQ1.out 1
          have r4 : W3.cell? ⟨wr.heap.size, 0, none⟩ = some (.int .i64 t) := at_cell HQ2.out 0
          clear p0 p1
        all_goals
          go_wp2
          have hd0 := at_cell (at_set2 (.int .i64 0) (.int .i64 0) HQ0.out) 0
          have hd1 := at_cell (at_set2 (.int .i64 0) (.int .i64 0) HQ0.out) 1
          simp only [List.getElem?_toArray, List.getElem?_cons_zero, List.getElem?_cons_succ] at hd0 hd1
          exact bodyPost_ret (v := .tuple #[.agg #[.int .i64 0, .int .i64 0], .int .i64 91]) (by simp [results, Try.results21, go_sem, hd0, hd1]) rfl (readTells22_of HE.out Ext.out)
    · have HE := Lib.hid (readC_end HRK.out (by rw [List.length_map, Hn.out]; omega))
      have Q0 := HP0.out
      have Q1 := HBK.out
      have f0 := at_frozen Q0 0
      have f1 := at_frozen Q0 1
      have r0 : wr.cell? ⟨w.heap.size, 0, none⟩ = some (.int .i64 0) := at_cell Q0 0
      have r1 : wr.cell? ⟨w.heap.size, 1, none⟩ = some (.int .i64 0) := at_cell Q0 1
      have r2 : wr.cell? ⟨w.heap.size + 1, 0, none⟩ = some (.int .i64 d) := at_cell Q1 0
      have r3 : wr.cell? ⟨w.heap.size + 1, 1, none⟩ = some (.int .i64 b) := at_cell Q1 1
      clear Q0 Q1
      go_wp2
      have hd0 := at_cell (at_set2 (.int .i64 d) (.int .i64 b) HP0.out) 0
      have hd1 := at_cell (at_set2 (.int .i64 d) (.int .i64 b) HP0.out) 1
      simp only [List.getElem?_toArray, List.getElem?_cons_zero, List.getElem?_cons_succ] at hd0 hd1
      exact bodyPost_ret (v := .tuple #[.agg #[.int .i64 d, .int .i64 b], .int .i64 0]) (by simp [results, Try.results21, go_sem, hd0, hd1]) rfl (readTells22_of HE.out Ext.out)

set_option maxRecDepth 100000 in
set_option maxHeartbeats 8000000 in
theorem rread22_any (A : Option Addr) (n c : Nat) (vs : List OV) (hn : vs.length = n) (hn' : n ≤ 4398046511104) (hnc : n ≤ c) (w : World) (hx : Cells w A (flat vs)) (gx : Good w vs) :
    Calls Try.prog 22 #[.slice A n c] w (ReadTells22 (readC [] (vs.map OV.opt) (0, 0)) w) := by
  have Hn := Lib.hid hn
  have HX := Lib.hid hx
  have GX := Lib.hid gx
  clear hn hx gx
  obtain ⟨R, hR⟩ : ∃ R, readC [] (vs.map OV.opt) (0, 0) = R := ⟨_, rfl⟩
  have HR := Lib.hid hR
  rw [hR]
  clear hR
  have HI0 : Hid ((((w.alloc (.cells #[.int .i64 0, .int .i64 0] 43)).alloc (.cells #[.int .i64 0, .int .i64 0] 43)).heap[w.heap.size]?) = some (.cells #[.int .i64 0, .int .i64 0] 43 (0, 0))) := at_ext (at_new w _)
  have HI1 : Hid ((((w.alloc (.cells #[.int .i64 0, .int .i64 0] 43)).alloc (.cells #[.int .i64 0, .int .i64 0] 43)).heap[w.heap.size + 1]?) = some (.cells #[.int .i64 0, .int .i64 0] 43 (0, 0))) := at_new1 (by simp)
  go_enter Try.func22, Try.ntmps22
  go_wp2
  go_loopw [10] (fun i wr => ∃ (k : Nat) (d b : Int), i = .int .i64 k ∧ k ≤ n ∧ Hid (readC ((vs.map OV.opt).take k) ((vs.map OV.opt).drop k) (d, b) = R) ∧ Hid (wr.heap[w.heap.size + 1]? = some (.cells #[.int .i64 d, .int .i64 b] 43 (0, 0))) ∧ Hid (wr.heap[w.heap.size]? = some (.cells #[.int .i64 0, .int .i64 0] 43 (0, 0))) ∧ Hid (Below w.heap.size w wr)) (fun i _ => n - (intOf i).toNat)
  case atStart => exact ⟨0, 0, 0, rfl, by omega, HR.out, HI1.out, HI0.out, Ext.out⟩
  case round =>
    obtain ⟨k, d, b, rfl, hk, HRK, HBK, HP0, HB⟩ := hrel
    have X0 : Ext w wr := ⟨HB.out⟩
    by_cases hlt : k < n
    · obtain ⟨v, hv, hvm⟩ := optD (vs := vs) (k := k) (by rw [Hn.out]; exact hlt)
      obtain ⟨ad, rfl, hc0, hc1⟩ := opt_at (HX.out.ext (w' := wr)) hv
      have GV := Lib.hid (GX.out v hvm)
      have HV : Hid ((vs.map OV.opt)[k]? = some v.opt) := by unfold Hid; rw [List.getElem?_map, hv]; rfl
      have HVK := Lib.hid hv
      clear hv hvm
      obtain ⟨t, VA, vn, vc, xs⟩ := v
      simp only at hc0 hc1
      by_cases hs : saysF (t, xs) = 0
      · have HE := Lib.hid (readC_bad HRK.out HV.out (.inl hs))
        have HS := Lib.hid hs
        clear hs
        go_wp2_with fail
        refine (says22_any t VA vn vc xs GV.out.1 GV.out.2.2.2.1 _ (by exact GV.out.2.2.2.2.ext)).mono ?_
        rintro e w1 ⟨rfl, hb1⟩
        rw [HS.out]
        have S1 : Step w1 _ := ⟨hb1⟩
        have HP1 := Lib.hid (at_ext (w' := w1) (at_new wr (.cells #[.int .i64 t, .slice VA vn vc] 109)))
        have HQ0 := Lib.hid (at_ext (w' := w1) HP0.out)
        have HQ1 := Lib.hid (at_ext (w' := w1) HBK.out)
        clear hb1
        have f0 := at_frozen HQ0.out 0
        have f1 := at_frozen HQ0.out 1
        have r0 : w1.cell? ⟨w.heap.size, 0, none⟩ = some (.int .i64 0) := at_cell HQ0.out 0
        have r1 : w1.cell? ⟨w.heap.size, 1, none⟩ = some (.int .i64 0) := at_cell HQ0.out 1
        go_wp2
        have hd0 := at_cell (at_set2 (.int .i64 0) (.int .i64 0) HQ0.out) 0
        have hd1 := at_cell (at_set2 (.int .i64 0) (.int .i64 0) HQ0.out) 1
        simp only [List.getElem?_toArray, List.getElem?_cons_zero, List.getElem?_cons_succ] at hd0 hd1
        exact bodyPost_ret (v := .tuple #[.agg #[.int .i64 0, .int .i64 0], .int .i64 91]) (by simp [results, Try.results22, go_sem, hd0, hd1]) rfl (readTells22_of HE.out Ext.out)
      have hs' : (saysF (t, xs) == 0) = false := by simpa using hs
      obtain ⟨S, hS⟩ : ∃ S, saysF (t, xs) = S := ⟨_, rfl⟩
      have HS := Lib.hid hS
      rw [hS] at hs'
      rcases hT : hasT ((vs.map OV.opt).take k) t with _ | _
      · have HRS := Lib.hid (readC_step HRK.out HV.out (by simp [OV.opt, hs, hT]))
        have HT := Lib.hid hT
        clear hs hS hT
        by_cases ht : t = 26
        · have ht' : (t == 26) = true := by simpa using ht
          have HRN : Hid (readC ((vs.map OV.opt).take (k + 1)) ((vs.map OV.opt).drop (k + 1)) (S, b) = R) := by
            have h := HRS.out
            simp only [rdU, OV.opt, if_pos ht, HS.out] at h
            exact h
          clear ht
          go_wp2_with fail
          refine (says22_any t VA vn vc xs GV.out.1 GV.out.2.2.2.1 _ (by exact GV.out.2.2.2.2.ext)).mono ?_
          rintro e w1 ⟨rfl, hb1⟩
          rw [HS.out]
          have S1 : Step w1 _ := ⟨hb1⟩
          have HP1 := Lib.hid (at_ext (w' := w1) (at_new wr (.cells #[.int .i64 t, .slice VA vn vc] 109)))
          have HQ0 := Lib.hid (at_ext (w' := w1) HP0.out)
          have HQ1 := Lib.hid (at_ext (w' := w1) HBK.out)
          clear hb1
          go_wp2_with fail
          refine (twice22_any (some ad) n c k vs _ Hn.out hn' hnc HVK.out _ (by exact HX.out.ext)).mono ?_
          rintro e w2 ⟨rfl, hb2⟩
          rw [HT.out]
          have S2 : Step w2 _ := ⟨hb2⟩
          have HP1 := Lib.hid (at_ext (w' := w2) HP1.out)
          have HQ0 := Lib.hid (at_ext (w' := w2) HP0.out)
          have HQ1 := Lib.hid (at_ext (w' := w2) HBK.out)
          clear hb2
          have f2 := at_frozen HQ1.out 0
          have f3 := at_frozen HQ1.out 1
          have r2 : w2.cell? ⟨w.heap.size + 1, 0, none⟩ = some (.int .i64 d) := at_cell HQ1.out 0
          have r3 : w2.cell? ⟨w.heap.size + 1, 1, none⟩ = some (.int .i64 b) := at_cell HQ1.out 1
          have r4 : w2.cell? ⟨wr.heap.size, 0, none⟩ = some (.int .i64 t) := at_cell HP1.out 0
          go_wp2
          go_roundw
          case rel => exact ⟨k + 1, S, b, by go_num, by omega, HRN, at_set HQ1.out 0 _, at_other _ HQ0.out (by simp), Ext.out⟩
          case measure => simp [intOf]; omega
        · have ht' : (t == 26) = false := by simpa using ht
          have HRN : Hid (readC ((vs.map OV.opt).take (k + 1)) ((vs.map OV.opt).drop (k + 1)) (d, S) = R) := by
            have h := HRS.out
            simp only [rdU, OV.opt, if_neg ht, HS.out] at h
            exact h
          clear ht
          go_wp2_with fail
          refine (says22_any t VA vn vc xs GV.out.1 GV.out.2.2.2.1 _ (by exact GV.out.2.2.2.2.ext)).mono ?_
          rintro e w1 ⟨rfl, hb1⟩
          rw [HS.out]
          have S1 : Step w1 _ := ⟨hb1⟩
          have HP1 := Lib.hid (at_ext (w' := w1) (at_new wr (.cells #[.int .i64 t, .slice VA vn vc] 109)))
          have HQ0 := Lib.hid (at_ext (w' := w1) HP0.out)
          have HQ1 := Lib.hid (at_ext (w' := w1) HBK.out)
          clear hb1
          go_wp2_with fail
          refine (twice22_any (some ad) n c k vs _ Hn.out hn' hnc HVK.out _ (by exact HX.out.ext)).mono ?_
          rintro e w2 ⟨rfl, hb2⟩
          rw [HT.out]
          have S2 : Step w2 _ := ⟨hb2⟩
          have HP1 := Lib.hid (at_ext (w' := w2) HP1.out)
          have HQ0 := Lib.hid (at_ext (w' := w2) HP0.out)
          have HQ1 := Lib.hid (at_ext (w' := w2) HBK.out)
          clear hb2
          have f2 := at_frozen HQ1.out 0
          have f3 := at_frozen HQ1.out 1
          have r2 : w2.cell? ⟨w.heap.size + 1, 0, none⟩ = some (.int .i64 d) := at_cell HQ1.out 0
          have r3 : w2.cell? ⟨w.heap.size + 1, 1, none⟩ = some (.int .i64 b) := at_cell HQ1.out 1
          have r4 : w2.cell? ⟨wr.heap.size, 0, none⟩ = some (.int .i64 t) := at_cell HP1.out 0
          go_wp2
          go_roundw
          case rel => exact ⟨k + 1, d, S, by go_num, by omega, HRN, at_set HQ1.out 1 _, at_other _ HQ0.out (by simp), Ext.out⟩
          case measure => simp [intOf]; omega
      · have HE := Lib.hid (readC_bad HRK.out HV.out (.inr hT))
        have HT := Lib.hid hT
        clear hs hS hT
        go_wp2_with fail
        refine (says22_any t VA vn vc xs GV.out.1 GV.out.2.2.2.1 _ (by exact GV.out.2.2.2.2.ext)).mono ?_
        rintro e w1 ⟨rfl, hb1⟩
        rw [HS.out]
        have S1 : Step w1 _ := ⟨hb1⟩
        have HP1 := Lib.hid (at_ext (w' := w1) (at_new wr (.cells #[.int .i64 t, .slice VA vn vc] 109)))
        have HQ0 := Lib.hid (at_ext (w' := w1) HP0.out)
        have HQ1 := Lib.hid (at_ext (w' := w1) HBK.out)
        clear hb1
        go_wp2_with fail
        refine (twice22_any (some ad) n c k vs _ Hn.out hn' hnc HVK.out _ (by exact HX.out.ext)).mono ?_
        rintro e w2 ⟨rfl, hb2⟩
        rw [HT.out]
        have S2 : Step w2 _ := ⟨hb2⟩
        have HP1 := Lib.hid (at_ext (w' := w2) HP1.out)
        have HQ0 := Lib.hid (at_ext (w' := w2) HP0.out)
        have HQ1 := Lib.hid (at_ext (w' := w2) HBK.out)
        clear hb2
        have f0 := at_frozen HQ0.out 0
        have f1 := at_frozen HQ0.out 1
        have r0 : w2.cell? ⟨w.heap.size, 0, none⟩ = some (.int .i64 0) := at_cell HQ0.out 0
        have r1 : w2.cell? ⟨w.heap.size, 1, none⟩ = some (.int .i64 0) := at_cell HQ0.out 1
        go_wp2
        have hd0 := at_cell (at_set2 (.int .i64 0) (.int .i64 0) HQ0.out) 0
        have hd1 := at_cell (at_set2 (.int .i64 0) (.int .i64 0) HQ0.out) 1
        simp only [List.getElem?_toArray, List.getElem?_cons_zero, List.getElem?_cons_succ] at hd0 hd1
        exact bodyPost_ret (v := .tuple #[.agg #[.int .i64 0, .int .i64 0], .int .i64 91]) (by simp [results, Try.results22, go_sem, hd0, hd1]) rfl (readTells22_of HE.out Ext.out)
    · have HE := Lib.hid (readC_end HRK.out (by rw [List.length_map, Hn.out]; omega))
      have Q0 := HP0.out
      have Q1 := HBK.out
      have f0 := at_frozen Q0 0
      have f1 := at_frozen Q0 1
      have r0 : wr.cell? ⟨w.heap.size, 0, none⟩ = some (.int .i64 0) := at_cell Q0 0
      have r1 : wr.cell? ⟨w.heap.size, 1, none⟩ = some (.int .i64 0) := at_cell Q0 1
      have r2 : wr.cell? ⟨w.heap.size + 1, 0, none⟩ = some (.int .i64 d) := at_cell Q1 0
      have r3 : wr.cell? ⟨w.heap.size + 1, 1, none⟩ = some (.int .i64 b) := at_cell Q1 1
      clear Q0 Q1
      go_wp2
      have hd0 := at_cell (at_set2 (.int .i64 d) (.int .i64 b) HP0.out) 0
      have hd1 := at_cell (at_set2 (.int .i64 d) (.int .i64 b) HP0.out) 1
      simp only [List.getElem?_toArray, List.getElem?_cons_zero, List.getElem?_cons_succ] at hd0 hd1
      exact bodyPost_ret (v := .tuple #[.agg #[.int .i64 d, .int .i64 b], .int .i64 0]) (by simp [results, Try.results22, go_sem, hd0, hd1]) rfl (readTells22_of HE.out Ext.out)
end Go.Proofs.Ytnhmpmibkpoipaa
