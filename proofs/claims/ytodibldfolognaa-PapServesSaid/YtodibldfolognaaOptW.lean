/-
  Lists of options that a call makes; what opt.again and opt.Without tell. No condition beyond sizes.
-/
import Derived.Test.YtodibldfolognaaOptL
namespace Go.Proofs.Ytodibldfolognaa
open Go.RowKit
set_option linter.unusedVariables false
set_option linter.unusedSimpArgs false

set_option maxRecDepth 100000 in
set_option maxHeartbeats 1000000 in
theorem again9_any (t : Int) (A : Option Addr) (n c : Nat) (xs : List Int) (hn : xs.length = n) (hn' : n ≤ 140737488355300) (w : World) (hx : Cells w A (nums .u8 xs)) :
    Calls Try.prog 119 #[.agg #[.int .i64 t, .slice A n c]] w fun e w' => ∃ A' c', e = .returned (.agg #[.int .i64 t, .slice A' n c']) ∧ w'.ownsRow w.heap.size 5 1 (.slice A' n c') n (nums .u8 xs) ∧ Below w.heap.size w w' := by
  have HX := Lib.hid hx
  have Hn := Lib.hid hn
  clear hx hn
  go_enter Try.func119, Try.ntmps119
  go_wp2
  go_region_law
    (refine step_call ?hg Try.func117 (by kernel_rfl) (by kernel_rfl) #[.tmp 6] #[41] ?ho #[.slice A n c] ?hv (clone_any A n c xs Hn.out hn' _ ?c1) ?_
     (case hg => rfl)
     (case ho => rfl)
     (case hv => go_simp)
     (case c1 => exact Cells.ext HX.out)
     rintro e w1 ⟨v1, rfl, ho1, hb1⟩
     obtain ⟨A1, c1, rfl, hc1⟩ := own_slice ho1
     have S1 : Step w1 _ := ⟨hb1⟩
     have P0 := at_ext (w' := w1) (at_new1 (w := w) (o := .cells #[.int .i64 t, .slice A n c] 119) rfl)
     have P1 := at_ext (w' := w1) (at_new1 (w := w.alloc (.cells #[.int .i64 t, .slice A n c] 119)) (o := .cells #[.int .i64 0, .slice none 0 0] 119) (g := w.heap.size + 1) (by simp))
     have p0 : w1.cell? ⟨w.heap.size, 0, none⟩ = some (.int .i64 t) := at_cell P0 0
     have p1 : w1.cell? ⟨w.heap.size, 1, none⟩ = some (.slice A n c) := at_cell P0 1
     have r0 : w1.cell? ⟨w.heap.size + 1, 0, none⟩ = some (.int .i64 0) := at_cell P1 0
     have r1 : w1.cell? ⟨w.heap.size + 1, 1, none⟩ = some (.slice none 0 0) := at_cell P1 1
     have f0 := at_frozen P1 0
     have f1 := at_frozen P1 1
     have hd0 := at_cell (at_set2 (.int .i64 t) (.slice A1 n c1) P1) 0
     have hd1 := at_cell (at_set2 (.int .i64 t) (.slice A1 n c1) P1) 1
     have HO1 := Lib.hid ho1
     have HD0 := Lib.hid hd0
     have HD1 := Lib.hid hd1
     clear P0 P1 ho1 hb1 hd0 hd1
     refine ⟨_, rfl, ?_⟩)
  all_goals go_wp2
  all_goals
    have hd0 := HD0.out
    have hd1 := HD1.out
    simp only [List.getElem?_toArray, List.getElem?_cons_zero, List.getElem?_cons_succ] at hd0 hd1
    exact bodyPost_ret (v := .agg #[.int .i64 t, .slice A1 n c1]) (by simp [results, Try.results119, go_sem, hd0, hd1]) rfl ⟨A1, c1, rfl, own_weaken (own_young (own_young HO1.out (by simp)) (by simp)) (by simp; omega), Ext.out⟩
/-- A list of options that a call has made: the list and all that hangs on it lie in blocks of their own. -/
def OptsOwn (w : World) (base : Nat) (v : Value) (vs : List OV) : Prop :=
  w.ownsRow base 119 2 v vs.length (flat vs) ∧ OwnAll w base vs ∧ Apart vs v.ownBlock ∧ vs.Pairwise (fun a b => a.blk = none ∨ a.blk ≠ b.blk) ∧ ∀ u ∈ vs, u.d.length = u.n ∧ u.n ≤ 140737488355300 ∧ Byt u.d
section
variable {w w' W W1 w2 : World} {base B : Nat} {v L v2 : Value} {vs : List OV} {u : OV}
theorem OptsOwn.nil_ (w : World) (base : Nat) : OptsOwn w base (.slice none 0 0) [] := ⟨own_nil _ _ _ _, OwnAll.nil_ _ _, Apart.nil_ _, List.Pairwise.nil, fun v hv => by simp at hv⟩
theorem OptsOwn.ext [h : Ext w w'] (k : OptsOwn w base v vs) : OptsOwn w' base v vs := ⟨own_below k.1 h.out, k.2.1.below h.out, k.2.2⟩
theorem OptsOwn.good (k : OptsOwn w base v vs) : Good w vs := fun u hu => by
  obtain ⟨h1, h2, h3⟩ := k.2.2.2.2 u hu
  have ho := k.2.1 u hu
  obtain ⟨A, c, he, hc⟩ := own_slice ho
  injection he with _ _ he
  exact ⟨h1, by omega, h2, h3, own_cells ho⟩
theorem OptsOwn.weaken {b' : Nat} (h : b' ≤ base) (k : OptsOwn w base v vs) : OptsOwn w b' v vs := ⟨own_weaken k.1 h, fun u hu => own_weaken (k.2.1 u hu) h, k.2.2⟩
theorem OptsOwn.push (H : OptsOwn W B L vs) (hB : B ≤ W.heap.size) (e1 : Ext W W1) (ho1 : W1.ownsRow W.heap.size 5 1 (.slice u.A u.n u.c) u.n (nums .u8 u.d)) (hok : u.d.length = u.n ∧ u.n ≤ 140737488355300 ∧ Byt u.d)
    (ho2 : w2.ownsRow B 119 2 v2 (vs.length + 1) (flat vs ++ u.cells)) (hg : W1.grownBy w2 L.ownBlock) (hat : v2.ownBlock = L.ownBlock ∨ ∃ b, v2.ownBlock = some b ∧ W1.heap.size ≤ b) : OptsOwn w2 B v2 (vs ++ [u]) := by
  obtain ⟨HO, HA, HD, HP, HV⟩ := H
  have hz1 : W.heap.size ≤ W1.heap.size := e1.out.size
  have hl1 : ∀ b, u.blk = some b → b < W1.heap.size ∧ W.heap.size ≤ b := fun b hb => ⟨own_lt ho1 b hb, own_base ho1 b hb⟩
  have hL : ∀ b, L.ownBlock = some b → b < W.heap.size ∧ B ≤ b := fun b hb => ⟨own_lt HO b hb, own_base HO b hb⟩
  have hv : ∀ x ∈ vs, ∀ b, x.blk = some b → b < W.heap.size := fun x hx b hb => own_lt (HA x hx) b hb
  refine ⟨?_, ?_, ?_, ?_, ?_⟩
  · rw [flat_append, List.length_append, List.length_singleton]
    simpa [flat] using ho2
  · refine OwnAll.append ?_ ?_
    · exact (HA.below e1.out).grown hg fun k hk x hx he => HD x hx k he hk
    · intro x hx
      simp at hx
      subst hx
      refine own_weaken (own_grown ho1 hg ?_) hB
      rcases he : (Value.slice x.A x.n x.c).ownBlock with _ | b
      · exact .inl rfl
      · refine .inr fun h1 => ?_
        have h2 := (hL b h1.symm).1
        have h3 := (hl1 b he).2
        omega
  · intro x hx b hb he
    rcases hat with hat | ⟨b', hat, hb'⟩
    · rw [hat] at he
      rcases List.mem_append.1 hx with hx | hx
      · exact HD x hx b hb he
      · simp at hx
        subst hx
        have h2 := (hL b he).1
        have h3 := (hl1 b hb).2
        omega
    · rw [hat] at he
      injection he with he
      rcases List.mem_append.1 hx with hx | hx
      · have := hv x hx b hb
        omega
      · simp at hx
        subst hx
        have h3 := (hl1 b hb).1
        omega
  · rw [List.pairwise_append]
    refine ⟨HP, List.pairwise_singleton _ _, fun x hx y hy => ?_⟩
    simp at hy
    subst hy
    rcases hb : x.blk with _ | b
    · exact .inl rfl
    · refine .inr fun he => ?_
      have h1 := hv x hx b hb
      have h2 := (hl1 b he.symm).2
      omega
  · intro x hx
    rcases List.mem_append.1 hx with hx | hx
    · exact HV x hx
    · simp at hx
      subst hx
      exact hok
end

def withoutF (ks : List Int) (os : List (Int × List Int)) : List (Int × List Int) := os.filter fun o => !hasK ks o.1
theorem withoutF_snoc_no {ks : List Int} {os : List (Int × List Int)} {o : Int × List Int} (h : hasK ks o.1 = true) : withoutF ks (os ++ [o]) = withoutF ks os := by simp [withoutF, h]
theorem withoutF_snoc_yes {ks : List Int} {os : List (Int × List Int)} {o : Int × List Int} (h : hasK ks o.1 = false) : withoutF ks (os ++ [o]) = withoutF ks os ++ [o] := by simp [withoutF, h]
theorem take_snoc {α : Type} {xs : List α} {k : Nat} {x : α} (h : xs[k]? = some x) : xs.take (k + 1) = xs.take k ++ [x] := by rw [List.take_add_one, h]; rfl
def WithoutTells (ks : List Int) (os : List (Int × List Int)) (w : World) (e : Ending) (w' : World) : Prop :=
  ∃ v us, e = .returned v ∧ OptsOwn w' w.heap.size v us ∧ us.map OV.opt = withoutF ks os ∧ Below w.heap.size w w'
set_option maxRecDepth 100000 in
set_option maxHeartbeats 1000000 in
theorem without_any (A K : Option Addr) (n c m d : Nat) (vs : List OV) (ks : List Int) (hn : vs.length = n) (hm : ks.length = m) (hn' : n ≤ 4398046511104) (hm' : m ≤ 9223372036854775807)
    (w : World) (hx : Cells w A (flat vs)) (gx : Good w vs) (hk : Cells w K (nums .i64 ks)) :
    Calls Try.prog 85 #[.slice A n c, .slice K m d] w (WithoutTells ks (vs.map OV.opt) w) := by
  have Hn := Lib.hid hn
  have Hm := Lib.hid hm
  have HX := Lib.hid hx
  have GX := Lib.hid gx
  have HK := Lib.hid hk
  clear hn hm hx gx hk
  go_enter Try.func85, Try.ntmps85
  go_wp2
  go_loopw [5, 10] (fun o i wr => ∃ (k : Nat) (us : List OV), i = .int .i64 k ∧ k ≤ n ∧ us.length ≤ k ∧ Hid (OptsOwn wr w.heap.size o us) ∧ Hid (us.map OV.opt = withoutF ks ((vs.map OV.opt).take k)) ∧ Hid (Below w.heap.size w wr)) (fun _ i _ => n - (intOf i).toNat)
  case atStart => exact ⟨0, [], rfl, by omega, by simp, OptsOwn.nil_ _ _, rfl, Below.refl _ _⟩
  case round =>
    obtain ⟨k, us, rfl, hk, hu, HO, HE, HB⟩ := hrel
    have X0 : Ext w wr := ⟨HB.out⟩
    obtain ⟨L, cl, rfl, hcl⟩ := own_slice HO.out.1
    by_cases hlt : k < n
    · obtain ⟨v, hv, hvm⟩ := optD (vs := vs) (k := k) (by rw [Hn.out]; exact hlt)
      obtain ⟨ad, rfl, hc0, hc1⟩ := opt_at (HX.out.ext (w' := wr)) hv
      have GV := Lib.hid (GX.out v hvm)
      have HT : Hid ((vs.map OV.opt).take (k + 1) = (vs.map OV.opt).take k ++ [v.opt]) := take_snoc (by rw [List.getElem?_map, hv]; rfl)
      clear hv hvm
      obtain ⟨t, VA, vn, vc, xs⟩ := v
      simp only at hc0 hc1
      rcases hK : hasK ks t with _ | _
      · have HKK := Lib.hid hK
        clear hK
        go_wp2_with fail
        refine (contains_any K m d ks t Hm.out hm' _ (by exact HK.out.ext)).mono ?_
        rintro e w' ⟨rfl, rfl⟩
        rw [HKK.out]
        go_wp2_with fail
        refine (again9_any t VA vn vc xs GV.out.1 GV.out.2.2.1 _ (by exact GV.out.2.2.2.2.ext)).mono ?_
        rintro e w1 ⟨A1, c1, rfl, ho1, hb1⟩
        have S1 : Step w1 _ := ⟨hb1⟩
        have X1 : Ext wr w1 := inferInstance
        have X2 : Ext w w1 := inferInstance
        have HO1 := Lib.hid (own_weaken (base' := wr.heap.size) ho1 (by simp))
        clear ho1 hb1
        go_wp2_with
          (at_builtin
           refine wp_append_box (w0 := w) w.heap.size rfl (.tmp 19) (.tmp 22) 29 119 (.agg #[.int .i64 0, .slice none 0 0]) 2 32 1 rfl Try.underlying29 info_opt rfl (by decide) (by decide) (.slice L us.length cl) us.length (flat us) [.int .i64 t, .slice A1 vn c1] rfl rfl rfl (flat_one [⟨t, A1, vn, c1, []⟩]) (own_ext HO.out.1) X2.out X2.out.size ?_ ?_
           · omega
           intro v2 w2 ho2 hb2 hg2 hat2
           obtain ⟨A2, c2, rfl, hc2⟩ := own_slice ho2
           have HO2 := Lib.hid (OptsOwn.push (u := ⟨t, A1, vn, c1, xs⟩) HO.out X0.out.size X1 HO1.out ⟨GV.out.1, GV.out.2.2.1, GV.out.2.2.2.1⟩ ho2 hg2 hat2)
           have HB2 := Lib.hid hb2
           clear ho2 hb2 hg2 hat2)
        go_roundw
        case rel =>
          refine ⟨k + 1, us ++ [⟨t, A1, vn, c1, xs⟩], by go_num, by omega, by simp; omega, ?_, ?_, HB2.out⟩
          · exact HO2.out
          · show _ = _
            rw [HT.out, withoutF_snoc_yes (by exact HKK.out), ← HE.out, List.map_append]
            rfl
        case measure => simp [intOf]; omega
      · have HKK := Lib.hid hK
        clear hK
        go_wp2_with fail
        refine (contains_any K m d ks t Hm.out hm' _ (by exact HK.out.ext)).mono ?_
        rintro e w' ⟨rfl, rfl⟩
        rw [HKK.out]
        go_wp2_with fail
        go_roundw
        case rel =>
          refine ⟨k + 1, us, by go_num, by omega, by omega, HO.out.ext, ?_, Ext.out⟩
          show _ = _
          rw [HT.out, withoutF_snoc_no (by exact HKK.out), ← HE.out]
        case measure => simp [intOf]; omega
    · go_wp2
      go_ret
      obtain rfl : k = n := by omega
      refine ⟨_, us, rfl, HO.out, ?_, HB.out⟩
      rw [HE.out, List.take_of_length_le (by rw [List.length_map, Hn.out]; omega)]
end Go.Proofs.Ytodibldfolognaa
