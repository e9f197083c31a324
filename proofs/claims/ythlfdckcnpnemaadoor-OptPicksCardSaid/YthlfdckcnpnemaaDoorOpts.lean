/-
  Lists of options in memory; what opt.Options tells. Conditions: the list is no longer than the model's memory.
-/
import Derived.Test.YthlfdckcnpnemaaDoorOpt
import Derived.Test.YthlfdckcnpnemaaDoorBase2
namespace Go.Proofs.YthlfdckcnpnemaaDoor
open Go.RowKit
set_option linter.unusedVariables false
set_option linter.unusedSimpArgs false

theorem wrap64 (n : Int) (h₀ : 0 ≤ n) (h₁ : n < 2 ^ 63) : IntKind.i64.wrap n = n := by rw [IntKind.wrap_i64]; omega
/-- An option as it lies: its type, and the slice that holds d. -/
structure OV where
  t : Int
  A : Option Addr
  n : Nat
  c : Nat
  d : List Int
def OV.cells (v : OV) : List Value := [.int .i64 v.t, .slice v.A v.n v.c]
def OV.opt (v : OV) : Int × List Int := (v.t, v.d)
def flat (vs : List OV) : List Value := vs.flatMap OV.cells
theorem flat_nil : flat [] = [] := rfl
theorem flat_cons (v : OV) (vs : List OV) : flat (v :: vs) = .int .i64 v.t :: .slice v.A v.n v.c :: flat vs := rfl
theorem flat_append (a b : List OV) : flat (a ++ b) = flat a ++ flat b := by simp [flat]
theorem flat_length (vs : List OV) : (flat vs).length = vs.length * 2 := by
  induction vs with
  | nil => rfl
  | cons v vs ih => simp [flat_cons, ih]; omega
theorem flat_one (vs : List OV) : ∀ u ∈ flat vs, u.oneCell' = true := by
  intro u hu
  simp only [flat, List.mem_flatMap, OV.cells, List.mem_cons, List.not_mem_nil, or_false] at hu
  obtain ⟨v, _, rfl | rfl⟩ := hu <;> rfl
theorem flat_get {vs : List OV} {i : Nat} {v : OV} (h : vs[i]? = some v) : (flat vs)[i * 2]? = some (.int .i64 v.t) ∧ (flat vs)[i * 2 + 1]? = some (.slice v.A v.n v.c) := by
  induction vs generalizing i with
  | nil => simp at h
  | cons x vs ih =>
    rw [flat_cons]
    cases i with
    | zero => simp at h; subst h; simp
    | succ i =>
      have h1 := ih (i := i) (by simpa using h)
      rw [show (i + 1) * 2 = i * 2 + 1 + 1 by omega]
      simpa using h1
def OV.Ok (w : World) (v : OV) : Prop := v.d.length = v.n ∧ v.n ≤ v.c ∧ v.n ≤ 140737488355300 ∧ Byt v.d ∧ Cells w v.A (nums .u8 v.d)
def Good (w : World) (vs : List OV) : Prop := ∀ v ∈ vs, v.Ok w
def OwnAll (w : World) (base : Nat) (vs : List OV) : Prop := ∀ v ∈ vs, w.ownsRow base 5 1 (.slice v.A v.n v.c) v.n (nums .u8 v.d)
section
variable {w w1 : World} {vs : List OV} {base : Nat}
theorem OV.Ok.below {v : OV} (h : v.Ok w) (hb : Below w.heap.size w w1) : v.Ok w1 := ⟨h.1, h.2.1, h.2.2.1, h.2.2.2.1, h.2.2.2.2.below hb⟩
theorem Good.below (h : Good w vs) (hb : Below w.heap.size w w1) : Good w1 vs := fun v hv => (h v hv).below hb
theorem Good.drawn (h : Good w vs) (hd : Drawn w w1) : Good w1 vs := h.below hd.below
theorem Good.append {us : List OV} (h : Good w vs) (k : Good w us) : Good w (vs ++ us) := fun v hv => by
  rcases List.mem_append.1 hv with hv | hv
  · exact h v hv
  · exact k v hv
theorem OwnAll.below (h : OwnAll w base vs) (hb : Below w.heap.size w w1) : OwnAll w1 base vs := fun v hv => own_below (h v hv) hb
theorem OwnAll.grown {row : Option Nat} (h : OwnAll w base vs) (hg : w.grownBy w1 row) (hr : ∀ k, row = some k → ∀ v ∈ vs, (Value.slice v.A v.n v.c).ownBlock ≠ some k) : OwnAll w1 base vs := fun v hv => own_grown (h v hv) hg (by
  rcases he : (Value.slice v.A v.n v.c).ownBlock with _ | b
  · exact .inl rfl
  · refine .inr fun h1 => hr b h1.symm v hv he)
theorem OwnAll.nil_ (w : World) (base : Nat) : OwnAll w base [] := fun v hv => by simp at hv
theorem OwnAll.append {us : List OV} (h : OwnAll w base vs) (k : OwnAll w base us) : OwnAll w base (vs ++ us) := fun v hv => by
  rcases List.mem_append.1 hv with hv | hv
  · exact h v hv
  · exact k v hv
end

def OV.blk (v : OV) : Option Nat := (Value.slice v.A v.n v.c).ownBlock
/-- No option's bytes lie where the list itself does. -/
def Apart (vs : List OV) (L : Option Nat) : Prop := ∀ v ∈ vs, ∀ b, v.blk = some b → L ≠ some b
theorem Apart.nil_ (L : Option Nat) : Apart [] L := fun v hv => by simp at hv
theorem opts_push {O : TypeId} {w wr w1 w2 : World} {vs : List OV} {L v2 : Value} {q : Nat} {v : OV} {x : Obj} (HB : Below w.heap.size w wr) (HO : wr.ownsRow w.heap.size O 2 L q (flat vs)) (HA : OwnAll wr w.heap.size vs) (HD : Apart vs L.ownBlock)
    (hb1 : Below wr.heap.size wr w1) (ho1 : w1.ownsRow wr.heap.size 5 1 (.slice v.A v.n v.c) v.n (nums .u8 v.d)) (ho2 : w2.ownsRow w.heap.size O 2 v2 (q + 1) (flat vs ++ v.cells)) (hg : (w1.alloc x).grownBy w2 L.ownBlock) (hat : v2.ownBlock = L.ownBlock ∨ v2.ownBlock = some (w1.alloc x).heap.size) :
    ∃ A2 c2, v2 = .slice A2 (q + 1) c2 ∧ Hid (w2.ownsRow w.heap.size O 2 v2 (q + 1) (flat (vs ++ [v]))) ∧ Hid (OwnAll w2 w.heap.size (vs ++ [v])) ∧ Hid (Apart (vs ++ [v]) v2.ownBlock) ∧ Hid (Below w.heap.size w w2) := by
  have hz : w.heap.size ≤ wr.heap.size := HB.size
  have hz1 : wr.heap.size ≤ w1.heap.size := hb1.size
  have hz2 : (w1.alloc x).heap.size = w1.heap.size + 1 := World.size_alloc w1 x
  have hl1 : ∀ b, v.blk = some b → b < w1.heap.size ∧ wr.heap.size ≤ b := fun b hb => ⟨own_lt ho1 b hb, own_base ho1 b hb⟩
  have hL : ∀ b, L.ownBlock = some b → b < wr.heap.size ∧ w.heap.size ≤ b := fun b hb => ⟨own_lt HO b hb, own_base HO b hb⟩
  have hb2 : Below w.heap.size w w2 := ((HB.trans (hb1.mono hz)).alloc (by omega) x).grown hg (by omega) (fun k hk => (hL k hk).2)
  have hv : ∀ u ∈ vs, ∀ b, u.blk = some b → b < wr.heap.size := fun u hu b hb => own_lt (HA u hu) b hb
  obtain ⟨A2, c2, rfl, _⟩ := own_slice ho2
  refine ⟨A2, c2, rfl, ?_, ?_, ?_, hb2⟩
  · show w2.ownsRow _ _ _ _ _ _
    rw [flat_append]
    simpa [flat] using ho2
  · refine OwnAll.append ?_ ?_
    · exact ((HA.below hb1).below ((Below.refl _ _).alloc (Nat.le_refl _) x)).grown hg fun k hk u hu he => HD u hu k he hk
    · intro u hu
      simp at hu
      subst hu
      refine own_weaken (own_grown (own_below ho1 ((Below.refl _ _).alloc (Nat.le_refl _) x)) hg ?_) hz
      rcases he : (Value.slice u.A u.n u.c).ownBlock with _ | b
      · exact .inl rfl
      · refine .inr fun h1 => ?_
        have h2 := (hL b h1.symm).1
        have h3 := (hl1 b he).2
        omega
  · intro u hu b hb he
    rcases hat with hat | hat
    · rw [hat] at he
      rcases List.mem_append.1 hu with hu | hu
      · exact HD u hu b hb he
      · simp at hu
        subst hu
        have h2 := (hL b he).1
        have h3 := (hl1 b hb).2
        omega
    · rw [hat] at he
      injection he with he
      rcases List.mem_append.1 hu with hu | hu
      · have := hv u hu b hb
        omega
      · simp at hu
        subst hu
        have h3 := (hl1 b hb).1
        omega

theorem info_opt : (Tryd.prog.info? 34).map (fun i => (i.zero, i.size, i.bytes)) = some (some (.agg #[.int .i64 0, .slice none 0 0]), 2, 32) := by kernel_rfl

def optsF (acc : List (Int × List Int)) (bs : List Int) : List (Int × List Int) × Int :=
  if bs.length = 0 then (acc, 0)
  else if 32 ≤ acc.length then ([], 7)
  else if bs.length < 2 then ([], 8)
  else if bs.getD 1 0 < 2 then ([], 91)
  else if (bs.length : Int) < bs.getD 1 0 then ([], 8)
  else optsF (acc ++ [(bs.getD 0 0, (bs.drop 2).take ((bs.getD 1 0).toNat - 2))]) (bs.drop (bs.getD 1 0).toNat)
termination_by bs.length
decreasing_by rw [List.length_drop]; omega

section
variable {acc : List (Int × List Int)} {bs : List Int}
theorem optsF_done (h : bs.length = 0) : optsF acc bs = (acc, 0) := by rw [optsF, if_pos h]
theorem optsF_full (h : ¬ bs.length = 0) (h1 : 32 ≤ acc.length) : optsF acc bs = ([], 7) := by rw [optsF, if_neg h, if_pos h1]
theorem optsF_short (h : ¬ bs.length = 0) (h1 : ¬ 32 ≤ acc.length) (h2 : bs.length < 2) : optsF acc bs = ([], 8) := by rw [optsF, if_neg h, if_neg h1, if_pos h2]
theorem optsF_opt (h1 : ¬ 32 ≤ acc.length) (h2 : ¬ bs.length < 2) (h3 : bs.getD 1 0 < 2) : optsF acc bs = ([], 91) := by rw [optsF, if_neg (by omega), if_neg h1, if_neg h2, if_pos h3]
theorem optsF_cut (h1 : ¬ 32 ≤ acc.length) (h2 : ¬ bs.length < 2) (h3 : ¬ bs.getD 1 0 < 2) (h4 : (bs.length : Int) < bs.getD 1 0) : optsF acc bs = ([], 8) := by rw [optsF, if_neg (by omega), if_neg h1, if_neg h2, if_neg h3, if_pos h4]
theorem optsF_step (h1 : ¬ 32 ≤ acc.length) (h2 : ¬ bs.length < 2) (h3 : ¬ bs.getD 1 0 < 2) (h4 : ¬ (bs.length : Int) < bs.getD 1 0) :
    optsF acc bs = optsF (acc ++ [(bs.getD 0 0, (bs.drop 2).take ((bs.getD 1 0).toNat - 2))]) (bs.drop (bs.getD 1 0).toNat) := by rw [optsF, if_neg (by omega), if_neg h1, if_neg h2, if_neg h3, if_neg h4]
end

def OptionsTells (E O : TypeId) (bs : List Int) (w : World) (e : Ending) (w' : World) : Prop :=
  ∃ v vs, e = .returned (.tuple #[v, .int .i64 (optsF [] bs).2]) ∧ vs.map OV.opt = (optsF [] bs).1 ∧ w'.ownsRow w.heap.size O 2 v vs.length (flat vs) ∧ OwnAll w' w.heap.size vs ∧ (∀ v ∈ vs, v.d.length = v.n ∧ Byt v.d) ∧ Below w.heap.size w w'

set_option maxRecDepth 100000 in
set_option maxHeartbeats 4000000 in
theorem options_any (A : Option Addr) (n c : Nat) (xs : List Int) (hn : xs.length = n) (hn' : n ≤ 140737488355300) (hc : n ≤ c) (hb : Byt xs) (w : World) (hx : Cells w A (nums .u8 xs)) :
    Calls Tryd.prog 33 #[.slice A n c] w (OptionsTells 5 34 xs w) := by
  have Hn := Lib.hid hn
  have Hb := Lib.hid hb
  have Hx := Lib.hid hx
  have hc' := Lib.hid hc
  clear hn hb hx
  go_enter Tryd.func33, Tryd.ntmps33
  go_wp2
  go_loopw [0, 4] (fun b l wr => ∃ (B : Option Addr) (m d : Nat) (ys : List Int) (vs : List OV), b = .slice B m d ∧ m ≤ d ∧ m ≤ n ∧ Hid (ys.length = m) ∧ Hid (Byt ys) ∧ Hid (Cells w B (nums .u8 ys)) ∧ Hid (Apart vs l.ownBlock) ∧ vs.length ≤ 32 ∧ Hid (wr.ownsRow w.heap.size 34 2 l vs.length (flat vs)) ∧ Hid (OwnAll wr w.heap.size vs) ∧ Hid (∀ v ∈ vs, v.d.length = v.n ∧ Byt v.d) ∧
      Hid (optsF (vs.map OV.opt) ys = optsF [] xs) ∧ Hid (Below w.heap.size w wr)) (fun b _ _ => match b with | .slice _ m _ => m | _ => 0)
  case atStart => exact ⟨A, n, c, xs, [], rfl, hc, Nat.le_refl _, Hn.out, Hb.out, Hx.out, Apart.nil_ _, Nat.zero_le _, own_nil _ _ _ _, OwnAll.nil_ _ _, (fun v hv => by simp at hv), rfl, Below.refl _ _⟩
  case round =>
    obtain ⟨B, m, d, ys, vs, rfl, hmd, hmn, HM, HBy, HC, HD, hvl, HO, HA, HV, HE, HB⟩ := hrel
    obtain ⟨L, cl, rfl, hcl⟩ := own_slice HO.out
    have HNil : Hid (∀ (W : World) (k : Int), Below w.heap.size w W → optsF [] xs = ([], k) → OptionsTells 5 34 xs w (.returned (.tuple #[.slice none 0 0, .int .i64 k])) W) := fun W k hW he =>
      ⟨_, [], by rw [he], by rw [he]; rfl, own_nil _ _ _ _, OwnAll.nil_ _ _, by simp, hW⟩
    obtain ⟨q, hq⟩ : ∃ q, vs.length = q := ⟨_, rfl⟩
    rw [hq] at HO HD hvl hcl ⊢
    have HQ : Hid ((vs.map OV.opt).length = q) := by unfold Hid; rw [List.length_map]; exact hq
    have HQ' := Lib.hid hq
    clear hq
    by_cases h0 : m = 0
    · subst h0
      have HDone : Hid (OptionsTells 5 34 xs w (.returned (.tuple #[.slice L q cl, .int .i64 0])) wr) := by
        have he := optsF_done (acc := vs.map OV.opt) HM.out
        rw [HE.out] at he
        exact ⟨_, vs, by rw [he], by rw [he], by rw [HQ'.out]; exact HO.out, HA.out, HV.out, HB.out⟩
      go_wp2
      go_ret2
      exact HDone.out
    by_cases hq : 32 ≤ q
    · have he := optsF_full (acc := vs.map OV.opt) (by rw [HM.out]; exact h0) (by rw [HQ.out]; exact hq)
      rw [HE.out] at he
      have HE' := Lib.hid he
      clear he
      go_wp2
      go_ret2
      exact HNil.out _ _ HB.out HE'.out
    by_cases h2 : m < 2
    · have he := optsF_short (acc := vs.map OV.opt) (by rw [HM.out]; exact h0) (by rw [HQ.out]; exact hq) (by rw [HM.out]; exact h2)
      rw [HE.out] at he
      have HE' := Lib.hid he
      clear he
      go_wp2
      go_ret2
      exact HNil.out _ _ HB.out HE'.out
    obtain ⟨ad, rfl, hcell⟩ := (HC.out.below HB.out) (by rw [nums_length, HM.out]; omega)
    have hg0 := hcell 0 _ (nums_get _ _ 0 (by rw [HM.out]; omega))
    have hg1 : wr.cell? ⟨ad.block, ad.off + 1, none⟩ = _ := hcell 1 _ (nums_get _ _ 1 (by rw [HM.out]; omega))
    have hg0' : wr.cell? ad = _ := hg0
    have hb0 := HBy.out.getD 0
    have hb1 := HBy.out.getD 1
    clear hcell hg0
    obtain ⟨X0, hX0⟩ : ∃ X0, ys.getD 0 0 = X0 := ⟨_, rfl⟩
    obtain ⟨X1, hX1⟩ : ∃ X1, ys.getD 1 0 = X1 := ⟨_, rfl⟩
    rw [hX0] at hg0' hb0
    rw [hX1] at hg1 hb1
    have HX0 := Lib.hid hX0
    have HX1 := Lib.hid hX1
    clear hX0 hX1
    have hi1 : (1 : Int) < (m : Int) := by omega
    have hj1 : 1 < m := by omega
    have hi0 : (0 : Int) < (m : Int) := by omega
    have hj0 : 0 < m := by omega
    by_cases h3 : X1 < 2
    · have he := optsF_opt (acc := vs.map OV.opt) (bs := ys) (by rw [HQ.out]; exact hq) (by rw [HM.out]; exact h2) (by rw [HX1.out]; exact h3)
      rw [HE.out] at he
      have HE' := Lib.hid he
      clear he
      go_wp2
      go_ret2
      exact HNil.out _ _ HB.out HE'.out
    obtain ⟨k, rfl⟩ := Int.eq_ofNat_of_zero_le hb1.1
    by_cases h4 : (m : Int) < (k : Int)
    · have he := optsF_cut (acc := vs.map OV.opt) (bs := ys) (by rw [HQ.out]; exact hq) (by rw [HM.out]; exact h2) (by rw [HX1.out]; exact h3) (by rw [HM.out, HX1.out]; exact h4)
      rw [HE.out] at he
      have HE' := Lib.hid he
      clear he
      go_wp2
      go_ret2
      exact HNil.out _ _ HB.out HE'.out
    have hw0 : IntKind.i64.wrap X0 = X0 := wrap64 _ hb0.1 (by omega)
    have hk2 : 2 ≤ k := by omega
    have hkm : k ≤ m := by omega
    have hkd : k ≤ d := by omega
    have hk2' : (2 : Int) ≤ (k : Int) := by omega
    have hkd' : (k : Int) ≤ (d : Int) := by omega
    have he := optsF_step (acc := vs.map OV.opt) (bs := ys) (by rw [HQ.out]; exact hq) (by rw [HM.out]; exact h2) (by rw [HX1.out]; exact h3) (by rw [HM.out, HX1.out]; exact h4)
    rw [HX1.out, HX0.out, Int.toNat_natCast, HE.out] at he
    have HE' := Lib.hid he.symm
    clear he
    have HL : Hid (((ys.drop 2).take (k - 2)).length = k - 2) := by unfold Hid; rw [List.length_take, List.length_drop, HM.out]; omega
    have HKb : Hid (k - 2 ≤ 140737488355300) := by unfold Hid; omega
    have HK4 : Hid (k - 2 ≤ 140737488351232) := by unfold Hid; omega
    have HCD : Hid (Cells wr (if d = 2 then some ad else some (ad.add 2)) (nums .u8 ((ys.drop 2).take (k - 2)))) := by
      have h1 := ((HC.out.below HB.out).drop (n := m) (c := d) (size := 1) (by rw [nums_length, HM.out, Nat.mul_one]) hmd 2 (by omega)).take (k - 2)
      rw [← nums_drop, ← nums_take] at h1
      exact h1
    have HCR : Hid (Cells w (if d = k then some ad else some (ad.add k)) (nums .u8 (ys.drop k))) := by
      have h1 := HC.out.drop (n := m) (c := d) (size := 1) (by rw [nums_length, HM.out, Nat.mul_one]) hmd k (by omega)
      rw [← nums_drop, Nat.mul_one] at h1
      exact h1
    have HMR : Hid ((ys.drop k).length = m - k) := by unfold Hid; rw [List.length_drop, HM.out]
    have HG0 := Lib.hid hg0'
    have HG1 := Lib.hid hg1
    have HARM : Hid (∀ v1 w1, w1.ownsRow wr.drew.heap.size 5 1 v1 (k - 2) (nums .u8 ((ys.drop 2).take (k - 2))) → Below wr.drew.heap.size wr.drew w1 →
        ∃ A1 c1, v1 = .slice A1 (k - 2) c1 ∧ Hid (w1.ownsRow wr.heap.size 5 1 v1 (k - 2) (nums .u8 ((ys.drop 2).take (k - 2)))) ∧ Hid (Below wr.heap.size wr w1) ∧ w1.cell? ad = some (.int .u8 X0) ∧ w1.cell? ⟨ad.block, ad.off + 1, none⟩ = some (.int .u8 (k : Int)) ∧
        Hid (∀ b : Obj, ((w1.alloc b).ownsRow w.heap.size 34 2 (.slice L q cl) q (flat vs))) ∧ Hid (w.heap.size ≤ w1.heap.size)) := by
      intro v1 w1 ho hb
      have hb' : Below wr.heap.size wr w1 := ⟨hb.os, hb.tape, hb.output, hb.size, hb.block⟩
      obtain ⟨A1, c1, rfl, _⟩ := own_slice ho
      exact ⟨A1, c1, rfl, ho, hb', (hb'.cell (World.block_lt_of_cell? _ _ HG0.out)).trans HG0.out, (hb'.cell (World.block_lt_of_cell? _ _ HG1.out)).trans HG1.out, fun b => own_below (own_below HO.out hb') ((Below.refl _ _).alloc (Nat.le_refl _) _), Nat.le_trans HB.out.size hb'.size⟩

    have HLT : Hid (ad.block < w.heap.size) := by
      obtain ⟨ad', he, hc⟩ := HC.out (by rw [nums_length, HM.out]; omega)
      injection he with he
      subst he
      exact World.block_lt_of_cell? w _ (hc 0 _ (nums_get _ _ 0 (by rw [HM.out]; omega)))
    have HARM3 : Hid (∀ w1 (b : Obj) w2, Below wr.heap.size wr w1 → wr.ownsRow w.heap.size 34 2 (.slice L q cl) q (flat vs) → (w1.alloc b).grownBy w2 (Value.slice L q cl).ownBlock → w2.cell? ⟨ad.block, ad.off + 1, none⟩ = some (.int .u8 (k : Int))) := by
      intro w1 b w2 hb ho hg
      have h1 := (hb.alloc hb.size b).cell (p := ⟨ad.block, ad.off + 1, none⟩) (World.block_lt_of_cell? _ _ HG1.out)
      refine hg.cell (h1.trans HG1.out) fun he => ?_
      have h2 : w.heap.size ≤ ad.block := own_base ho _ he.symm
      have := HLT.out
      omega
    go_wp2
    go_region_law
      (first
       | (refine step_call ?hg Tryd.func42 (by kernel_rfl) (by kernel_rfl) #[.tmp 38] #[22] ?ho #[.slice (if d = 2 then some ad else some ⟨ad.block, ad.off + 2, none⟩) (k - 2) (d - 2)] ?hv (clone_any (if d = 2 then some ad else some ⟨ad.block, ad.off + 2, none⟩) (k - 2) (d - 2) ((ys.drop 2).take (k - 2)) HL.out HKb.out _ ?c1) ?_
          (case hg => rfl)
          (case ho => rfl)
          (case hv => go_simp)
          (case c1 => exact HCD.out)
          rintro e w1 ⟨v1, rfl, ho1, hb1⟩
          refine ⟨v1, rfl, ?_⟩
          obtain ⟨A1, c1, rfl, HO1, HB1, hd0, hd1, HLL, HZ1⟩ := HARM.out _ _ ho1 hb1
          clear ho1 hb1)
       | (refine step_append w.heap.size rfl (.tmp 29) (.tmp 41) 30 34 (.agg #[.int .i64 0, .slice none 0 0]) 2 32 rfl Tryd.underlying30 info_opt rfl (by decide) (by decide) (.slice L q cl) q (flat vs) _ 1 1 [.int .i64 X0, .slice A1 (k - 2) c1] rfl rfl rfl ?d1 (HLL.out _) ?d2 ?d3 ?d4 ?_
          (case d1 => exact flat_one [⟨X0, A1, k - 2, c1, []⟩])
          (case d2 => exact cells_box w1 _ rfl [.int .i64 X0, .slice A1 (k - 2) c1] _)
          (case d3 => have := HZ1.out; simp; omega)
          (case d4 => omega)
          intro v2 w2 ho2 hg2 hat2
          obtain ⟨A2, c2, rfl, HO2, HA2, HD2, HB2⟩ := opts_push (v := ⟨X0, A1, k - 2, c1, (ys.drop 2).take (k - 2)⟩) HB.out HO.out HA.out HD.out HB1.out HO1.out ho2 hg2 hat2
          have hd2 := (HARM3.out _ _ _ HB1.out HO.out hg2)
          clear ho2 hg2 hat2))
    all_goals
      go_wp2
      have hvl2 : (vs ++ [(⟨X0, A1, k - 2, c1, (ys.drop 2).take (k - 2)⟩ : OV)]).length = q + 1 := by rw [List.length_append, HQ'.out]; rfl
      refine ⟨⟨_, m - k, d - k, ys.drop k, vs ++ [(⟨X0, A1, k - 2, c1, (ys.drop 2).take (k - 2)⟩ : OV)], rfl, by omega, by omega, HMR.out, HBy.out.drop _, HCR.out, HD2.out, by rw [hvl2]; omega, by rw [hvl2]; exact HO2.out, HA2.out, ?_, ?_, HB2.out⟩, by show m - k < m; omega⟩
      · intro v hv
        rcases List.mem_append.1 hv with hv | hv
        · exact HV.out v hv
        · simp at hv
          subst hv
          exact ⟨HL.out, (HBy.out.drop _).take _⟩
      · show optsF _ _ = _
        rw [List.map_append]
        exact HE'.out
end Go.Proofs.YthlfdckcnpnemaaDoor
