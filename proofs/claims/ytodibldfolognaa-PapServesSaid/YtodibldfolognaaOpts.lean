/-
  Lists of options in memory; what opt.Options tells. Conditions: the list is no longer than the model's memory.
-/
import Derived.Test.YtodibldfolognaaOpt
import Derived.Test.YtodibldfolognaaBase2
namespace Go.Proofs.Ytodibldfolognaa
open Go.RowKit
set_option linter.unusedVariables false
set_option linter.unusedSimpArgs false

theorem wrap64 (n : Int) (h₀ : 0 ≤ n) (h₁ : n < 2 ^ 63) : IntKind.i64.wrap n = n := by rw [IntKind.wrap_i64]; omega
/-- An option as it lies: its type, and the slice that holds d. -/
structure OV where
  t : Int
  A : Option Addr
  n : Nat
  c : Nat
  d : List Int
def OV.cells (v : OV) : List Value := [.int .i64 v.t, .slice v.A v.n v.c]
def OV.opt (v : OV) : Int × List Int := (v.t, v.d)
def flat (vs : List OV) : List Value := vs.flatMap OV.cells
theorem flat_nil : flat [] = [] := rfl
theorem flat_cons (v : OV) (vs : List OV) : flat (v :: vs) = .int .i64 v.t :: .slice v.A v.n v.c :: flat vs := rfl
theorem flat_append (a b : List OV) : flat (a ++ b) = flat a ++ flat b := by simp [flat]
theorem flat_length (vs : List OV) : (flat vs).length = vs.length * 2 := by
  induction vs with
  | nil => rfl
  | cons v vs ih => simp [flat_cons, ih]; omega
theorem flat_one (vs : List OV) : ∀ u ∈ flat vs, u.oneCell' = true := by
  intro u hu
  simp only [flat, List.mem_flatMap, OV.cells, List.mem_cons, List.not_mem_nil, or_false] at hu
  obtain ⟨v, _, rfl | rfl⟩ := hu <;> rfl
theorem flat_get {vs : List OV} {i : Nat} {v : OV} (h : vs[i]? = some v) : (flat vs)[i * 2]? = some (.int .i64 v.t) ∧ (flat vs)[i * 2 + 1]? = some (.slice v.A v.n v.c) := by
  induction vs generalizing i with
  | nil => simp at h
  | cons x vs ih =>
    rw [flat_cons]
    cases i with
    | zero => simp at h; subst h; simp
    | succ i =>
      have h1 := ih (i := i) (by simpa using h)
      rw [show (i + 1) * 2 = i * 2 + 1 + 1 by omega]
      simpa using h1
def OV.Ok (w : World) (v : OV) : Prop := v.d.length = v.n ∧ v.n ≤ v.c ∧ v.n ≤ 140737488355300 ∧ Byt v.d ∧ Cells w v.A (nums .u8 v.d)
def Good (w : World) (vs : List OV) : Prop := ∀ v ∈ vs, v.Ok w
def OwnAll (w : World) (base : Nat) (vs : List OV) : Prop := ∀ v ∈ vs, w.ownsRow base 5 1 (.slice v.A v.n v.c) v.n (nums .u8 v.d)
section
variable {w w1 : World} {vs : List OV} {base : Nat}
theorem OV.Ok.below {v : OV} (h : v.Ok w) (hb : Below w.heap.size w w1) : v.Ok w1 := ⟨h.1, h.2.1, h.2.2.1, h.2.2.2.1, h.2.2.2.2.below hb⟩
theorem Good.below (h : Good w vs) (hb : Below w.heap.size w w1) : Good w1 vs := fun v hv => (h v hv).below hb
theorem Good.drawn (h : Good w vs) (hd : Drawn w w1) : Good w1 vs := h.below hd.below
theorem Good.append {us : List OV} (h : Good w vs) (k : Good w us) : Good w (vs ++ us) := fun v hv => by
  rcases List.mem_append.1 hv with hv | hv
  · exact h v hv
  · exact k v hv
theorem OwnAll.below (h : OwnAll w base vs) (hb : Below w.heap.size w w1) : OwnAll w1 base vs := fun v hv => own_below (h v hv) hb
theorem OwnAll.grown {row : Option Nat} (h : OwnAll w base vs) (hg : w.grownBy w1 row) (hr : ∀ k, row = some k → ∀ v ∈ vs, (Value.slice v.A v.n v.c).ownBlock ≠ some k) : OwnAll w1 base vs := fun v hv => own_grown (h v hv) hg (by
  rcases he : (Value.slice v.A v.n v.c).ownBlock with _ | b
  · exact .inl rfl
  · refine .inr fun h1 => hr b h1.symm v hv he)
theorem OwnAll.nil_ (w : World) (base : Nat) : OwnAll w base [] := fun v hv => by simp at hv
theorem OwnAll.append {us : List OV} (h : OwnAll w base vs) (k : OwnAll w base us) : OwnAll w base (vs ++ us) := fun v hv => by
  rcases List.mem_append.1 hv with hv | hv
  · exact h v hv
  · exact k v hv
end

def OV.blk (v : OV) : Option Nat := (Value.slice v.A v.n v.c).ownBlock
/-- No option's bytes lie where the list itself does. -/
def Apart (vs : List OV) (L : Option Nat) : Prop := ∀ v ∈ vs, ∀ b, v.blk = some b → L ≠ some b
theorem Apart.nil_ (L : Option Nat) : Apart [] L := fun v hv => by simp at hv
theorem opts_push {O : TypeId} {w wr w1 w2 : World} {vs : List OV} {L v2 : Value} {q : Nat} {v : OV} {x : Obj} (HB : Below w.heap.size w wr) (HO : wr.ownsRow w.heap.size O 2 L q (flat vs)) (HA : OwnAll wr w.heap.size vs) (HD : Apart vs L.ownBlock)
    (hb1 : Below wr.heap.size wr w1) (ho1 : w1.ownsRow wr.heap.size 5 1 (.slice v.A v.n v.c) v.n (nums .u8 v.d)) (ho2 : w2.ownsRow w.heap.size O 2 v2 (q + 1) (flat vs ++ v.cells)) (hg : (w1.alloc x).grownBy w2 L.ownBlock) (hat : v2.ownBlock = L.ownBlock ∨ v2.ownBlock = some (w1.alloc x).heap.size) :
    ∃ A2 c2, v2 = .slice A2 (q + 1) c2 ∧ Hid (w2.ownsRow w.heap.size O 2 v2 (q + 1) (flat (vs ++ [v]))) ∧ Hid (OwnAll w2 w.heap.size (vs ++ [v])) ∧ Hid (Apart (vs ++ [v]) v2.ownBlock) ∧ Hid (Below w.heap.size w w2) := by
  have hz : w.heap.size ≤ wr.heap.size := HB.size
  have hz1 : wr.heap.size ≤ w1.heap.size := hb1.size
  have hz2 : (w1.alloc x).heap.size = w1.heap.size + 1 := World.size_alloc w1 x
  have hl1 : ∀ b, v.blk = some b → b < w1.heap.size ∧ wr.heap.size ≤ b := fun b hb => ⟨own_lt ho1 b hb, own_base ho1 b hb⟩
  have hL : ∀ b, L.ownBlock = some b → b < wr.heap.size ∧ w.heap.size ≤ b := fun b hb => ⟨own_lt HO b hb, own_base HO b hb⟩
  have hb2 : Below w.heap.size w w2 := ((HB.trans (hb1.mono hz)).alloc (by omega) x).grown hg (by omega) (fun k hk => (hL k hk).2)
  have hv : ∀ u ∈ vs, ∀ b, u.blk = some b → b < wr.heap.size := fun u hu b hb => own_lt (HA u hu) b hb
  obtain ⟨A2, c2, rfl, _⟩ := own_slice ho2
  refine ⟨A2, c2, rfl, ?_, ?_, ?_, hb2⟩
  · show w2.ownsRow _ _ _ _ _ _
    rw [flat_append]
    simpa [flat] using ho2
  · refine OwnAll.append ?_ ?_
    · exact ((HA.below hb1).below ((Below.refl _ _).alloc (Nat.le_refl _) x)).grown hg fun k hk u hu he => HD u hu k he hk
    · intro u hu
      simp at hu
      subst hu
      refine own_weaken (own_grown (own_below ho1 ((Below.refl _ _).alloc (Nat.le_refl _) x)) hg ?_) hz
      rcases he : (Value.slice u.A u.n u.c).ownBlock with _ | b
      · exact .inl rfl
      · refine .inr fun h1 => ?_
        have h2 := (hL b h1.symm).1
        have h3 := (hl1 b he).2
        omega
  · intro u hu b hb he
    rcases hat with hat | hat
    · rw [hat] at he
      rcases List.mem_append.1 hu with hu | hu
      · exact HD u hu b hb he
      · simp at hu
        subst hu
        have h2 := (hL b he).1
        have h3 := (hl1 b hb).2
        omega
    · rw [hat] at he
      injection he with he
      rcases List.mem_append.1 hu with hu | hu
      · have := hv u hu b hb
        omega
      · simp at hu
        subst hu
        have h3 := (hl1 b hb).1
        omega

theorem info_opt : (Try.prog.info? 119).map (fun i => (i.zero, i.size, i.bytes)) = some (some (.agg #[.int .i64 0, .slice none 0 0]), 2, 32) := by kernel_rfl

def optsF (acc : List (Int × List Int)) (bs : List Int) : List (Int × List Int) × Int :=
  if bs.length = 0 then (acc, 0)
  else if 32 ≤ acc.length then ([], 7)
  else if bs.length < 2 then ([], 8)
  else if bs.getD 1 0 < 2 then ([], 91)
  else if (bs.length : Int) < bs.getD 1 0 then ([], 8)
  else optsF (acc ++ [(bs.getD 0 0, (bs.drop 2).take ((bs.getD 1 0).toNat - 2))]) (bs.drop (bs.getD 1 0).toNat)
termination_by bs.length
decreasing_by rw [List.length_drop]; omega

section
variable {acc : List (Int × List Int)} {bs : List Int}
theorem optsF_done (h : bs.length = 0) : optsF acc bs = (acc, 0) := by rw [optsF, if_pos h]
theorem optsF_full (h : ¬ bs.length = 0) (h1 : 32 ≤ acc.length) : optsF acc bs = ([], 7) := by rw [optsF, if_neg h, if_pos h1]
theorem optsF_short (h : ¬ bs.length = 0) (h1 : ¬ 32 ≤ acc.length) (h2 : bs.length < 2) : optsF acc bs = ([], 8) := by rw [optsF, if_neg h, if_neg h1, if_pos h2]
theorem optsF_opt (h1 : ¬ 32 ≤ acc.length) (h2 : ¬ bs.length < 2) (h3 : bs.getD 1 0 < 2) : optsF acc bs = ([], 91) := by rw [optsF, if_neg (by omega), if_neg h1, if_neg h2, if_pos h3]
theorem optsF_cut (h1 : ¬ 32 ≤ acc.length) (h2 : ¬ bs.length < 2) (h3 : ¬ bs.getD 1 0 < 2) (h4 : (bs.length : Int) < bs.getD 1 0) : optsF acc bs = ([], 8) := by rw [optsF, if_neg (by omega), if_neg h1, if_neg h2, if_neg h3, if_pos h4]
theorem optsF_step (h1 : ¬ 32 ≤ acc.length) (h2 : ¬ bs.length < 2) (h3 : ¬ bs.getD 1 0 < 2) (h4 : ¬ (bs.length : Int) < bs.getD 1 0) :
    optsF acc bs = optsF (acc ++ [(bs.getD 0 0, (bs.drop 2).take ((bs.getD 1 0).toNat - 2))]) (bs.drop (bs.getD 1 0).toNat) := by rw [optsF, if_neg (by omega), if_neg h1, if_neg h2, if_neg h3, if_neg h4]
end

def OptionsTells (E O : TypeId) (bs : List Int) (w : World) (e : Ending) (w' : World) : Prop :=
  ∃ v vs, e = .returned (.tuple #[v, .int .i64 (optsF [] bs).2]) ∧ vs.map OV.opt = (optsF [] bs).1 ∧ w'.ownsRow w.heap.size O 2 v vs.length (flat vs) ∧ OwnAll w' w.heap.size vs ∧ (∀ v ∈ vs, v.d.length = v.n ∧ Byt v.d) ∧ Below w.heap.size w w'

end Go.Proofs.Ytodibldfolognaa
