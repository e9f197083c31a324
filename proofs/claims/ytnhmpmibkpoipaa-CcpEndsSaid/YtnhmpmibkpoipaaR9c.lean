/-
  The reference's Spoil leaves alone what is younger than the list that it spoils. Conditions: the list is no longer than the model's memory.
-/
import Derived.Test.YtnhmpmibkpoipaaR9b
namespace Go.Proofs.Ytnhmpmibkpoipaa
open Go.RowKit
set_option linter.unusedVariables false
set_option linter.unusedSimpArgs false

/-- Of the blocks that stood, those from E on stand as they stood. -/
def Above (E : Nat) (w w' : World) : Prop := ∀ k, k < w.heap.size → E ≤ k → w'.heap[k]? = w.heap[k]?
theorem Above.refl (E : Nat) (w : World) : Above E w w := fun _ _ _ => rfl
theorem Above.grown {E : Nat} {w w1 w2 : World} {row : Option Nat} (h : Above E w w1) (hg : w1.grownBy w2 row) (hr : ∀ k, row = some k → k < E) (hs : w.heap.size ≤ w1.heap.size) : Above E w w2 := fun k hk hE =>
  (hg.block k (by omega) (fun he => by have := hr k he.symm; omega)).trans (h k hk hE)
theorem Above.setCell {E : Nat} {w w1 : World} {p : Addr} (h : Above E w w1) (hp : p.block < E) (u : Value) : Above E w (w1.setCell p u) := fun k hk hE =>
  (Below.heap_setCell _ _ _ _ (by omega)).trans (h k hk hE)
theorem own_above {E base n size : Nat} {e : TypeId} {v : Value} {cs : List Value} {w w' : World} (h : w.ownsRow base e size v n cs) (ha : Above E w w') (hE : E ≤ base) : w'.ownsRow base e size v n cs := by
  obtain ⟨h1, h2 | ⟨g, cap, cur, hv, hb, hg, hr⟩⟩ := h
  · exact ⟨h1, .inl h2⟩
  · exact ⟨h1, .inr ⟨g, cap, cur, hv, hb, (ha g (Array.getElem?_eq_some_iff.1 hg).1 (by omega)).trans hg, hr⟩⟩
theorem OptsOwn.above {E base : Nat} {v : Value} {vs : List OV} {w w' : World} (h : OptsOwn w base v vs) (ha : Above E w w') (hE : E ≤ base) : OptsOwn w' base v vs :=
  ⟨own_above h.1 ha hE, fun u hu => own_above (h.2.1 u hu) ha hE, h.2.2⟩
set_option maxRecDepth 100000 in
set_option maxHeartbeats 1000000 in
theorem spoil9_above (A : Option Addr) (n c B : Nat) (vs : List OV) (w0 w : World) [X0 : Ext w0 w] (hn : vs.length = n) (hn' : n ≤ 4398046511104) (hB : B ≤ w.heap.size) (h0 : OptsOwn w0 B (.slice A n c) vs) :
    Calls Try.prog 30 #[.slice A n c] w fun e w' => e = .returned (.tuple #[]) ∧ Below B w w' ∧ Above w0.heap.size w w' := by
  have Hn := Lib.hid hn
  have H0 := Lib.hid h0
  have HO : Hid (OptsOwn w B (.slice A n c) vs) := h0.ext
  have HBB := Lib.hid hB
  clear hn h0 hB
  go_enter Try.func30, Try.ntmps30
  go_wp2
  go_loopw [2] (fun i wr => ∃ (k : Nat) (cs : List Value), i = .int .i64 k ∧ k ≤ n ∧ Hid (wr.ownsRow B 109 2 (.slice A n c) n cs) ∧ Hid (cs.drop (k * 2) = flat (vs.drop k)) ∧ Hid (OwnAll wr B (vs.drop k)) ∧ Hid (Below B w wr) ∧ Hid (Above w0.heap.size w wr)) (fun i _ => n - (intOf i).toNat)
  case atStart => exact ⟨0, flat vs, rfl, by omega, (by have h1 := HO.out.1; rw [Hn.out] at h1; exact h1), rfl, HO.out.2.1, Below.refl _ _, Above.refl _ _⟩
  case round =>
    obtain ⟨k, cs, rfl, hk, HR, HC, HA, HB, HAB⟩ := hrel
    by_cases hlt : k < n
    · obtain ⟨v, hv, hvm⟩ := optD (vs := vs) (k := k) (by rw [Hn.out]; exact hlt)
      obtain ⟨h0, h1⟩ := cells_drop HC.out hv
      obtain ⟨g, c', he, hg1, hg2, hg3⟩ := own_form HR.out (by omega)
      injection he with he1 he2 he3
      subst he1 he3
      have hbl : v.n ≤ 140737488355300 := (HO.out.2.2.2.2 v hvm).2.1
      have hdrop : v ∈ vs.drop k := by
        rw [List.drop_eq_getElem_cons (by rw [Hn.out]; exact hlt)]
        rw [List.getElem?_eq_getElem (by rw [Hn.out]; exact hlt)] at hv
        injection hv with hv
        rw [hv]
        simp
      have HV := Lib.hid hv
      have HVO := Lib.hid (HA.out v hdrop)
      have hap := HO.out.2.2.1 v hvm
      have HAP := Lib.hid hap
      have HG0 : Hid (g < w0.heap.size) := own_lt H0.out.1 g rfl
      have HV0 : Hid (∀ b, (Value.slice v.A v.n v.c).ownBlock = some b → b < w0.heap.size) := fun b hb => own_lt (H0.out.2.1 v hvm) b hb
      have hc0 : wr.cell? ⟨g, k * 2, none⟩ = some (.int .i64 v.t) := by rw [HR.out.cellAt (k * 2) (by omega)]; exact h0
      have hc1 : wr.cell? ⟨g, k * 2 + 1, none⟩ = some (.slice v.A v.n v.c) := by rw [HR.out.cellAt (k * 2 + 1) (by omega)]; exact h1
      have hf := HR.out.frozenAt (k * 2)
      clear hv hvm hdrop hap h0 h1
      obtain ⟨t, VA, vn, vc, xs⟩ := v
      simp only at hc0 hc1 hbl
      go_wp2_with fail
      refine (spoil_any VA vn vc B xs _ hbl HVO.out).mono ?_
      rintro e w1 ⟨rfl, hg1'⟩
      have hL : (Value.slice (some ⟨g, 0, none⟩) n c).ownBlock = some g := rfl
      have hR1 : w1.ownsRow B 109 2 (.slice (some ⟨g, 0, none⟩) n c) n cs := own_grown HR.out hg1' (.inr fun he => by rw [hL] at he; exact HAP.out g he.symm rfl)
      have hB1 : Below B w w1 := HB.out.grown hg1' (Nat.le_trans HBB.out HB.out.size) (own_base HVO.out)
      have hAB1 : Above w0.heap.size w w1 := Above.grown HAB.out hg1' HV0.out HB.out.size
      have hc0' : w1.cell? ⟨g, k * 2, none⟩ = some (.int .i64 t) := by rw [hR1.cellAt (k * 2) (by omega), ← HR.out.cellAt (k * 2) (by omega)]; exact hc0
      have hf' := hR1.frozenAt (k * 2)
      have hA1 : OwnAll w1 B (vs.drop (k + 1)) := by
        intro u hu
        have hu' : u ∈ vs.drop k := by
          rw [List.drop_eq_getElem_cons (by rw [Hn.out]; exact hlt)]
          exact List.mem_cons_of_mem _ hu
        refine own_grown (HA.out u hu') hg1' ?_
        have hp := HO.out.2.2.2.1
        have hd : vs.drop k = vs[k]'(by rw [Hn.out]; exact hlt) :: vs.drop (k + 1) := List.drop_eq_getElem_cons (by rw [Hn.out]; exact hlt)
        have hp2 := hp.drop (i := k)
        rw [hd, List.pairwise_cons] at hp2
        have hx := hp2.1 u hu
        have he := HV.out
        rw [List.getElem?_eq_getElem (by rw [Hn.out]; exact hlt)] at he
        injection he with he
        rw [he] at hx
        rcases hx with hx | hx
        · rcases hb : (Value.slice u.A u.n u.c).ownBlock with _ | b
          · exact .inl rfl
          · refine .inr fun h => ?_
            have hx' : (Value.slice VA vn vc).ownBlock = none := hx
            rw [hx'] at h
            cases h
        · exact .inr fun h => hx h.symm
      have HR1 := Lib.hid hR1
      have HA1 := Lib.hid hA1
      have HB1 := Lib.hid hB1
      have HAB1 := Lib.hid hAB1
      have hz1 : B ≤ g := hg1
      have HC1 : Hid ((cs.set (k * 2) (.int .i64 999)).drop ((k + 1) * 2) = flat (vs.drop (k + 1))) := cells_drop_succ _ HC.out HV.out
      clear hR1 hA1 hB1 hAB1 hg1' hc0 hc1 hf hL
      go_wp2
      go_roundw
      case rel =>
        refine ⟨k + 1, cs.set (k * 2) (.int .i64 999), by go_num, by omega, (HR1.out.stored _ _).1, HC1.out, ?_, ?_, ?_⟩
        · intro u hu
          refine own_setCell (HA1.out u hu) (p := ⟨g, k * 2, none⟩) (fun he => ?_) _
          have hm : u ∈ vs := List.mem_of_mem_drop hu
          exact HO.out.2.2.1 u hm g he rfl
        · exact HB1.out.setCell (p := ⟨g, k * 2, none⟩) hz1 _
        · exact HAB1.out.setCell (p := ⟨g, k * 2, none⟩) HG0.out _
      case measure => simp [intOf]; omega
    · go_wp2
      go_end0
      exact ⟨rfl, HB.out, HAB.out⟩
end Go.Proofs.Ytnhmpmibkpoipaa
