/-
  pap.NewServer: an authenticator. Conditions: sizes.
-/
import Derived.Test.YtodibldfolognaaPpK
namespace Go.Proofs.Ytodibldfolognaa
open Go.RowKit
set_option linter.unusedVariables false
set_option linter.unusedSimpArgs false

theorem own_heap2 {w w' : World} {base n size : Nat} {e : TypeId} {v : Value} {cs : List Value} (h : w.ownsRow base e size v n cs) (hh : ∀ k, v.ownBlock = some k → w'.heap[k]? = w.heap[k]?) : w'.ownsRow base e size v n cs := by
  refine ⟨h.1, ?_⟩
  rcases h.2 with h' | ⟨g, cap, cur, h1, h2, h3, h4⟩
  · exact .inl h'
  · exact .inr ⟨g, cap, cur, h1, h2, (hh g (by rw [h1]; rfl)).trans h3, h4⟩
/-- A table that lies below a block. -/
structure TabLow (w : World) (B T : Nat) (us : List SV) : Prop where
  t : TabAt w T us
  kept : ∀ w' : World, (∀ k, k < B → w'.heap[k]? = w.heap[k]?) → TabAt w' T us
theorem TabAt.low {w : World} {T : Nat} {us : List SV} (h : TabAt w T us) : TabLow w w.heap.size T us := by
  refine ⟨h, fun w' hh => ?_⟩
  obtain ⟨v, h1, h2⟩ := h
  exact ⟨v, (hh T (at_lt h1)).trans h1, own_heap2 h2.row (fun k hk => hh k (own_lt h2.row k hk)), fun u hu => own_heap2 (h2.each u hu) (fun k hk => hh k (own_lt (h2.each u hu) k hk)), h2.apart, h2.size⟩
theorem TabLow.move {w w' : World} {B T : Nat} {us : List SV} (h : TabLow w B T us) (hh : ∀ k, k < B → w'.heap[k]? = w.heap[k]?) : TabLow w' B T us :=
  ⟨h.kept w' hh, fun w2 h2 => h.kept w2 fun k hk => (h2 k hk).trans (hh k hk)⟩
/-- An authenticator, at block B; its table at T. -/
structure SrvAt (w : World) (B T : Nat) (name : ByteArray) (st : Int) (who : ByteArray) (us : List SV) : Prop where
  b : w.heap[B]? = some (.cells #[.string name, .pointer (some ⟨T, 0, none⟩), .int .i64 st, .string who] 140 (0, 0))
  t : TabLow w B T us
theorem SrvAt.ext {w w' : World} {B T : Nat} {name : ByteArray} {st : Int} {who : ByteArray} {us : List SV} [h : Ext w w'] (k : SrvAt w B T name st who us) : SrvAt w' B T name st who us :=
  ⟨at_ext k.b, k.t.move fun j hj => h.out.block j (Nat.lt_trans hj (at_lt k.b))⟩
theorem SrvAt.set {w : World} {B T : Nat} {name : ByteArray} {st : Int} {who : ByteArray} {us : List SV} (k : SrvAt w B T name st who us) (x : Int) : SrvAt (w.setCell ⟨B, 2, none⟩ (.int .i64 x)) B T name x who us :=
  ⟨at_set k.b 2 _, k.t.move fun j hj => Below.heap_setCell _ _ _ _ (Nat.ne_of_lt hj)⟩
theorem SrvAt.setw {w : World} {B T : Nat} {name : ByteArray} {st : Int} {who : ByteArray} {us : List SV} (k : SrvAt w B T name st who us) (x : ByteArray) : SrvAt (w.setCell ⟨B, 3, none⟩ (.string x)) B T name st x us :=
  ⟨at_set k.b 3 _, k.t.move fun j hj => Below.heap_setCell _ _ _ _ (Nat.ne_of_lt hj)⟩
def SrvTells (nm : ByteArray) (us : List SV) (w : World) (e : Ending) (w' : World) : Prop :=
  Below w.heap.size w w' ∧ if nameF (strB nm) = false then e = .returned (.tuple #[.pointer none, .int .i64 60, .int .i64 0])
    else if (wrongF us).1 ≠ 0 then e = .returned (.tuple #[.pointer none, .int .i64 (wrongF us).1, .int .i64 (wrongF us).2])
    else ∃ B T vs, e = .returned (.tuple #[.pointer (some ⟨B, 0, none⟩), .int .i64 0, .int .i64 0]) ∧ w.heap.size ≤ B ∧ SrvAt w' B T nm 0 ⟨#[]⟩ vs ∧ vs.map SV.dat = us.map SV.dat
set_option maxRecDepth 100000 in
set_option maxHeartbeats 2000000 in
theorem newServer_any (nm : ByteArray) (hnm : nm.size ≤ 140737488355328) (A : Option Addr) (n c : Nat) (us : List SV) (hn : us.length = n) (hn' : n ≤ 17592186044416) (w : World) (hx : SecsAt w A us) :
    Calls Try.prog 45 #[.string nm, .slice A n c] w (SrvTells nm us w) := by
  have HX := Lib.hid hx
  have Hn := Lib.hid hn
  clear hx hn
  rcases h1 : nameF (strB nm) with _ | _
  · have HQ := Lib.hid h1
    have HF : Hid (∀ w', Below w.heap.size w w' → SrvTells nm us w (.returned (.tuple #[.pointer none, .int .i64 60, .int .i64 0])) w') := fun w' h => ⟨h, by rw [if_pos h1]⟩
    clear h1
    go_enter Try.func45, Try.ntmps45
    go_wp2_with fail
    refine (pright_any nm hnm _).mono ?_
    rintro e w1 ⟨rfl, hb1⟩
    rw [HQ.out]
    go_wp2_with fail
    go_ret3
    exact HF.out _ hb1
  · have HQ := Lib.hid h1
    have HF0 : Hid (∀ e w', (Below w.heap.size w w' ∧ if (wrongF us).1 ≠ 0 then e = .returned (.tuple #[.pointer none, .int .i64 (wrongF us).1, .int .i64 (wrongF us).2])
    else ∃ B T vs, e = .returned (.tuple #[.pointer (some ⟨B, 0, none⟩), .int .i64 0, .int .i64 0]) ∧ w.heap.size ≤ B ∧ SrvAt w' B T nm 0 ⟨#[]⟩ vs ∧ vs.map SV.dat = us.map SV.dat) → SrvTells nm us w e w') := fun e w' h => ⟨h.1, by rw [if_neg (by simp [h1])]; exact h.2⟩
    clear h1
    go_enter Try.func45, Try.ntmps45
    go_wp2_with fail
    refine (pright_any nm hnm _).mono ?_
    rintro e w1 ⟨rfl, hb1⟩
    rw [HQ.out]
    have S1 : Step w1 w := ⟨hb1⟩
    have HX1 : Hid (Ext w w1) := ⟨hb1⟩
    clear hb1
    go_wp2_with fail
    refine (new_any A n c us Hn.out hn' _ HX.out.ext).mono ?_
    rintro e w2 ⟨hb2, he⟩
    have S2 : Step w2 w1 := ⟨hb2⟩
    have HX2 : Hid (Ext w w2) := (inferInstance : Ext w w2)
    clear hb2
    obtain ⟨p1, hp1⟩ : ∃ p1, (wrongF us).1 = p1 := ⟨_, rfl⟩
    obtain ⟨p2, hp2⟩ : ∃ p2, (wrongF us).2 = p2 := ⟨_, rfl⟩
    rw [hp1, hp2] at HF0
    rw [hp1, hp2] at he
    clear hp1 hp2
    by_cases hz : p1 = 0
    · subst hz
      rw [if_neg (by simp)] at he
      obtain ⟨T, vs, rfl, hT, ht, hd⟩ := he
      have HT := Lib.hid ht.low
      have HD := Lib.hid hd
      clear ht hd hT
      go_wp2_with fail
      go_ret3
      refine HF0.out _ _ ⟨(inferInstance : Ext w (w2.alloc _)).out, ?_⟩
      rw [if_neg (by simp)]
      exact ⟨w2.heap.size, T, vs, rfl, HX2.out.out.size, ⟨at_new w2 _, HT.out.move fun k hk => Ext.out.block k hk⟩, HD.out⟩
    · rw [if_pos hz] at he
      subst he
      have hz' : (p1 != 0) = true := by simpa using hz
      go_wp2_with fail
      go_ret3
      refine HF0.out _ _ ⟨HX2.out.out, ?_⟩
      rw [if_pos hz]
      rfl
end Go.Proofs.Ytodibldfolognaa
