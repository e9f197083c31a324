/-
  secret.New: a table of secrets. Conditions: sizes.
-/
import Derived.Test.YtobddmpiljknpaaPpH
namespace Go.Proofs.Ytobddmpiljknpaa
open Go.RowKit
set_option linter.unusedVariables false
set_option linter.unusedSimpArgs false

abbrev zSec : Array Value := #[.string ⟨#[]⟩, .string ⟨#[]⟩, .string ⟨#[]⟩, .slice none 0 0]
theorem info_sec : (Try.prog.info? 44).map (fun i => (i.zero, i.size, i.bytes)) = some (some (.agg zSec), 4, 72) := by kernel_rfl
def SV.blk (u : SV) : Option Nat := (Value.slice u.A u.n u.k).ownBlock
/-- What two readings of a secret share. -/
def SV.dat (u : SV) : (ByteArray × ByteArray) × ByteArray × List Int := ((u.c, u.s), u.d, u.xs)
structure SV.Size (u : SV) : Prop where
  c : u.c.size ≤ 140737488355328
  s : u.s.size ≤ 140737488355328
  d : u.d.size ≤ 140737488355328
  n : u.xs.length = u.n
  m : u.n ≤ 17592186044416
/-- A list of secrets that a call has made: the list and all that hangs on it lie in blocks of their own, from base on. -/
structure SecsOwn (w : World) (base : Nat) (v : Value) (us : List SV) : Prop where
  row : w.ownsRow base 44 4 v us.length (secs us)
  each : ∀ u ∈ us, w.ownsRow base 2 1 (.slice u.A u.n u.k) u.n (nums .i64 u.xs)
  apart : ∀ u ∈ us, ∀ b, u.blk = some b → v.ownBlock ≠ some b
  size : ∀ u ∈ us, u.Size
section
variable {w w' W W1 w2 : World} {base B : Nat} {v L v2 : Value} {us : List SV} {u : SV}
theorem SecsOwn.nil_ (w : World) (base : Nat) : SecsOwn w base (.slice none 0 0) [] := ⟨own_nil _ _ _ _, by simp, by simp, by simp⟩
theorem SecsOwn.ext [h : Ext w w'] (k : SecsOwn w base v us) : SecsOwn w' base v us := ⟨own_below k.row h.out, fun u hu => own_below (k.each u hu) h.out, k.apart, k.size⟩
theorem SecsOwn.weaken {b' : Nat} (h : b' ≤ base) (k : SecsOwn w base v us) : SecsOwn w b' v us := ⟨own_weaken k.row h, fun u hu => own_weaken (k.each u hu) h, k.apart, k.size⟩
theorem SecsOwn.young {p : Addr} {x : Value} (hp : p.block < base) (k : SecsOwn w base v us) : SecsOwn (w.setCell p x) base v us := ⟨own_young k.row hp, fun u hu => own_young (k.each u hu) hp, k.apart, k.size⟩
theorem SecsOwn.heap (hh : ∀ k, base ≤ k → w'.heap[k]? = w.heap[k]?) (k : SecsOwn w base v us) : SecsOwn w' base v us := ⟨own_heap k.row hh, fun u hu => own_heap (k.each u hu) hh, k.apart, k.size⟩
theorem SecsOwn.at {A : Option Addr} {m c : Nat} (k : SecsOwn w base (.slice A m c) us) : SecsAt w A us := ⟨own_cells k.row, fun u hu => by
  have h1 := k.size u hu
  have h2 := k.each u hu
  obtain ⟨A', c', he, hc⟩ := own_slice h2
  injection he with _ _ he
  exact ⟨h1.c, h1.s, h1.d, h1.n, h1.m, by omega, own_cells h2⟩⟩
theorem SecsOwn.push (H : SecsOwn W B L us) (hB : B ≤ W.heap.size) (e1 : Ext W W1) (ho1 : W1.ownsRow W.heap.size 2 1 (.slice u.A u.n u.k) u.n (nums .i64 u.xs)) (hok : u.Size)
    (ho2 : w2.ownsRow B 44 4 v2 (us.length + 1) (secs us ++ u.cells)) (hg : W1.grownBy w2 L.ownBlock) (hat : v2.ownBlock = L.ownBlock ∨ ∃ b, v2.ownBlock = some b ∧ W1.heap.size ≤ b) : SecsOwn w2 B v2 (us ++ [u]) := by
  obtain ⟨HO, HA, HD, HV⟩ := H
  have hl1 : ∀ b, u.blk = some b → b < W1.heap.size ∧ W.heap.size ≤ b := fun b hb => ⟨own_lt ho1 b hb, own_base ho1 b hb⟩
  have hL : ∀ b, L.ownBlock = some b → b < W.heap.size ∧ B ≤ b := fun b hb => ⟨own_lt HO b hb, own_base HO b hb⟩
  have hv : ∀ x ∈ us, ∀ b, x.blk = some b → b < W.heap.size := fun x hx b hb => own_lt (HA x hx) b hb
  have hz1 : W.heap.size ≤ W1.heap.size := e1.out.size
  refine ⟨?_, ?_, ?_, ?_⟩
  · rw [secs_append, List.length_append, List.length_singleton]
    simpa [secs] using ho2
  · intro x hx
    rcases List.mem_append.1 hx with hx | hx
    · refine own_grown (own_below (HA x hx) e1.out) hg ?_
      rcases he : (Value.slice x.A x.n x.k).ownBlock with _ | b
      · exact .inl rfl
      · exact .inr fun h => HD x hx b he h.symm
    · simp at hx
      subst hx
      refine own_weaken (own_grown ho1 hg ?_) hB
      rcases he : (Value.slice x.A x.n x.k).ownBlock with _ | b
      · exact .inl rfl
      · refine .inr fun h1 => ?_
        have h2 := (hL b h1.symm).1
        have h3 := (hl1 b he).2
        omega
  · intro x hx b hb he
    rcases hat with hat | ⟨b', hat, hb'⟩
    · rw [hat] at he
      rcases List.mem_append.1 hx with hx | hx
      · exact HD x hx b hb he
      · simp at hx
        subst hx
        have h2 := (hL b he).1
        have h3 := (hl1 b hb).2
        omega
    · rw [hat] at he
      injection he with he
      rcases List.mem_append.1 hx with hx | hx
      · have := hv x hx b hb
        omega
      · simp at hx
        subst hx
        have h3 := (hl1 b hb).1
        omega
  · intro x hx
    rcases List.mem_append.1 hx with hx | hx
    · exact HV x hx
    · simp at hx
      subst hx
      exact hok
end
/-- A table of secrets, at block T. -/
def TabAt (w : World) (T : Nat) (us : List SV) : Prop := ∃ v, w.heap[T]? = some (.cells #[v] 165 (0, 0)) ∧ SecsOwn w (T + 1) v us
theorem TabAt.ext {w w' : World} {T : Nat} {us : List SV} [h : Ext w w'] (k : TabAt w T us) : TabAt w' T us := by
  obtain ⟨v, h1, h2⟩ := k
  exact ⟨v, at_ext h1, h2.ext⟩
def SecNewTells (us : List SV) (w : World) (e : Ending) (w' : World) : Prop :=
  Below w.heap.size w w' ∧ if (wrongF us).1 ≠ 0 then e = .returned (.tuple #[.pointer none, .int .i64 (wrongF us).1, .int .i64 (wrongF us).2])
    else ∃ T vs, e = .returned (.tuple #[.pointer (some ⟨T, 0, none⟩), .int .i64 0, .int .i64 0]) ∧ w.heap.size ≤ T ∧ TabAt w' T vs ∧ vs.map SV.dat = us.map SV.dat
set_option maxRecDepth 100000 in
set_option maxHeartbeats 4000000 in
theorem new_any (A : Option Addr) (n c : Nat) (us : List SV) (hn : us.length = n) (hn' : n ≤ 17592186044416) (w : World) (hx : SecsAt w A us) :
    Calls Try.prog 78 #[.slice A n c] w (SecNewTells us w) := by
  have Hn := Lib.hid hn
  have HX := Lib.hid hx
  clear hn hx
  by_cases hw : (wrongF us).1 = 0
  · have HF : Hid (∀ e w', (Below w.heap.size w w' ∧ ∃ T vs, e = .returned (.tuple #[.pointer (some ⟨T, 0, none⟩), .int .i64 0, .int .i64 0]) ∧ w.heap.size ≤ T ∧ TabAt w' T vs ∧ vs.map SV.dat = us.map SV.dat) → SecNewTells us w e w') := fun e w' h => ⟨h.1, by rw [if_neg (by simp [hw])]; exact h.2⟩
    have HW0 := Lib.hid hw
    have H64 : Hid (n ≤ 64) := by
      unfold Hid
      by_cases h : 64 < us.length
      · unfold wrongF at hw
        rw [if_pos h] at hw
        simp at hw
      · rw [← Hn.out]; omega
    clear hw
    go_enter Try.func78, Try.ntmps78
    go_wp2_with fail
    refine (wrong_any A n c us Hn.out hn' _ HX.out).mono ?_
    rintro e w1 ⟨rfl, hb1⟩
    rw [HW0.out]
    have S1 : Step w1 w := ⟨hb1⟩
    have X1 : Hid (Ext w w1) := (inferInstance : Ext w w1)
    clear hb1
    go_wp2_with fail
    obtain ⟨T, hT⟩ : ∃ T, w1.heap.size = T := ⟨_, rfl⟩
    have HT : Hid (w.heap.size ≤ T) := by unfold Hid; rw [← hT]; exact size_ext
    have HTT := Lib.hid hT
    simp only [hT]
    go_loopw [23, 9] (fun i a wr => ∃ (k : Nat) (L : Value) (vs : List SV), i = .int .i64 k ∧ k ≤ n ∧ vs.length = k ∧ Hid (wr.heap[T]? = some (.cells #[L] 165 (0, 0))) ∧ Hid (SecsOwn wr (T + 1) L vs) ∧ Hid (vs.map SV.dat = (us.map SV.dat).take k) ∧ Hid (Ext w wr)) (fun i _ _ => n - (intOf i).toNat)
    case atStart => exact ⟨0, .slice none 0 0, [], rfl, by omega, rfl, at_new1 hT, SecsOwn.nil_ _ _, rfl, (inferInstance : Ext w _)⟩
    case round =>
      obtain ⟨k, L, vs, rfl, hk, rfl, HTC, HO, HD, HW⟩ := hrel
      have Sr : Step wr w := ⟨HW.out.out⟩
      by_cases hlt : vs.length < n
      · obtain ⟨u, hu⟩ : ∃ u, us[vs.length]? = some u := ⟨_, List.getElem?_eq_getElem (by rw [Hn.out]; exact hlt)⟩
        obtain ⟨ad, rfl, hc0, hc1, hc2, hc3⟩ := sec_at (HX.out.ext (w' := wr)).x hu
        have HK := Lib.hid ((HX.out.ext (w' := wr)).ok u (List.mem_of_getElem? hu))
        have HD2 : Hid ((us.map SV.dat).take (vs.length + 1) = (us.map SV.dat).take vs.length ++ [u.dat]) := take_snoc (by rw [List.getElem?_map, hu]; rfl)
        clear hu
        obtain ⟨uc, uss, ud, uA, un, uk, ux⟩ := u
        simp only at hc0 hc1 hc2 hc3
        have hT0 : wr.cell? ⟨T, 0, none⟩ = some L := at_cell HTC.out 0
        go_upto_region 8 with fail
        obtain ⟨wq, hwq⟩ : ∃ wq, wr.alloc (.cells #[.string uc, .string uss, .string ud, .slice uA un uk] 44) = wq := ⟨_, rfl⟩
        have HU : Hid (wq.heap[wr.heap.size]? = some (.cells #[.string uc, .string uss, .string ud, .slice uA un uk] 44 (0, 0))) := by unfold Hid; rw [← hwq]; exact at_new wr _
        have Sq : Step wq wr := ⟨by rw [← hwq]; exact Ext.out⟩
        rw [hwq]
        clear hwq hT0
        have hT0 : wq.cell? ⟨T, 0, none⟩ = some L := at_cell (at_ext HTC.out) 0
        have u0 : wq.cell? ⟨wr.heap.size, 0, none⟩ = some (.string uc) := at_cell HU.out 0
        have u1 : wq.cell? ⟨wr.heap.size, 1, none⟩ = some (.string uss) := at_cell HU.out 1
        have u2 : wq.cell? ⟨wr.heap.size, 2, none⟩ = some (.string ud) := at_cell HU.out 2
        have u3 : wq.cell? ⟨wr.heap.size, 3, none⟩ = some (.slice uA un uk) := at_cell HU.out 3
        go_region_law
          (first
           | (refine step_call ?hg Try.func108 (by kernel_rfl) (by kernel_rfl) #[.tmp 32] #[44] ?ho #[.agg #[.string uc, .string uss, .string ud, .slice uA un uk]] ?hv (own_any ⟨uc, uss, ud, uA, un, uk, ux⟩ _ ?c1) ?_
              (case hg => rfl)
              (case ho => rfl)
              (case hv => go_simp)
              (case c1 => exact HK.out.ext)
              rintro e w2 ⟨A2, k2, rfl, ho2, hb2⟩
              simp only [SV.val]
              have S2 : Step w2 wq := ⟨(Ext.trans_ (inferInstance : Ext wq wq.drew) ⟨hb2⟩).out⟩
              have HO2 := Lib.hid ho2
              have HX2 : Hid (Ext w w2) := (inferInstance : Ext w w2)
              have hT2 : w2.cell? ⟨T, 0, none⟩ = some L := at_cell (at_ext HTC.out) 0
              have hT3 : ∀ o, (w2.alloc o).cell? ⟨T, 0, none⟩ = some L := fun o => at_cell (at_ext HTC.out) 0
              clear ho2 hb2
              refine ⟨_, rfl, ?_⟩)
           | (refine step_append (T + 1) rfl (.tmp 31) (.tmp 34) 37 44 (.agg zSec) 4 72 rfl Try.underlying37 info_sec rfl (by decide) (by decide) L vs.length (secs vs) _ 1 1 [.string uc, .string uss, .string ud, .slice A2 un k2] rfl rfl rfl ?e1 ?e0 ?e2 ?e3 ?e4 ?_
              (case e1 => exact secs_one [⟨uc, uss, ud, A2, un, k2, ux⟩])
              (case e0 => exact own_ext HO.out.row)
              (case e2 => exact cells_box w2 _ rfl [.string uc, .string uss, .string ud, .slice A2 un k2] _)
              (case e3 => exact at_lt (at_ext HTC.out))
              (case e4 => have := H64.out; omega)
              intro v3 w3 ho3 hg3 hat3
              obtain ⟨A3, c3, rfl, hc3'⟩ := own_slice ho3
              have HT3 : Hid (w3.heap[T]? = some (.cells #[L] 165 (0, 0))) := (hg3.block T (at_lt (at_ext HTC.out)) (fun h => by have := own_base HO.out.row T h.symm; omega)).trans (at_ext HTC.out)
              have HS3 := Lib.hid (SecsOwn.push (u := ⟨uc, uss, ud, A2, un, k2, ux⟩) (HO.out.ext (w' := wq)) (at_lt (at_ext (w' := wq) HTC.out)) inferInstance (own_ext HO2.out) ⟨HK.out.c, HK.out.s, HK.out.d, HK.out.n, HK.out.m⟩ ho3 hg3 (hat3.imp_right fun h => ⟨_, h, Nat.le_refl _⟩))
              have HB3 : Hid (Below w.heap.size w w3) := below_grown (Ext.out (w := w)) (size_ext (w := w)) hg3 (fun j hj => by have := own_base HO.out.row j hj; have := HT.out; omega)
              have q3 : w3.cell? ⟨T, 0, none⟩ = some L := at_cell HT3.out 0
              have f3 : w3.frozen? ⟨T, 0, none⟩ = false := at_frozen HT3.out 0
              clear ho3 hg3 hat3 hc3'))
        all_goals go_wp2
        all_goals go_roundw
        all_goals first
          | exact ⟨vs.length + 1, .slice A3 (vs.length + 1) c3, vs ++ [⟨uc, uss, ud, A2, un, k2, ux⟩], by go_num, by omega, by simp, at_set HT3.out 0 _, SecsOwn.young (by simp) HS3.out, (by unfold Hid; rw [List.map_append, HD.out, HD2.out]; rfl), ⟨(HB3.out.setCell (p := ⟨T, 0, none⟩) HT.out _)⟩⟩
          | (simp [intOf]; omega)
      · obtain rfl : vs.length = n := by omega
        go_wp2
        go_ret3
        exact HF.out _ _ ⟨HW.out.out, T, vs, rfl, HT.out, ⟨L, HTC.out, HO.out⟩, by rw [HD.out, List.take_of_length_le (by rw [List.length_map, Hn.out]; exact Nat.le_refl _)]⟩
  · have hw' : ((wrongF us).1 != 0) = true := by simpa using hw
    have HF : Hid (∀ w', Below w.heap.size w w' → SecNewTells us w (.returned (.tuple #[.pointer none, .int .i64 (wrongF us).1, .int .i64 (wrongF us).2])) w') := fun w' h => ⟨h, by rw [if_pos hw]⟩
    clear hw
    obtain ⟨p1, hp1⟩ : ∃ p1, (wrongF us).1 = p1 := ⟨_, rfl⟩
    obtain ⟨p2, hp2⟩ : ∃ p2, (wrongF us).2 = p2 := ⟨_, rfl⟩
    rw [hp1, hp2] at HF
    rw [hp1] at hw'
    have HP1 := Lib.hid hp1
    have HP2 := Lib.hid hp2
    clear hp1 hp2
    go_enter Try.func78, Try.ntmps78
    go_wp2_with fail
    refine (wrong_any A n c us Hn.out hn' _ HX.out).mono ?_
    rintro e w1 ⟨rfl, hb1⟩
    rw [HP1.out, HP2.out]
    go_wp2_with fail
    go_ret3
    exact HF.out _ hb1
end Go.Proofs.Ytobddmpiljknpaa
