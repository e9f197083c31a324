/-
  eap.parse. Conditions: sizes.
-/
import Derived.Test.YtobddmpiljknpaaEaB
import Derived.Test.YtobddmpiljknpaaB6
namespace Go.Proofs.Ytobddmpiljknpaa
open Go.RowKit
set_option linter.unusedVariables false
set_option linter.unusedSimpArgs false

def parE (code ty : Int) (ys : List Int) : Int :=
  if ty = 1 ∨ ty = 2 then 0
  else if ty = 3 then (if code = 1 then 90 else if ys = [] then 8 else 0)
  else if ty = 4 then (match prtF ys with | none => 8 | some (p, _) => if p = [] then 3 else 0)
  else 0
/-- What parse makes of bytes that it can read. -/
def BodyIs (bv : Value) (ty : Int) (ys : List Int) (B : Option Addr) (m d : Nat) : Prop :=
  if ty = 1 ∨ ty = 2 then bv = .iface 117 (.string (strOfNums ys))
  else if ty = 4 then ∃ p r A1 c1 A2 c2, prtF ys = some (p, r) ∧ bv = .iface 119 (.agg #[.slice A1 p.length c1, .slice A2 r.length c2]) ∧ ∀ W, Cells W B (nums .u8 ys) → Cells W A1 (nums .u8 p) ∧ Cells W A2 (nums .u8 r)
  else bv = .iface 120 (.slice B m d)
def ParTells (code ty : Int) (ys : List Int) (B : Option Addr) (m d : Nat) (w : World) (e : Ending) (w' : World) : Prop :=
  ∃ bv, e = .returned (.tuple #[bv, .int .i64 (parE code ty ys)]) ∧ (parE code ty ys = 0 → BodyIs bv ty ys B m d) ∧ Below w.heap.size w w'
section
variable {code ty x : Int} {ys : List Int} {B : Option Addr} {m d : Nat} {w w' : World} {bv : Value}
theorem par_no (h : parE code ty ys = x) (hx : x ≠ 0) (hb : Below w.heap.size w w') : ParTells code ty ys B m d w (.returned (.tuple #[.nilIface, .int .i64 x])) w' := by
  subst h
  exact ⟨_, rfl, fun h => absurd h hx, hb⟩
theorem par_yes (h : parE code ty ys = 0) (hv : BodyIs bv ty ys B m d) (hb : Below w.heap.size w w') : ParTells code ty ys B m d w (.returned (.tuple #[bv, .int .i64 0])) w' :=
  ⟨bv, by rw [h], fun _ => hv, hb⟩
end
set_option maxRecDepth 100000 in
set_option maxHeartbeats 4000000 in
theorem parse4_any (code : Int) (B : Option Addr) (m d : Nat) (ys : List Int) (hm : ys.length = m) (hm' : m ≤ 140737488355000) (hmd : m ≤ d) (hb : Byt ys) (w : World) (hx : Cells w B (nums .u8 ys)) :
    Calls Try.prog 74 #[.int .i64 code, .int .i64 4, .slice B m d] w (ParTells code 4 ys B m d w) := by
  have Hm := Lib.hid hm
  have HX := Lib.hid hx
  have HB := Lib.hid hb
  clear hm hx hb
  rcases ys with _ | ⟨X, zs⟩
  · obtain rfl : m = 0 := Hm.out.symm
    have HE : Hid (parE code 4 [] = 8) := by unfold Hid parE; rw [if_neg (by omega), if_neg (by omega), if_pos rfl]; rfl
    go_enter Try.func74, Try.ntmps74
    go_wp2
    go_ret2
    exact par_no HE.out (by decide) (Below.refl _ _)
  have hl : zs.length + 1 = m := Hm.out
  have hX := HB.out X (by simp)
  obtain ⟨ad, rfl, hc⟩ := HX.out.num (xs := X :: zs) (i := 0) (by simp)
  have hc0 : w.cell? ad = some (.int .u8 X) := by
    have h := hc
    unfold Addr.add at h
    rw [if_pos rfl] at h
    exact h
  have hX0 := hX.1
  have hX1 := hX.2
  have hn0 : ((m : Int) == 0) = false := by simp only [beq_eq_false_iff_ne, ne_eq]; omega
  have hn1b : (0 : Int) < (m : Int) := by omega
  have hn1c : 0 < m := by omega
  have hw1 : IntKind.i64.wrap ((m : Int) - 1) = (m : Int) - 1 := by rw [IntKind.wrap_i64]; omega
  have hwX : IntKind.i64.wrap X = X := by rw [IntKind.wrap_i64]; omega
  clear hc hX
  by_cases hlt : (zs.length : Int) < X
  · have HE : Hid (parE code 4 (X :: zs) = 8) := by
      unfold Hid parE
      rw [if_neg (by omega), if_neg (by omega), if_pos rfl, show prtF (X :: zs) = none from if_pos hlt]
    have hle : (m : Int) - 1 < X := by omega
    have hled : decide ((m : Int) - 1 < X) = true := decide_eq_true hle
    go_enter Try.func74, Try.ntmps74
    go_wp2
    go_ret2
    exact par_no HE.out (by decide) (Below.refl _ _)
  have hle : ¬ (m : Int) - 1 < X := by omega
  have hled : decide ((m : Int) - 1 < X) = false := decide_eq_false hle
  obtain ⟨x, rfl⟩ : ∃ x : Nat, X = x := ⟨X.toNat, by omega⟩
  have HPR : Hid (prtF ((x : Int) :: zs) = some (zs.take x, zs.drop x)) := by
    unfold Hid
    have h : prtF ((x : Int) :: zs) = some (zs.take (x : Int).toNat, zs.drop (x : Int).toNat) := if_neg hlt
    rw [h, Int.toNat_natCast]
  have hxy : x ≤ zs.length := by omega
  clear hlt
  by_cases hz : x = 0
  · have HE : Hid (parE code 4 ((x : Int) :: zs) = 3) := by
      unfold Hid parE
      rw [if_neg (by omega), if_neg (by omega), if_pos rfl, HPR.out]
      simp only
      rw [if_pos (by rw [hz]; rfl)]
    have hzb : ((x : Int) == 0) = true := by simpa using hz
    clear hz
    go_enter Try.func74, Try.ntmps74
    go_wp2
    go_ret2
    exact par_no HE.out (by decide) (Below.refl _ _)
  have HE : Hid (parE code 4 ((x : Int) :: zs) = 0) := by
    unfold Hid parE
    rw [if_neg (by omega), if_neg (by omega), if_pos rfl, HPR.out]
    simp only
    rw [if_neg]
    intro h
    have h2 := congrArg List.length h
    rw [List.length_take, List.length_nil] at h2
    omega
  have hzb : ((x : Int) == 0) = false := by simpa using hz
  clear hz
  have hw : IntKind.i64.wrap (1 + (x : Int)) = 1 + (x : Int) := by rw [IntKind.wrap_i64]; omega
  have b1 : ¬ (d : Int) < 1 + (x : Int) := by omega
  have b2 : 1 + (x : Int) ≤ (m : Int) := by omega
  have b3 : 1 + (x : Int) ≤ (d : Int) := by omega
  have b4 : 0 ≤ 1 + (x : Int) := by omega
  have b5 : 1 ≤ 1 + (x : Int) := by omega
  have ht : (1 + (x : Int)).toNat = 1 + x := by omega
  have e1 : ad.add 1 = ⟨ad.block, ad.off + 1, none⟩ := by unfold Addr.add; rw [if_neg (by decide)]
  have HCC : Hid (∀ W, Cells W (some ad) (nums .u8 ((x : Int) :: zs)) → Cells W (if d = 1 then some ad else some (⟨ad.block, ad.off + 1, none⟩ : Addr)) (nums .u8 (zs.take x)) ∧ Cells W (if d = 1 + x then some ad else some (ad.add (1 + x))) (nums .u8 (zs.drop x))) := by
    intro W hW
    have hd1 := Cells.drop (size := 1) (n := m) (c := d) hW (by rw [nums_length, Hm.out, Nat.mul_one]) hmd 1 (by omega)
    have hd2 := Cells.drop (size := 1) (n := m) (c := d) hW (by rw [nums_length, Hm.out, Nat.mul_one]) hmd (1 + x) (by omega)
    rw [Nat.mul_one, ← nums_drop, Nat.add_comm 1 x, List.drop_succ_cons, Option.map_some, Nat.add_comm x 1] at hd2
    rw [Nat.mul_one, ← nums_drop, List.drop_succ_cons, List.drop_zero, Option.map_some, e1] at hd1
    exact ⟨by rw [nums_take]; exact hd1.take x, hd2⟩
  obtain ⟨A1, hA1⟩ : ∃ A1, (if d = 1 then some ad else some (⟨ad.block, ad.off + 1, none⟩ : Addr)) = A1 := ⟨_, rfl⟩
  obtain ⟨A2, hA2⟩ : ∃ A2, (if d = 1 + x then some ad else some (ad.add (1 + x))) = A2 := ⟨_, rfl⟩
  rw [hA1, hA2] at HCC
  have HTL : Hid ((zs.take x).length = x) := by unfold Hid; rw [List.length_take]; omega
  have HDL : Hid ((zs.drop x).length = m - (1 + x)) := by unfold Hid; rw [List.length_drop]; omega
  clear e1 hl
  go_enter Try.func74, Try.ntmps74
  go_upto_region 16 with fail
  refine wp_region_held_drew (S := fun W => Ext w W) (by kernel_rfl) (by exact inferInstance) (fun hHeld => ?_)
  refine wpAnyH_take (i := 0) (v := ?_) rfl (by kernel_rfl) (by kernel_rfl) (by kernel_rfl) (fun _ _ _ h => h) (Yields.yieldsIf (Or.inl ⟨by rfl, ?_⟩)) hHeld ?_
  rotate_left
  · intro W
    go_simp
    try with_reducible rfl
  simp only [List.getElem_toArray, List.getElem_cons_succ, List.getElem_cons_zero, Act.put, List.setIfInBounds_toArray, List.set_cons_zero, List.set_cons_succ]
  refine wpAnyH_take (i := 1) (v := ?_) rfl (by kernel_rfl) (by kernel_rfl) (by kernel_rfl) (fun _ _ _ h => h) (Yields.yieldsIf (Or.inl ⟨by rfl, ?_⟩)) hHeld ?_
  rotate_left
  · intro W
    go_simp
    try with_reducible rfl
  simp only [List.getElem_toArray, List.getElem_cons_succ, List.getElem_cons_zero, Act.put, List.setIfInBounds_toArray, List.set_cons_zero, List.set_cons_succ]
  refine wpAnyH_take (i := 2) (v := ?_) rfl (by kernel_rfl) (by kernel_rfl) (by kernel_rfl) (fun _ _ _ h => h) (Yields.yieldsIf (Or.inl ⟨by rfl, ?_⟩)) hHeld ?_
  rotate_left
  · intro W
    go_simp
    try with_reducible rfl
  simp only [List.getElem_toArray, List.getElem_cons_succ, List.getElem_cons_zero, Act.put, List.setIfInBounds_toArray, List.set_cons_zero, List.set_cons_succ]
  refine wpAnyH_take (i := 3) (v := ?_) rfl (by kernel_rfl) (by kernel_rfl) (by kernel_rfl) (fun _ _ _ h => h) (Yields.yieldsIf (Or.inl ⟨by rfl, ?_⟩)) hHeld ?_
  rotate_left
  · intro W
    go_simp
    try with_reducible rfl
  simp only [List.getElem_toArray, List.getElem_cons_succ, List.getElem_cons_zero, Act.put, List.setIfInBounds_toArray, List.set_cons_zero, List.set_cons_succ]
  refine wpAnyH_take (i := 4) (v := ?_) rfl (by kernel_rfl) (by kernel_rfl) (by kernel_rfl) (fun _ _ _ h => h) (Yields.yieldsIf (Or.inl ⟨by rfl, ?_⟩)) hHeld ?_
  rotate_left
  · intro W
    go_simp
    try with_reducible rfl
  simp only [List.getElem_toArray, List.getElem_cons_succ, List.getElem_cons_zero, Act.put, List.setIfInBounds_toArray, List.set_cons_zero, List.set_cons_succ]
  refine wpAnyH_take (i := 5) (v := ?_) rfl (by kernel_rfl) (by kernel_rfl) (by kernel_rfl) (fun _ _ _ h => h) (Yields.yieldsIf (Or.inl ⟨by rfl, ?_⟩)) hHeld ?_
  rotate_left
  · intro W
    go_simp
    try with_reducible rfl
  simp only [List.getElem_toArray, List.getElem_cons_succ, List.getElem_cons_zero, Act.put, List.setIfInBounds_toArray, List.set_cons_zero, List.set_cons_succ]
  refine wpAnyH_take (i := 6) (v := ?_) rfl (by kernel_rfl) (by kernel_rfl) (by kernel_rfl) (fun _ _ _ h => h) (Yields.yieldsIf (Or.inl ⟨by rfl, ?_⟩)) hHeld ?_
  rotate_left
  · intro W
    go_simp
    try with_reducible rfl
  simp only [List.getElem_toArray, List.getElem_cons_succ, List.getElem_cons_zero, Act.put, List.setIfInBounds_toArray, List.set_cons_zero, List.set_cons_succ]
  refine wpAnyH_take (i := 7) (v := ?_) rfl (by kernel_rfl) (by kernel_rfl) (by kernel_rfl) (fun _ _ _ h => h) (Yields.yieldsIf (Or.inl ⟨by rfl, ?_⟩)) hHeld ?_
  rotate_left
  · intro W
    go_simp
    try with_reducible rfl
  simp only [List.getElem_toArray, List.getElem_cons_succ, List.getElem_cons_zero, Act.put, List.setIfInBounds_toArray, List.set_cons_zero, List.set_cons_succ]
  refine wpAnyH_take (i := 8) (v := ?_) rfl (by kernel_rfl) (by kernel_rfl) (by kernel_rfl) (fun _ _ _ h => h) (Yields.yieldsIf (Or.inl ⟨by rfl, ?_⟩)) hHeld ?_
  rotate_left
  · intro W
    go_simp
    try with_reducible rfl
  simp only [List.getElem_toArray, List.getElem_cons_succ, List.getElem_cons_zero, Act.put, List.setIfInBounds_toArray, List.set_cons_zero, List.set_cons_succ]
  refine wpAnyH_ready (rs := [9]) (by kernel_rfl) (by simp) ?_
  refine AllReadyH.cons rfl (fun K hK => ?_) AllReadyH.nil
  rw [if_pos (by rfl)]
  unfold Oper.wp
  go_simp
  clear hHeld
  refine hK.out _ _ (by exact inferInstance) (fun hHeld => ?_)
  clear hK K
  try simp only [List.getElem_toArray, List.getElem_cons_succ, List.getElem_cons_zero, Act.put, List.setIfInBounds_toArray, List.set_cons_zero, List.set_cons_succ]
  refine wpAnyH_take (i := 10) (v := ?_) rfl (by kernel_rfl) (by kernel_rfl) (by kernel_rfl) (fun _ _ _ h => h) (Yields.yieldsIf (Or.inl ⟨by rfl, ?_⟩)) hHeld ?_
  rotate_left
  · intro W
    go_simp
    try with_reducible rfl
  simp only [List.getElem_toArray, List.getElem_cons_succ, List.getElem_cons_zero, Act.put, List.setIfInBounds_toArray, List.set_cons_zero, List.set_cons_succ]
  refine wpAnyH_take (i := 11) (v := ?_) rfl (by kernel_rfl) (by kernel_rfl) (by kernel_rfl) (fun _ _ _ h => h) (Yields.yieldsIf (Or.inl ⟨by rfl, ?_⟩)) hHeld ?_
  rotate_left
  · intro W
    go_simp
    try with_reducible rfl
  simp only [List.getElem_toArray, List.getElem_cons_succ, List.getElem_cons_zero, Act.put, List.setIfInBounds_toArray, List.set_cons_zero, List.set_cons_succ]
  refine wpAnyH_done (by kernel_rfl) ?_ _
  clear hHeld hA1 hA2
  go_wp2
  go_ret2
  have HV : BodyIs (.iface 119 (.agg #[.slice A1 x (d - 1), .slice A2 (m - (1 + x)) (d - (1 + x))])) 4 ((x : Int) :: zs) (some ad) m d := by
    unfold BodyIs
    rw [if_neg (by omega), if_pos rfl]
    exact ⟨_, _, A1, d - 1, A2, d - (1 + x), HPR.out, by rw [HTL.out, HDL.out], HCC.out⟩
  exact par_yes HE.out HV (inferInstance : Ext w w.drew).out
set_option maxRecDepth 100000 in
set_option maxHeartbeats 4000000 in
theorem parse_any (code ty : Int) (B : Option Addr) (m d : Nat) (ys : List Int) (hm : ys.length = m) (hm' : m ≤ 140737488355000) (hmd : m ≤ d) (hb : Byt ys) (w : World) (hx : Cells w B (nums .u8 ys)) :
    Calls Try.prog 74 #[.int .i64 code, .int .i64 ty, .slice B m d] w (ParTells code ty ys B m d w) := by
  by_cases t4 : ty = 4
  · subst t4
    exact parse4_any code B m d ys hm hm' hmd hb w hx
  have t4b : (ty == 4) = false := by simpa using t4
  have Hm := Lib.hid hm
  have HX := Lib.hid hx
  have HB := Lib.hid hb
  have k2 : (convert 22 117 (.slice B m d)).run Try.prog w = .ok (.string (strOfNums ys)) w :=
    conv_cells (P := Try.prog) (c := d) 22 5 117 Try.underlying22 Try.underlying5 Try.underlying117 Hm.out HX.out
  clear hm hx hb
  by_cases t1 : ty = 1
  · subst t1
    have HE : Hid (parE code 1 ys = 0) := if_pos (by omega)
    have HV : Hid (BodyIs (.iface 117 (.string (strOfNums ys))) 1 ys B m d) := by unfold Hid BodyIs; rw [if_pos (by omega)]
    clear t4
    go_enter Try.func74, Try.ntmps74
    go_wp2
    go_ret2
    exact par_yes HE.out HV.out (Below.refl _ _)
  have t1b : (ty == 1) = false := by simpa using t1
  by_cases t2 : ty = 2
  · subst t2
    have HE : Hid (parE code 2 ys = 0) := if_pos (by omega)
    have HV : Hid (BodyIs (.iface 117 (.string (strOfNums ys))) 2 ys B m d) := by unfold Hid BodyIs; rw [if_pos (by omega)]
    clear t1 t4
    go_enter Try.func74, Try.ntmps74
    go_wp2
    go_ret2
    exact par_yes HE.out HV.out (Below.refl _ _)
  have t2b : (ty == 2) = false := by simpa using t2
  have HV : Hid (BodyIs (.iface 120 (.slice B m d)) ty ys B m d) := by unfold Hid BodyIs; rw [if_neg (by omega), if_neg t4]
  by_cases t3 : ty = 3
  case neg =>
    have HE : Hid (parE code ty ys = 0) := by unfold Hid parE; rw [if_neg (by omega), if_neg t3, if_neg t4]
    have t3b : (ty == 3) = false := by simpa using t3
    clear t1 t2 t3 t4
    go_enter Try.func74, Try.ntmps74
    go_wp2
    go_ret2
    exact par_yes HE.out HV.out (Below.refl _ _)
  subst t3
  by_cases c1 : code = 1
  · have HE : Hid (parE code 3 ys = 90) := by unfold Hid parE; rw [if_neg (by omega), if_pos rfl, if_pos c1]
    have c1b : (code == 1) = true := by simpa using c1
    clear t1 t2 t4 c1
    go_enter Try.func74, Try.ntmps74
    go_wp2
    go_ret2
    exact par_no HE.out (by decide) (Below.refl _ _)
  have c1b : (code == 1) = false := by simpa using c1
  by_cases hz : m = 0
  · have HE : Hid (parE code 3 ys = 8) := by unfold Hid parE; rw [if_neg (by omega), if_pos rfl, if_neg c1, if_pos (List.eq_nil_of_length_eq_zero (by rw [Hm.out]; exact hz))]
    have hzb : ((m : Int) == 0) = true := by simpa using hz
    clear t1 t2 t4 c1 hz
    go_enter Try.func74, Try.ntmps74
    go_wp2
    go_ret2
    exact par_no HE.out (by decide) (Below.refl _ _)
  · have HE : Hid (parE code 3 ys = 0) := by unfold Hid parE; rw [if_neg (by omega), if_pos rfl, if_neg c1, if_neg (fun h => hz (by rw [← Hm.out, h]; rfl))]
    have hzb : ((m : Int) == 0) = false := by simpa using hz
    clear t1 t2 t4 c1 hz
    go_enter Try.func74, Try.ntmps74
    go_wp2
    go_ret2
    exact par_yes HE.out HV.out (Below.refl _ _)
end Go.Proofs.Ytobddmpiljknpaa
