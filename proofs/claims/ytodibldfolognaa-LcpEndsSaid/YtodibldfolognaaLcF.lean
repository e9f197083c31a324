/-
  lcp.Judge: the answer to any request. Conditions: the list is no longer than the model's memory.
-/
import Derived.Test.YtodibldfolognaaLcD
import Derived.Test.YtodibldfolognaaLcE
import Derived.Test.YtodibldfolognaaFits
import Derived.Test.YtodibldfolognaaReg
namespace Go.Proofs.Ytodibldfolognaa
open Go.RowKit
set_option linter.unusedVariables false
set_option linter.unusedSimpArgs false

abbrev OL := List (Int × List Int)
def lothF (acc : List Int) (mm magic : Int) (o : Int × List Int) : Option (Int × List Int) :=
  if o.1 = 1 ∧ numF o.2 < 64 then some (1, be 64 2)
  else if o.1 = 1 ∧ 16384 < numF o.2 then some (1, be 16384 2)
  else if o.1 = 3 ∧ (methF o.2 = 0 ∨ hasK acc (methF o.2) = false) then some (3, authL (acc.getD 0 0))
  else if o.1 = 5 ∧ (numF o.2 = 0 ∨ numF o.2 % 4294967296 = mm) then some (5, be magic 4)
  else none
def lokF (C : LC) (pre : OL) (o : Int × List Int) : Bool := lborneF C o.1 o.2.length && !hasTy pre o.1
def ljUpd (C : LC) (acc : List Int) (mm magic : Int) (pre : OL) (o : Int × List Int) (s : OL × OL × OL) : OL × OL × OL :=
  if lokF C pre o = false then (s.1 ++ [o], s.2.1, s.2.2)
  else match lothF acc mm magic o with
    | some y => (s.1, s.2.1 ++ [y], s.2.2 ++ [o])
    | none => s
def ljRun (C : LC) (acc : List Int) (mm magic : Int) : OL → OL → OL × OL × OL → OL × OL × OL
  | _, [], s => s
  | pre, o :: rest, s => ljRun C acc mm magic (pre ++ [o]) rest (ljUpd C acc mm magic pre o s)
def ljudgeF (C : LC) (acc : List Int) (mm magic maxf naks : Int) (os : OL) : Int × OL :=
  let r := ljRun C acc mm magic [] os ([], [], [])
  if r.1 ≠ [] then (4, r.1) else if r.2.1 ≠ [] then (if naks < maxf then (3, r.2.1) else (4, r.2.2)) else (2, os)
section
variable {C : LC} {acc : List Int} {mm magic : Int} {os pre : OL} {k : Nat} {s r : OL × OL × OL} {o y : Int × List Int}
theorem ljRun_end (h : ljRun C acc mm magic pre (os.drop k) s = r) (hk : os.length ≤ k) : r = s := by
  rw [List.drop_of_length_le hk, ljRun] at h
  exact h.symm
theorem ljRun_step (h : ljRun C acc mm magic (os.take k) (os.drop k) s = r) (ho : os[k]? = some o) : ljRun C acc mm magic (os.take (k + 1)) (os.drop (k + 1)) (ljUpd C acc mm magic (os.take k) o s) = r := by
  rw [drop_at ho, ljRun] at h
  rw [take_snoc ho]
  exact h
theorem ljUpd_bad (h : lokF C pre o = false) : ljUpd C acc mm magic pre o s = (s.1 ++ [o], s.2.1, s.2.2) := by unfold ljUpd; rw [if_pos h]
theorem ljUpd_oth (h : lokF C pre o = true) (h' : lothF acc mm magic o = some y) : ljUpd C acc mm magic pre o s = (s.1, s.2.1 ++ [y], s.2.2 ++ [o]) := by unfold ljUpd; rw [if_neg (by simp [h]), h']
theorem ljUpd_ok (h : lokF C pre o = true) (h' : lothF acc mm magic o = none) : ljUpd C acc mm magic pre o s = s := by unfold ljUpd; rw [if_neg (by simp [h]), h']
end
theorem lborneF_kind {C : LC} {t : Int} {n : Nat} (h : lborneF C t n = true) : t = 1 ∨ t = 2 ∨ t = 3 ∨ t = 5 ∨ t = 7 ∨ t = 8 := by
  unfold lborneF lsize at h
  by_cases h1 : t = 1; · exact .inl h1
  by_cases h2 : t = 2; · exact .inr (.inl h2)
  by_cases h3 : t = 3; · exact .inr (.inr (.inl h3))
  by_cases h5 : t = 5; · exact .inr (.inr (.inr (.inl h5)))
  by_cases h7 : t = 7; · exact .inr (.inr (.inr (.inr (.inl h7))))
  by_cases h8 : t = 8; · exact .inr (.inr (.inr (.inr (.inr h8))))
  simp [h1, h2, h3, h5, h7, h8] at h
def LTells (r : Int × OL) (w : World) (e : Ending) (w' : World) : Prop :=
  ∃ v us, e = .returned (.tuple #[.int .i64 r.1, v]) ∧ OptsOwn w' w.heap.size v us ∧ us.map OV.opt = r.2 ∧ Below w.heap.size w w'
theorem addr_zero (a : Addr) : a.add 0 = a := by unfold Addr.add; rw [if_pos rfl]
theorem loth_1a {acc : List Int} {mm magic N : Int} {xs : List Int} (h : numF xs = N) (hl : N < 64) : lothF acc mm magic (1, xs) = some (1, be 64 2) := by unfold lothF; exact if_pos ⟨rfl, by show numF xs < 64; rw [h]; exact hl⟩
theorem loth_1b {acc : List Int} {mm magic N : Int} {xs : List Int} (h : numF xs = N) (hl : ¬ N < 64) (hh : 16384 < N) : lothF acc mm magic (1, xs) = some (1, be 16384 2) := by unfold lothF; rw [if_neg (by intro q; have := q.2; simp only at this; omega)]; exact if_pos ⟨rfl, by show 16384 < numF xs; rw [h]; exact hh⟩
theorem loth_1n {acc : List Int} {mm magic N : Int} {xs : List Int} (h : numF xs = N) (hl : ¬ N < 64) (hh : ¬ 16384 < N) : lothF acc mm magic (1, xs) = none := by
  unfold lothF
  rw [if_neg (by intro q; have := q.2; simp only at this; omega), if_neg (by intro q; have := q.2; simp only at this; omega), if_neg (by simp), if_neg (by simp)]
theorem loth_no {acc : List Int} {mm magic t : Int} {xs : List Int} (h1 : t ≠ 1) (h3 : t ≠ 3) (h5 : t ≠ 5) : lothF acc mm magic (t, xs) = none := by
  unfold lothF
  rw [if_neg (by simp [h1]), if_neg (by simp [h1]), if_neg (by simp [h3]), if_neg (by simp [h5])]
theorem loth_3y {acc : List Int} {mm magic M : Int} {xs : List Int} (h : methF xs = M) (hm : M = 0 ∨ hasK acc M = false) : lothF acc mm magic (3, xs) = some (3, authL (acc.getD 0 0)) := by
  unfold lothF
  rw [if_neg (by simp), if_neg (by simp)]
  exact if_pos ⟨rfl, by show methF xs = 0 ∨ hasK acc (methF xs) = false; rw [h]; exact hm⟩
theorem loth_3n {acc : List Int} {mm magic M : Int} {xs : List Int} (h : methF xs = M) (h0 : ¬ M = 0) (hm : hasK acc M = true) : lothF acc mm magic (3, xs) = none := by
  unfold lothF
  rw [if_neg (by simp), if_neg (by simp), if_neg (by rintro ⟨_, q | q⟩ <;> simp only [h] at q; exact h0 q; rw [hm] at q; cases q), if_neg (by simp)]
theorem loth_5y {acc : List Int} {mm magic N : Int} {xs : List Int} (h : numF xs = N) (hm : N = 0 ∨ N % 4294967296 = mm) : lothF acc mm magic (5, xs) = some (5, be magic 4) := by
  unfold lothF
  rw [if_neg (by simp), if_neg (by simp), if_neg (by simp)]
  exact if_pos ⟨rfl, by show numF xs = 0 ∨ numF xs % 4294967296 = mm; rw [h]; exact hm⟩
theorem loth_5n {acc : List Int} {mm magic N : Int} {xs : List Int} (h : numF xs = N) (h0 : ¬ N = 0) (hm : ¬ N % 4294967296 = mm) : lothF acc mm magic (5, xs) = none := by
  unfold lothF
  rw [if_neg (by simp), if_neg (by simp), if_neg (by simp), if_neg (by rintro ⟨_, q | q⟩ <;> simp only [h] at q; exact h0 q; exact hm q)]
theorem lborne_3 {C : LC} {n : Nat} (h : lborneF C 3 n = true) : 0 < C.an := by
  unfold lborneF at h
  split at h
  · cases h
  · simpa using h
theorem lTells_of {J : Int × OL} {a : Int} {os : OL} {w w' : World} {v : Value} {us : List OV} (h : J = (a, os)) (hv : OptsOwn w' w.heap.size v us) (hu : us.map OV.opt = os) (hb : Below w.heap.size w w') : LTells J w (.returned (.tuple #[.int .i64 a, v])) w' := by
  subst h
  exact ⟨v, us, rfl, hv, hu, hb⟩
theorem map_ne {us : List OV} (h : 0 < us.length) : us.map OV.opt ≠ [] := fun he => by
  rw [List.map_eq_nil_iff] at he
  rw [he] at h
  exact absurd h (by simp)
set_option maxRecDepth 100000 in
set_option maxHeartbeats 8000000 in
theorem ljudge_any (cf : Array Value) (acc : List Int) (pf af mgb : Bool) (AA : Option Addr) (ac : Nat) (maxf naks magic mm mru accm auth : Int) (b1 b2 : Bool) (A : Option Addr) (n c : Nat) (vs : List OV)
    (hL : LConf cf ⟨acc.length, pf, af, mgb⟩ AA ac) (hmf : cf[21]? = some (.int .i64 maxf)) (hmg0 : 0 ≤ magic) (hmg1 : magic < 4294967296) (hac : acc.length ≤ 9223372036854775807) (hn : vs.length = n) (hn' : n ≤ 4398046511104) (hnc : n ≤ c)
    (w : World) (hx : Cells w A (flat vs)) (gx : Good w vs) (hacc : Cells w AA (nums .i64 acc)) :
    Calls Try.prog 14 #[.agg cf, .agg #[.int .i64 mru, .int .i64 accm, .int .i64 auth, .int .u32 mm, .bool b1, .bool b2], .slice A n c, .int .i64 naks, .int .u32 magic] w (LTells (ljudgeF ⟨acc.length, pf, af, mgb⟩ acc mm magic maxf naks (vs.map OV.opt)) w) := by
  have Hn := Lib.hid hn
  have HX := Lib.hid hx
  have GX := Lib.hid gx
  have HL := Lib.hid hL
  have HMF := Lib.hid hmf
  have HACC := Lib.hid hacc
  obtain ⟨mc, hmc⟩ : ∃ mc : List Value, mc = [.int .i64 mru, .int .i64 accm, .int .i64 auth, .int .u32 mm, .bool b1, .bool b2] := ⟨_, rfl⟩
  obtain ⟨C, hC⟩ : ∃ C : LC, C = ⟨acc.length, pf, af, mgb⟩ := ⟨_, rfl⟩
  obtain ⟨R, hR⟩ : ∃ R, ljRun C acc mm magic [] (vs.map OV.opt) ([], [], []) = R := ⟨_, rfl⟩
  have HR := Lib.hid hR
  have HCC := Lib.hid hC
  rw [← hC]
  obtain ⟨J, hJ⟩ : ∃ J, ljudgeF C acc mm magic maxf naks (vs.map OV.opt) = J := ⟨_, rfl⟩
  rw [hJ]
  unfold ljudgeF at hJ
  simp only [hR] at hJ
  have HJ := Lib.hid hJ
  have HG0 : Hid (((w.alloc (.cells cf 25)).alloc (.cells #[.int .i64 mru, .int .i64 accm, .int .i64 auth, .int .u32 mm, .bool b1, .bool b2] 33)).heap[w.heap.size]? = some (.cells cf 25 (0, 0))) := at_ext (at_new w _)
  have HM0 : Hid (((w.alloc (.cells cf 25)).alloc (.cells #[.int .i64 mru, .int .i64 accm, .int .i64 auth, .int .u32 mm, .bool b1, .bool b2] 33)).heap[w.heap.size + 1]? = some (.cells #[.int .i64 mru, .int .i64 accm, .int .i64 auth, .int .u32 mm, .bool b1, .bool b2] 33 (0, 0))) := at_new1 (by simp)
  have HZ0 : Hid (((w.alloc (.cells cf 25)).alloc (.cells #[.int .i64 mru, .int .i64 accm, .int .i64 auth, .int .u32 mm, .bool b1, .bool b2] 33)).heap.size = w.heap.size + 2) := by unfold Hid; simp
  have HE0 : Hid (Ext w ((w.alloc (.cells cf 25)).alloc (.cells #[.int .i64 mru, .int .i64 accm, .int .i64 auth, .int .u32 mm, .bool b1, .bool b2] 33))) := inferInstanceAs (Ext w _)
  clear hn hx gx hL hmf hacc hR hJ hC hmc mc
  go_enter Try.func14, Try.ntmps14
  go_wp2
  go_step3
  go_wp2
  go_step3
  go_wp2
  obtain ⟨w0, hw0⟩ : ∃ w0, (w.alloc (.cells cf 25)).alloc (.cells #[.int .i64 mru, .int .i64 accm, .int .i64 auth, .int .u32 mm, .bool b1, .bool b2] 33) = w0 := ⟨_, rfl⟩
  rw [hw0] at HG0 HM0 HZ0 HE0 ⊢
  clear hw0
  have XE0 : Ext w w0 := HE0.out
  go_loopw [13, 14, 15, 23] (fun b o s i wr => ∃ (k : Nat) (bvs us zs : List OV), i = .int .i64 k ∧ k ≤ n ∧ bvs.length ≤ k ∧ us.length ≤ k ∧ zs.length ≤ k ∧ Hid (Three wr w0.heap.size b o s bvs us zs) ∧ Hid (ljRun C acc mm magic ((vs.map OV.opt).take k) ((vs.map OV.opt).drop k) (bvs.map OV.opt, us.map OV.opt, zs.map OV.opt) = R) ∧ Hid (Ext w0 wr)) (fun _ _ _ i _ => n - (intOf i).toNat)
  case atStart => exact ⟨0, [], [], [], rfl, by omega, by simp, by simp, by simp, Three.nil_ _ _, HR.out, Ext.refl_ _⟩
  case round =>
    obtain ⟨k, bvs, us, zs, rfl, hk, hlb, hlu, hlz, H3, HRK, HXR⟩ := hrel
    have XR : Ext w0 wr := HXR.out
    have YR : Ext w wr := Ext.trans_ XE0 XR
    obtain ⟨Lb, cb, rfl, hcb⟩ := own_slice H3.out.b.1
    obtain ⟨Lo, co, rfl, hco⟩ := own_slice H3.out.o.1
    obtain ⟨Lz, cz, rfl, hcz⟩ := own_slice H3.out.z.1
    have HG := Lib.hid (at_ext (w' := wr) HG0.out)
    have HM := Lib.hid (at_ext (w' := wr) HM0.out)
    by_cases hlt : k < n
    · obtain ⟨v, hv, hvm⟩ := optD (vs := vs) (k := k) (by rw [Hn.out]; exact hlt)
      obtain ⟨ad, rfl, hc0, hc1⟩ := opt_at (HX.out.ext (w' := wr)) hv
      have GV := Lib.hid (GX.out v hvm)
      have HV : Hid ((vs.map OV.opt)[k]? = some v.opt) := by unfold Hid; rw [List.getElem?_map, hv]; rfl
      have HRS := Lib.hid (ljRun_step HRK.out HV.out)
      clear hv hvm
      obtain ⟨t, VA, vn, vc, xs⟩ := v
      simp only at hc0 hc1
      have hvl : (OV.opt ⟨t, VA, vn, vc, xs⟩).2.length = vn := GV.out.1
      have HTT : Hid ((vs.map OV.opt)[k]?.map Prod.fst = some t) := by unfold Hid; rw [HV.out]; rfl
      rcases hbn : lborneF C t vn with _ | _
      · have hok : lokF C ((vs.map OV.opt).take k) (OV.opt ⟨t, VA, vn, vc, xs⟩) = false := by unfold lokF; rw [hvl]; show (lborneF C t vn && _) = false; rw [hbn]; rfl
        have HRN := HRS.out
        rw [ljUpd_bad hok] at HRN
        have HRN := Lib.hid HRN
        have HBN := Lib.hid hbn
        rw [HCC.out] at HBN
        clear hbn hok hvl HRS
        go_wp2_with fail
        refine (lborne_any cf acc.length pf af mgb AA ac w.heap.size t VA vn vc HL.out _ (at_ext HG.out)).mono ?_
        rintro e w1 ⟨rfl, hb1⟩
        have S1 : Step w1 _ := ⟨hb1⟩
        have HP := Lib.hid (at_ext (w' := w1) (at_new wr (.cells #[.int .i64 t, .slice VA vn vc] 119)))
        have p0 : w1.cell? ⟨wr.heap.size, 0, none⟩ = some (.int .i64 t) := at_cell HP.out 0
        have p1 : w1.cell? ⟨wr.heap.size, 1, none⟩ = some (.slice VA vn vc) := at_cell HP.out 1
        clear hb1
        rw [HBN.out]
        go_wp2_with fail
        refine (lagain_any t VA vn vc xs GV.out.1 (by have := GV.out.2.2.1; omega) _ (by exact GV.out.2.2.2.2.ext)).mono ?_
        rintro e w3 ⟨A3, c3, rfl, ho3, hb3⟩
        have S3 : Step w3 w1 := ⟨hb3⟩
        have HD3 := Lib.hid ho3
        clear ho3 hb3
        go_wp2_with
          (at_builtin
           refine wp_append_box (w0 := w0) w0.heap.size rfl (.tmp 37) (.tmp 40) 29 119 (.agg #[.int .i64 0, .slice none 0 0]) 2 32 1 rfl Try.underlying29 info_opt rfl (by decide) (by decide) (.slice Lb bvs.length cb) bvs.length (flat bvs) [.int .i64 t, .slice A3 vn c3] rfl rfl rfl (flat_one [⟨t, A3, vn, c3, []⟩]) (own_ext H3.out.b.1) Ext.out Ext.out.size (by omega) ?_
           intro v4 w4 ho4 hb4 hg4 hat4
           have HS4 := Lib.hid (Three.push (u := ⟨t, A3, vn, c3, xs⟩) (H3.out.ext (w' := w1)) size_ext (inferInstance : Ext w1 w3) HD3.out ⟨GV.out.1, by have := GV.out.2.2.1; simp only; omega, GV.out.2.2.2.1⟩ ho4 hg4 hat4)
           have X4 : Hid (Ext w0 w4) := ⟨hb4⟩
           clear ho4 hb4 hg4 hat4)
        refine ⟨⟨k + 1, (bvs ++ [(⟨t, A3, vn, c3, xs⟩ : OV)]), us, zs, by go_num, by omega, by (simp; omega), by omega, by omega, HS4.out, by (rw [List.map_append]; exact HRN.out), X4.out⟩, by simp [intOf]; omega⟩
      · rcases hty : hasTy ((vs.map OV.opt).take k) t with _ | _
        · have hok : lokF C ((vs.map OV.opt).take k) (OV.opt ⟨t, VA, vn, vc, xs⟩) = true := by unfold lokF; rw [hvl]; show (lborneF C t vn && !hasTy _ t) = true; rw [hbn, hty]; rfl
          have HBN := Lib.hid hbn
          have HTY := Lib.hid hty
          rw [HCC.out] at HBN
          have HKI := lborneF_kind hbn
          have HOK := Lib.hid hok
          obtain ⟨N, hN⟩ : ∃ N, numF xs = N := ⟨_, rfl⟩
          have HNX := Lib.hid hN
          have hN0 := numF_bd xs
          rw [hN] at hN0
          have hN1 := hN0.1
          have hN2 := hN0.2
          have GW : Hid (xs.length = vn ∧ vn ≤ vc ∧ vn ≤ 140737488355300 ∧ Byt xs ∧ Cells w VA (nums .u8 xs)) := GV.out
          clear hbn hok hvl hty hN hN0
          rcases HKI with h | h | h | h | h | h
          · subst h
            by_cases hlo : N < 64
            · skip
              have HRN := HRS.out
              rw [(ljUpd_oth HOK.out (loth_1a HNX.out hlo))] at HRN
              have HRN := Lib.hid HRN
              clear HRS
              go_wp2_with fail
              refine (lborne_any cf acc.length pf af mgb AA ac w.heap.size 1 VA vn vc HL.out _ (at_ext HG.out)).mono ?_
              rintro e w1 ⟨rfl, hb1⟩
              have S1 : Step w1 _ := ⟨hb1⟩
              have HP := Lib.hid (at_ext (w' := w1) (at_new wr (.cells #[.int .i64 1, .slice VA vn vc] 119)))
              have p0 : w1.cell? ⟨wr.heap.size, 0, none⟩ = some (.int .i64 1) := at_cell HP.out 0
              have p1 : w1.cell? ⟨wr.heap.size, 1, none⟩ = some (.slice VA vn vc) := at_cell HP.out 1
              clear hb1
              rw [HBN.out]
              go_wp2_with fail
              refine (ltwice_any ad n c k vs 1 Hn.out hn' hnc hlt w1 (by exact HX.out.ext) HTT.out).mono ?_
              rintro e w2 ⟨rfl, hb2⟩
              rw [HTY.out]
              have S2 : Step w2 w1 := ⟨hb2⟩
              have q0 : w2.cell? ⟨wr.heap.size, 0, none⟩ = some (.int .i64 1) := cell_ext p0
              have q1 : w2.cell? ⟨wr.heap.size, 1, none⟩ = some (.slice VA vn vc) := cell_ext p1
              have HZW : Hid (wr.heap.size < w2.heap.size) := World.block_lt_of_cell? _ _ q0
              clear hb2 p0 p1
              go_wp2_with fail
              refine (lnumber_any VA vn vc xs GW.out.1 (by have := GW.out.2.2.1; omega) GW.out.2.2.2.1 _ (by exact GW.out.2.2.2.2.ext)).mono ?_
              rintro e w2' ⟨rfl, rfl⟩
              rw [HNX.out]
              go_wp2_with fail
              refine (lput_any 64 2 (by omega) (by omega) (by omega) w2).mono ?_
              rintro e w3 ⟨A3, c3, rfl, ho3, hb3⟩
              have S3 : Step w3 w2 := ⟨hb3⟩
              have HD3 := Lib.hid ho3
              have r0 : w3.cell? ⟨wr.heap.size, 0, none⟩ = some (.int .i64 1) := cell_ext q0
              have r1 : w3.cell? ⟨wr.heap.size, 1, none⟩ = some (.slice VA vn vc) := cell_ext q1
              clear ho3 hb3 q0 q1
              go_wp2_with
                (at_builtin
                 refine wp_append_box (w0 := w0) w0.heap.size rfl (.tmp 105) (.tmp 110) 29 119 (.agg #[.int .i64 0, .slice none 0 0]) 2 32 1 rfl Try.underlying29 info_opt rfl (by decide) (by decide) (.slice Lo us.length co) us.length (flat us) [.int .i64 1, .slice A3 2 c3] rfl rfl rfl (flat_one [⟨1, A3, 2, c3, []⟩]) (own_ext H3.out.o.1) Ext.out Ext.out.size (by omega) ?_
                 intro v4 w4 ho4 hb4 hg4 hat4
                 have HS4 := Lib.hid (Three.left (Three.push (u := ⟨1, A3, 2, c3, (be 64 2)⟩) (Three.left (H3.out.ext (w' := w2))) size_ext (inferInstance : Ext w2 w3) HD3.out ⟨(be_length _ _), by have := hlo; simp only; omega, (be_byt _ _)⟩ ho4 hg4 hat4))
                 have HX4 : Hid (Ext w0 w4) := ⟨hb4⟩
                 have X4 : Ext w0 w4 := HX4.out
                 have s0 : w4.cell? ⟨wr.heap.size, 0, none⟩ = some (.int .i64 1) := hg4.cell r0 (fun he => absurd (own_lt H3.out.o.1 _ he.symm) (Nat.lt_irrefl _))
                 have s1 : w4.cell? ⟨wr.heap.size, 1, none⟩ = some (.slice VA vn vc) := hg4.cell r1 (fun he => absurd (own_lt H3.out.o.1 _ he.symm) (Nat.lt_irrefl _))
                 clear ho4 hb4 hg4 hat4 r0 r1)
              have Y4 : Ext w w4 := Ext.trans_ XE0 HX4.out
              refine (lagain_any 1 VA vn vc xs GW.out.1 (by have := GW.out.2.2.1; omega) _ (by exact GW.out.2.2.2.2.ext)).mono ?_
              rintro e w5 ⟨A5, c5, rfl, ho5, hb5⟩
              have S5 : Step w5 w4 := ⟨hb5⟩
              have HD5 := Lib.hid ho5
              have E05 : Ext w0 w5 := Ext.trans_ HX4.out (inferInstance : Ext w4 w5)
              clear ho5 hb5
              go_wp2_with
                (at_builtin
                 refine wp_append_box (w0 := w0) w0.heap.size rfl (.tmp 112) (.tmp 115) 29 119 (.agg #[.int .i64 0, .slice none 0 0]) 2 32 1 rfl Try.underlying29 info_opt rfl (by decide) (by decide) (.slice Lz zs.length cz) zs.length (flat zs) [.int .i64 1, .slice A5 vn c5] rfl rfl rfl (flat_one [⟨1, A5, vn, c5, []⟩]) (own_ext HS4.out.z.1) E05.out E05.out.size (by omega) ?_
                 intro v6 w6 ho6 hb6 hg6 hat6
                 have HS6 := Lib.hid (Three.ends (Three.push (u := ⟨1, A5, vn, c5, xs⟩) (Three.ends HS4.out) HX4.out.out.size (inferInstance : Ext w4 w5) HD5.out ⟨GW.out.1, by have := GW.out.2.2.1; simp only; omega, GW.out.2.2.2.1⟩ ho6 hg6 hat6))
                 have X6 : Hid (Ext w0 w6) := ⟨hb6⟩
                 clear ho6 hb6 hg6 hat6)
              refine ⟨⟨k + 1, bvs, (us ++ [(⟨1, A3, 2, c3, (be 64 2)⟩ : OV)]), (zs ++ [(⟨1, A5, vn, c5, xs⟩ : OV)]), by go_num, by omega, by omega, by (simp; omega), by (simp; omega), HS6.out, by (rw [List.map_append, List.map_append]; exact HRN.out), X6.out⟩, by simp [intOf]; omega⟩
            · by_cases hhi : 16384 < N
              · skip
                have HRN := HRS.out
                rw [(ljUpd_oth HOK.out (loth_1b HNX.out hlo hhi))] at HRN
                have HRN := Lib.hid HRN
                clear HRS
                go_wp2_with fail
                refine (lborne_any cf acc.length pf af mgb AA ac w.heap.size 1 VA vn vc HL.out _ (at_ext HG.out)).mono ?_
                rintro e w1 ⟨rfl, hb1⟩
                have S1 : Step w1 _ := ⟨hb1⟩
                have HP := Lib.hid (at_ext (w' := w1) (at_new wr (.cells #[.int .i64 1, .slice VA vn vc] 119)))
                have p0 : w1.cell? ⟨wr.heap.size, 0, none⟩ = some (.int .i64 1) := at_cell HP.out 0
                have p1 : w1.cell? ⟨wr.heap.size, 1, none⟩ = some (.slice VA vn vc) := at_cell HP.out 1
                clear hb1
                rw [HBN.out]
                go_wp2_with fail
                refine (ltwice_any ad n c k vs 1 Hn.out hn' hnc hlt w1 (by exact HX.out.ext) HTT.out).mono ?_
                rintro e w2 ⟨rfl, hb2⟩
                rw [HTY.out]
                have S2 : Step w2 w1 := ⟨hb2⟩
                have q0 : w2.cell? ⟨wr.heap.size, 0, none⟩ = some (.int .i64 1) := cell_ext p0
                have q1 : w2.cell? ⟨wr.heap.size, 1, none⟩ = some (.slice VA vn vc) := cell_ext p1
                have HZW : Hid (wr.heap.size < w2.heap.size) := World.block_lt_of_cell? _ _ q0
                clear hb2 p0 p1
                go_wp2_with fail
                refine (lnumber_any VA vn vc xs GW.out.1 (by have := GW.out.2.2.1; omega) GW.out.2.2.2.1 _ (by exact GW.out.2.2.2.2.ext)).mono ?_
                rintro e w2' ⟨rfl, rfl⟩
                rw [HNX.out]
                go_wp2_with fail
                refine (lput_any 16384 2 (by omega) (by omega) (by omega) w2).mono ?_
                rintro e w3 ⟨A3, c3, rfl, ho3, hb3⟩
                have S3 : Step w3 w2 := ⟨hb3⟩
                have HD3 := Lib.hid ho3
                have r0 : w3.cell? ⟨wr.heap.size, 0, none⟩ = some (.int .i64 1) := cell_ext q0
                have r1 : w3.cell? ⟨wr.heap.size, 1, none⟩ = some (.slice VA vn vc) := cell_ext q1
                clear ho3 hb3 q0 q1
                go_wp2_with
                  (at_builtin
                   refine wp_append_box (w0 := w0) w0.heap.size rfl (.tmp 105) (.tmp 110) 29 119 (.agg #[.int .i64 0, .slice none 0 0]) 2 32 1 rfl Try.underlying29 info_opt rfl (by decide) (by decide) (.slice Lo us.length co) us.length (flat us) [.int .i64 1, .slice A3 2 c3] rfl rfl rfl (flat_one [⟨1, A3, 2, c3, []⟩]) (own_ext H3.out.o.1) Ext.out Ext.out.size (by omega) ?_
                   intro v4 w4 ho4 hb4 hg4 hat4
                   have HS4 := Lib.hid (Three.left (Three.push (u := ⟨1, A3, 2, c3, (be 16384 2)⟩) (Three.left (H3.out.ext (w' := w2))) size_ext (inferInstance : Ext w2 w3) HD3.out ⟨(be_length _ _), by have := hlo; simp only; omega, (be_byt _ _)⟩ ho4 hg4 hat4))
                   have HX4 : Hid (Ext w0 w4) := ⟨hb4⟩
                   have X4 : Ext w0 w4 := HX4.out
                   have s0 : w4.cell? ⟨wr.heap.size, 0, none⟩ = some (.int .i64 1) := hg4.cell r0 (fun he => absurd (own_lt H3.out.o.1 _ he.symm) (Nat.lt_irrefl _))
                   have s1 : w4.cell? ⟨wr.heap.size, 1, none⟩ = some (.slice VA vn vc) := hg4.cell r1 (fun he => absurd (own_lt H3.out.o.1 _ he.symm) (Nat.lt_irrefl _))
                   clear ho4 hb4 hg4 hat4 r0 r1)
                have Y4 : Ext w w4 := Ext.trans_ XE0 HX4.out
                refine (lagain_any 1 VA vn vc xs GW.out.1 (by have := GW.out.2.2.1; omega) _ (by exact GW.out.2.2.2.2.ext)).mono ?_
                rintro e w5 ⟨A5, c5, rfl, ho5, hb5⟩
                have S5 : Step w5 w4 := ⟨hb5⟩
                have HD5 := Lib.hid ho5
                have E05 : Ext w0 w5 := Ext.trans_ HX4.out (inferInstance : Ext w4 w5)
                clear ho5 hb5
                go_wp2_with
                  (at_builtin
                   refine wp_append_box (w0 := w0) w0.heap.size rfl (.tmp 112) (.tmp 115) 29 119 (.agg #[.int .i64 0, .slice none 0 0]) 2 32 1 rfl Try.underlying29 info_opt rfl (by decide) (by decide) (.slice Lz zs.length cz) zs.length (flat zs) [.int .i64 1, .slice A5 vn c5] rfl rfl rfl (flat_one [⟨1, A5, vn, c5, []⟩]) (own_ext HS4.out.z.1) E05.out E05.out.size (by omega) ?_
                   intro v6 w6 ho6 hb6 hg6 hat6
                   have HS6 := Lib.hid (Three.ends (Three.push (u := ⟨1, A5, vn, c5, xs⟩) (Three.ends HS4.out) HX4.out.out.size (inferInstance : Ext w4 w5) HD5.out ⟨GW.out.1, by have := GW.out.2.2.1; simp only; omega, GW.out.2.2.2.1⟩ ho6 hg6 hat6))
                   have X6 : Hid (Ext w0 w6) := ⟨hb6⟩
                   clear ho6 hb6 hg6 hat6)
                refine ⟨⟨k + 1, bvs, (us ++ [(⟨1, A3, 2, c3, (be 16384 2)⟩ : OV)]), (zs ++ [(⟨1, A5, vn, c5, xs⟩ : OV)]), by go_num, by omega, by omega, by (simp; omega), by (simp; omega), HS6.out, by (rw [List.map_append, List.map_append]; exact HRN.out), X6.out⟩, by simp [intOf]; omega⟩
              · skip
                have HRN := HRS.out
                rw [(ljUpd_ok HOK.out (loth_1n HNX.out hlo hhi))] at HRN
                have HRN := Lib.hid HRN
                go_wp2_with fail
                refine (lborne_any cf acc.length pf af mgb AA ac w.heap.size 1 VA vn vc HL.out _ (at_ext HG.out)).mono ?_
                rintro e w1 ⟨rfl, hb1⟩
                have S1 : Step w1 _ := ⟨hb1⟩
                have HP := Lib.hid (at_ext (w' := w1) (at_new wr (.cells #[.int .i64 1, .slice VA vn vc] 119)))
                have p0 : w1.cell? ⟨wr.heap.size, 0, none⟩ = some (.int .i64 1) := at_cell HP.out 0
                have p1 : w1.cell? ⟨wr.heap.size, 1, none⟩ = some (.slice VA vn vc) := at_cell HP.out 1
                clear hb1
                rw [HBN.out]
                go_wp2_with fail
                refine (ltwice_any ad n c k vs 1 Hn.out hn' hnc hlt w1 (by exact HX.out.ext) HTT.out).mono ?_
                rintro e w2 ⟨rfl, hb2⟩
                rw [HTY.out]
                have S2 : Step w2 w1 := ⟨hb2⟩
                have q0 : w2.cell? ⟨wr.heap.size, 0, none⟩ = some (.int .i64 1) := cell_ext p0
                have q1 : w2.cell? ⟨wr.heap.size, 1, none⟩ = some (.slice VA vn vc) := cell_ext p1
                have HZW : Hid (wr.heap.size < w2.heap.size) := World.block_lt_of_cell? _ _ q0
                clear hb2 p0 p1
                go_wp2_with fail
                refine (lnumber_any VA vn vc xs GW.out.1 (by have := GW.out.2.2.1; omega) GW.out.2.2.2.1 _ (by exact GW.out.2.2.2.2.ext)).mono ?_
                rintro e w2' ⟨rfl, rfl⟩
                rw [HNX.out]
                clear HRS
                go_wp2
                go_quiet (fail)
                go_wp2
                refine ⟨⟨k + 1, bvs, us, zs, by go_num, by omega, by omega, by omega, by omega, (H3.out.ext), by (exact HRN.out), (inferInstance : Ext w0 _)⟩, by simp [intOf]; omega⟩
          · subst h
            have HRN := HRS.out
            rw [(ljUpd_ok HOK.out (loth_no (t := 2) (by decide) (by decide) (by decide)))] at HRN
            have HRN := Lib.hid HRN
            go_wp2_with fail
            refine (lborne_any cf acc.length pf af mgb AA ac w.heap.size 2 VA vn vc HL.out _ (at_ext HG.out)).mono ?_
            rintro e w1 ⟨rfl, hb1⟩
            have S1 : Step w1 _ := ⟨hb1⟩
            have HP := Lib.hid (at_ext (w' := w1) (at_new wr (.cells #[.int .i64 2, .slice VA vn vc] 119)))
            have p0 : w1.cell? ⟨wr.heap.size, 0, none⟩ = some (.int .i64 2) := at_cell HP.out 0
            have p1 : w1.cell? ⟨wr.heap.size, 1, none⟩ = some (.slice VA vn vc) := at_cell HP.out 1
            clear hb1
            rw [HBN.out]
            go_wp2_with fail
            refine (ltwice_any ad n c k vs 2 Hn.out hn' hnc hlt w1 (by exact HX.out.ext) HTT.out).mono ?_
            rintro e w2 ⟨rfl, hb2⟩
            rw [HTY.out]
            have S2 : Step w2 w1 := ⟨hb2⟩
            have q0 : w2.cell? ⟨wr.heap.size, 0, none⟩ = some (.int .i64 2) := cell_ext p0
            have q1 : w2.cell? ⟨wr.heap.size, 1, none⟩ = some (.slice VA vn vc) := cell_ext p1
            have HZW : Hid (wr.heap.size < w2.heap.size) := World.block_lt_of_cell? _ _ q0
            clear hb2 p0 p1
            go_wp2_with fail
            refine (lnumber_any VA vn vc xs GW.out.1 (by have := GW.out.2.2.1; omega) GW.out.2.2.2.1 _ (by exact GW.out.2.2.2.2.ext)).mono ?_
            rintro e w2' ⟨rfl, rfl⟩
            rw [HNX.out]
            clear HRS
            go_wp2
            go_quiet (fail)
            go_wp2
            refine ⟨⟨k + 1, bvs, us, zs, by go_num, by omega, by omega, by omega, by omega, (H3.out.ext), by (exact HRN.out), (inferInstance : Ext w0 _)⟩, by simp [intOf]; omega⟩
          · subst h
            obtain ⟨M, hM⟩ : ∃ M, methF xs = M := ⟨_, rfl⟩
            have HME := Lib.hid hM
            have HACN := Lib.hid hac
            have HAPOS : Hid (0 < acc.length) := lborne_3 HBN.out
            have qa0 := Lib.hid ((at_cell HG.out 3).trans HL.out.acc)
            clear hM
            by_cases hm0 : M = 0
            · skip
              have HRN := HRS.out
              rw [(ljUpd_oth HOK.out (loth_3y HME.out (.inl hm0)))] at HRN
              have HRN := Lib.hid HRN
              clear HRS
              subst hm0
              go_wp2_with fail
              refine (lborne_any cf acc.length pf af mgb AA ac w.heap.size 3 VA vn vc HL.out _ (at_ext HG.out)).mono ?_
              rintro e w1 ⟨rfl, hb1⟩
              have S1 : Step w1 _ := ⟨hb1⟩
              have HP := Lib.hid (at_ext (w' := w1) (at_new wr (.cells #[.int .i64 3, .slice VA vn vc] 119)))
              have p0 : w1.cell? ⟨wr.heap.size, 0, none⟩ = some (.int .i64 3) := at_cell HP.out 0
              have p1 : w1.cell? ⟨wr.heap.size, 1, none⟩ = some (.slice VA vn vc) := at_cell HP.out 1
              clear hb1
              rw [HBN.out]
              go_wp2_with fail
              refine (ltwice_any ad n c k vs 3 Hn.out hn' hnc hlt w1 (by exact HX.out.ext) HTT.out).mono ?_
              rintro e w2 ⟨rfl, hb2⟩
              rw [HTY.out]
              have S2 : Step w2 w1 := ⟨hb2⟩
              have q0 : w2.cell? ⟨wr.heap.size, 0, none⟩ = some (.int .i64 3) := cell_ext p0
              have q1 : w2.cell? ⟨wr.heap.size, 1, none⟩ = some (.slice VA vn vc) := cell_ext p1
              have HZW : Hid (wr.heap.size < w2.heap.size) := World.block_lt_of_cell? _ _ q0
              clear hb2 p0 p1
              go_wp2_with fail
              refine (lnumber_any VA vn vc xs GW.out.1 (by have := GW.out.2.2.1; omega) GW.out.2.2.2.1 _ (by exact GW.out.2.2.2.2.ext)).mono ?_
              rintro e w2' ⟨rfl, rfl⟩
              rw [HNX.out]
              have qa : w2.cell? ⟨w.heap.size, 3, none⟩ = some (.slice AA acc.length ac) := cell_ext qa0.out
              go_wp2
              refine wp_region_held_drew (S := fun W => Ext w2 W) (by kernel_rfl) (by exact inferInstance) (fun hHeld => ?_)
              refine wpAnyH_take (i := 0) (v := ?_) rfl (by kernel_rfl) (by kernel_rfl) (by kernel_rfl) (fun _ _ _ h => h) (Yields.yieldsIf (Or.inl ⟨by rfl, ?_⟩)) hHeld ?_
              rotate_left
              · intro W
                go_simp
                try with_reducible rfl
              simp only [List.getElem_toArray, List.getElem_cons_succ, List.getElem_cons_zero, Act.put, List.setIfInBounds_toArray, List.set_cons_zero, List.set_cons_succ]
              refine wpAnyH_take (i := 1) (v := ?_) rfl (by kernel_rfl) (by kernel_rfl) (by kernel_rfl) (fun _ _ _ h => h) (Or.inl ⟨by rfl, ?_⟩) hHeld ?_
              rotate_left
              · intro W hW
                have hcl := (cell_ext (h := hW) q0)
                go_simp
                try with_reducible rfl
              simp only [List.getElem_toArray, List.getElem_cons_succ, List.getElem_cons_zero, Act.put, List.setIfInBounds_toArray, List.set_cons_zero, List.set_cons_succ]
              refine wpAnyH_take (i := 2) (v := ?_) rfl (by kernel_rfl) (by kernel_rfl) (by kernel_rfl) (fun _ _ _ h => h) (Yields.yieldsIf (Or.inl ⟨by rfl, ?_⟩)) hHeld ?_
              rotate_left
              · intro W
                go_simp
                try with_reducible rfl
              simp only [List.getElem_toArray, List.getElem_cons_succ, List.getElem_cons_zero, Act.put, List.setIfInBounds_toArray, List.set_cons_zero, List.set_cons_succ]
              refine wpAnyH_take (i := 3) (v := ?_) rfl (by kernel_rfl) (by kernel_rfl) (by kernel_rfl) (fun _ _ _ h => h) (Yields.yieldsIf (Or.inl ⟨by rfl, ?_⟩)) hHeld ?_
              rotate_left
              · intro W
                go_simp
                try with_reducible rfl
              simp only [List.getElem_toArray, List.getElem_cons_succ, List.getElem_cons_zero, Act.put, List.setIfInBounds_toArray, List.set_cons_zero, List.set_cons_succ]
              refine wpAnyH_take (i := 4) (v := ?_) rfl (by kernel_rfl) (by kernel_rfl) (by kernel_rfl) (fun _ _ _ h => h) (Yields.yieldsIf (Or.inl ⟨by rfl, ?_⟩)) hHeld ?_
              rotate_left
              · intro W
                go_simp
                try with_reducible rfl
              simp only [List.getElem_toArray, List.getElem_cons_succ, List.getElem_cons_zero, Act.put, List.setIfInBounds_toArray, List.set_cons_zero, List.set_cons_succ]
              refine wpAnyH_take (i := 5) (v := ?_) rfl (by kernel_rfl) (by kernel_rfl) (by kernel_rfl) (fun _ _ _ h => h) (Or.inl ⟨by rfl, ?_⟩) hHeld ?_
              rotate_left
              · intro W hW
                have hcl := (cell_ext (h := hW) q1)
                go_simp
                try with_reducible rfl
              simp only [List.getElem_toArray, List.getElem_cons_succ, List.getElem_cons_zero, Act.put, List.setIfInBounds_toArray, List.set_cons_zero, List.set_cons_succ]
              refine wpAnyH_ready (rs := [6]) (by kernel_rfl) (by simp) ?_
              refine AllReadyH.cons rfl (fun K hK => ?_) AllReadyH.nil
              refine step_call_w (by rfl) Try.func38 (by kernel_rfl) (by kernel_rfl) #[.tmp 69] #[41] rfl #[.slice VA vn vc] ?hv (lmethod_any VA vn vc xs GW.out.1 (by have := GW.out.2.2.1; omega) _ (by exact GW.out.2.2.2.2.ext)) ?_
              case hv => go_simp
              rintro e wm ⟨rfl, hbb⟩
              refine ⟨_, rfl, ?_⟩
              rw [HME.out]
              have Sm : Step wm _ := ⟨hbb⟩
              clear hbb hHeld
              refine hK.out _ _ (by exact inferInstance) (fun hHeld => ?_)
              clear hK K
              simp only [List.getElem_toArray, List.getElem_cons_succ, List.getElem_cons_zero, Act.put, List.setIfInBounds_toArray, List.set_cons_zero, List.set_cons_succ]
              refine wpAnyH_take (i := 7) (v := ?_) rfl (by kernel_rfl) (by kernel_rfl) (by kernel_rfl) (fun _ _ _ h => h) (Yields.yieldsIf (Or.inl ⟨by rfl, ?_⟩)) hHeld ?_
              rotate_left
              · intro W
                go_simp
                try with_reducible rfl
              simp only [List.getElem_toArray, List.getElem_cons_succ, List.getElem_cons_zero, Act.put, List.setIfInBounds_toArray, List.set_cons_zero, List.set_cons_succ]
              refine wpAnyH_take (i := 8) (v := ?_) rfl (by kernel_rfl) (by kernel_rfl) (by kernel_rfl) (fun _ _ _ h => h) (Yields.yieldsIf (Or.inl ⟨by rfl, ?_⟩)) hHeld ?_
              rotate_left
              · intro W
                go_simp
                try with_reducible rfl
              simp only [List.getElem_toArray, List.getElem_cons_succ, List.getElem_cons_zero, Act.put, List.setIfInBounds_toArray, List.set_cons_zero, List.set_cons_succ]
              refine wpAnyH_take (i := 9) (v := undef) rfl (by kernel_rfl) (by kernel_rfl) (by kernel_rfl) (fun _ _ _ h => h) (Yields.yieldsIf (Or.inr ⟨by rfl, rfl⟩)) hHeld ?_
              simp only [List.getElem_toArray, List.getElem_cons_succ, List.getElem_cons_zero, Act.put, List.setIfInBounds_toArray, List.set_cons_zero, List.set_cons_succ]
              refine wpAnyH_take (i := 10) (v := undef) rfl (by kernel_rfl) (by kernel_rfl) (by kernel_rfl) (fun _ _ _ h => h) (Yields.yieldsIf (Or.inr ⟨by rfl, rfl⟩)) hHeld ?_
              simp only [List.getElem_toArray, List.getElem_cons_succ, List.getElem_cons_zero, Act.put, List.setIfInBounds_toArray, List.set_cons_zero, List.set_cons_succ]
              refine wpAnyH_take (i := 11) (v := undef) rfl (by kernel_rfl) (by kernel_rfl) (by kernel_rfl) (fun _ _ _ h => h) (Yields.yieldsIf (Or.inr ⟨by rfl, rfl⟩)) hHeld ?_
              simp only [List.getElem_toArray, List.getElem_cons_succ, List.getElem_cons_zero, Act.put, List.setIfInBounds_toArray, List.set_cons_zero, List.set_cons_succ]
              refine wpAnyH_take (i := 12) (v := undef) rfl (by kernel_rfl) (by kernel_rfl) (by kernel_rfl) (fun _ _ _ h => h) (Yields.yieldsIf (Or.inr ⟨by rfl, rfl⟩)) hHeld ?_
              simp only [List.getElem_toArray, List.getElem_cons_succ, List.getElem_cons_zero, Act.put, List.setIfInBounds_toArray, List.set_cons_zero, List.set_cons_succ]
              refine wpAnyH_take (i := 13) (v := undef) rfl (by kernel_rfl) (by kernel_rfl) (by kernel_rfl) (fun _ _ _ h => h) (Yields.yieldsIf (Or.inr ⟨by rfl, rfl⟩)) hHeld ?_
              simp only [List.getElem_toArray, List.getElem_cons_succ, List.getElem_cons_zero, Act.put, List.setIfInBounds_toArray, List.set_cons_zero, List.set_cons_succ]
              refine wpAnyH_take (i := 14) (v := undef) rfl (by kernel_rfl) (by kernel_rfl) (by kernel_rfl) (fun _ _ _ h => h) (Yields.yieldsIf (Or.inr ⟨by rfl, rfl⟩)) hHeld ?_
              simp only [List.getElem_toArray, List.getElem_cons_succ, List.getElem_cons_zero, Act.put, List.setIfInBounds_toArray, List.set_cons_zero, List.set_cons_succ]
              refine wpAnyH_take (i := 15) (v := undef) rfl (by kernel_rfl) (by kernel_rfl) (by kernel_rfl) (fun _ _ _ h => h) (Yields.yieldsIf (Or.inr ⟨by rfl, rfl⟩)) hHeld ?_
              simp only [List.getElem_toArray, List.getElem_cons_succ, List.getElem_cons_zero, Act.put, List.setIfInBounds_toArray, List.set_cons_zero, List.set_cons_succ]
              refine wpAnyH_take (i := 16) (v := ?_) rfl (by kernel_rfl) (by kernel_rfl) (by kernel_rfl) (fun _ _ _ h => h) (Yields.yieldsIf (Or.inl ⟨by rfl, ?_⟩)) hHeld ?_
              rotate_left
              · intro W
                go_simp
                try with_reducible rfl
              simp only [List.getElem_toArray, List.getElem_cons_succ, List.getElem_cons_zero, Act.put, List.setIfInBounds_toArray, List.set_cons_zero, List.set_cons_succ]
              refine wpAnyH_take (i := 17) (v := ?_) rfl (by kernel_rfl) (by kernel_rfl) (by kernel_rfl) (fun _ _ _ h => h) (Yields.yieldsIf (Or.inl ⟨by rfl, ?_⟩)) hHeld ?_
              rotate_left
              · intro W
                go_simp
                try with_reducible rfl
              simp only [List.getElem_toArray, List.getElem_cons_succ, List.getElem_cons_zero, Act.put, List.setIfInBounds_toArray, List.set_cons_zero, List.set_cons_succ]
              refine wpAnyH_take (i := 18) (v := ?_) rfl (by kernel_rfl) (by kernel_rfl) (by kernel_rfl) (fun _ _ _ h => h) (Yields.yieldsIf (Or.inl ⟨by rfl, ?_⟩)) hHeld ?_
              rotate_left
              · intro W
                go_simp
                try with_reducible rfl
              simp only [List.getElem_toArray, List.getElem_cons_succ, List.getElem_cons_zero, Act.put, List.setIfInBounds_toArray, List.set_cons_zero, List.set_cons_succ]
              refine wpAnyH_done (by kernel_rfl) ?_ _
              clear hHeld
              have E2Y : Ext w2 wm := inferInstance
              have EWY : Ext w wm := inferInstance
              obtain ⟨aa, rfl, hca⟩ := (HACC.out.ext (w' := wm)).num HAPOS.out
              have hca0 : wm.cell? aa = some (.int .i64 (acc.getD 0 0)) := by rw [addr_zero aa] at hca; exact hca
              have qaY : wm.cell? ⟨w.heap.size, 3, none⟩ = some (.slice (some aa) acc.length ac) := cell_ext qa
              have q0Y : wm.cell? ⟨wr.heap.size, 0, none⟩ = some (.int .i64 3) := cell_ext q0
              have q1Y : wm.cell? ⟨wr.heap.size, 1, none⟩ = some (.slice VA vn vc) := cell_ext q1
              have hapI : (0 : Int) < (acc.length : Int) := by have := HAPOS.out; omega
              have hapN : 0 < acc.length := HAPOS.out
              obtain ⟨a0, ha0⟩ : ∃ a0, acc.getD 0 0 = a0 := ⟨_, rfl⟩
              rw [ha0] at hca hca0 HRN
              clear ha0
              go_wp2_with fail
              clear q0 q1
              have q0 := q0Y
              have q1 := q1Y
              refine (lauth_any a0 _).mono ?_
              rintro e w3 ⟨v7, rfl, ho3, hb3⟩
              have HDL := authL_len a0
              have HDB := authL_byt a0
              obtain ⟨dd, hdd⟩ : ∃ dd, authL a0 = dd := ⟨_, rfl⟩
              rw [hdd] at ho3 HDL HDB HRN
              clear hdd
              obtain ⟨A3, c3, rfl, _⟩ := own_slice ho3
              clear q0Y q1Y qaY hca hca0
              have S3 : Step w3 wm := ⟨hb3⟩
              have HD3 := Lib.hid ho3
              have r0 : w3.cell? ⟨wr.heap.size, 0, none⟩ = some (.int .i64 3) := cell_ext q0
              have r1 : w3.cell? ⟨wr.heap.size, 1, none⟩ = some (.slice VA vn vc) := cell_ext q1
              clear ho3 hb3 q0 q1
              go_wp2_with
                (at_builtin
                 refine wp_append_box (w0 := w0) w0.heap.size rfl (.tmp 105) (.tmp 110) 29 119 (.agg #[.int .i64 0, .slice none 0 0]) 2 32 1 rfl Try.underlying29 info_opt rfl (by decide) (by decide) (.slice Lo us.length co) us.length (flat us) [.int .i64 3, .slice A3 dd.length c3] rfl rfl rfl (flat_one [⟨3, A3, dd.length, c3, []⟩]) (own_ext H3.out.o.1) Ext.out Ext.out.size (by omega) ?_
                 intro v4 w4 ho4 hb4 hg4 hat4
                 have HS4 := Lib.hid (Three.left (Three.push (u := ⟨3, A3, dd.length, c3, dd⟩) (Three.left (H3.out.ext (w' := wm))) size_ext (inferInstance : Ext wm w3) HD3.out ⟨rfl, by have := HDL; simp only; omega, HDB⟩ ho4 hg4 hat4))
                 have HX4 : Hid (Ext w0 w4) := ⟨hb4⟩
                 have X4 : Ext w0 w4 := HX4.out
                 have s0 : w4.cell? ⟨wr.heap.size, 0, none⟩ = some (.int .i64 3) := hg4.cell r0 (fun he => absurd (own_lt H3.out.o.1 _ he.symm) (Nat.lt_irrefl _))
                 have s1 : w4.cell? ⟨wr.heap.size, 1, none⟩ = some (.slice VA vn vc) := hg4.cell r1 (fun he => absurd (own_lt H3.out.o.1 _ he.symm) (Nat.lt_irrefl _))
                 clear ho4 hb4 hg4 hat4 r0 r1)
              have Y4 : Ext w w4 := Ext.trans_ XE0 HX4.out
              refine (lagain_any 3 VA vn vc xs GW.out.1 (by have := GW.out.2.2.1; omega) _ (by exact GW.out.2.2.2.2.ext)).mono ?_
              rintro e w5 ⟨A5, c5, rfl, ho5, hb5⟩
              have S5 : Step w5 w4 := ⟨hb5⟩
              have HD5 := Lib.hid ho5
              have E05 : Ext w0 w5 := Ext.trans_ HX4.out (inferInstance : Ext w4 w5)
              clear ho5 hb5
              go_wp2_with
                (at_builtin
                 refine wp_append_box (w0 := w0) w0.heap.size rfl (.tmp 112) (.tmp 115) 29 119 (.agg #[.int .i64 0, .slice none 0 0]) 2 32 1 rfl Try.underlying29 info_opt rfl (by decide) (by decide) (.slice Lz zs.length cz) zs.length (flat zs) [.int .i64 3, .slice A5 vn c5] rfl rfl rfl (flat_one [⟨3, A5, vn, c5, []⟩]) (own_ext HS4.out.z.1) E05.out E05.out.size (by omega) ?_
                 intro v6 w6 ho6 hb6 hg6 hat6
                 have HS6 := Lib.hid (Three.ends (Three.push (u := ⟨3, A5, vn, c5, xs⟩) (Three.ends HS4.out) HX4.out.out.size (inferInstance : Ext w4 w5) HD5.out ⟨GW.out.1, by have := GW.out.2.2.1; simp only; omega, GW.out.2.2.2.1⟩ ho6 hg6 hat6))
                 have X6 : Hid (Ext w0 w6) := ⟨hb6⟩
                 clear ho6 hb6 hg6 hat6)
              refine ⟨⟨k + 1, bvs, (us ++ [(⟨3, A3, dd.length, c3, dd⟩ : OV)]), (zs ++ [(⟨3, A5, vn, c5, xs⟩ : OV)]), by go_num, by omega, by omega, by (simp; omega), by (simp; omega), HS6.out, by (rw [List.map_append, List.map_append]; exact HRN.out), X6.out⟩, by simp [intOf]; omega⟩
            · have hm0B : (M == 0) = false := by simpa using hm0
              rcases hhk : hasK acc M with _ | _
              · have HHK := Lib.hid hhk
                have HRN := HRS.out
                rw [(ljUpd_oth HOK.out (loth_3y HME.out (.inr hhk)))] at HRN
                have HRN := Lib.hid HRN
                clear HRS hhk hm0
                go_wp2_with fail
                refine (lborne_any cf acc.length pf af mgb AA ac w.heap.size 3 VA vn vc HL.out _ (at_ext HG.out)).mono ?_
                rintro e w1 ⟨rfl, hb1⟩
                have S1 : Step w1 _ := ⟨hb1⟩
                have HP := Lib.hid (at_ext (w' := w1) (at_new wr (.cells #[.int .i64 3, .slice VA vn vc] 119)))
                have p0 : w1.cell? ⟨wr.heap.size, 0, none⟩ = some (.int .i64 3) := at_cell HP.out 0
                have p1 : w1.cell? ⟨wr.heap.size, 1, none⟩ = some (.slice VA vn vc) := at_cell HP.out 1
                clear hb1
                rw [HBN.out]
                go_wp2_with fail
                refine (ltwice_any ad n c k vs 3 Hn.out hn' hnc hlt w1 (by exact HX.out.ext) HTT.out).mono ?_
                rintro e w2 ⟨rfl, hb2⟩
                rw [HTY.out]
                have S2 : Step w2 w1 := ⟨hb2⟩
                have q0 : w2.cell? ⟨wr.heap.size, 0, none⟩ = some (.int .i64 3) := cell_ext p0
                have q1 : w2.cell? ⟨wr.heap.size, 1, none⟩ = some (.slice VA vn vc) := cell_ext p1
                have HZW : Hid (wr.heap.size < w2.heap.size) := World.block_lt_of_cell? _ _ q0
                clear hb2 p0 p1
                go_wp2_with fail
                refine (lnumber_any VA vn vc xs GW.out.1 (by have := GW.out.2.2.1; omega) GW.out.2.2.2.1 _ (by exact GW.out.2.2.2.2.ext)).mono ?_
                rintro e w2' ⟨rfl, rfl⟩
                rw [HNX.out]
                have qa : w2.cell? ⟨w.heap.size, 3, none⟩ = some (.slice AA acc.length ac) := cell_ext qa0.out
                go_wp2
                refine wp_region_held_drew (S := fun W => Ext w2 W) (by kernel_rfl) (by exact inferInstance) (fun hHeld => ?_)
                refine wpAnyH_take (i := 0) (v := ?_) rfl (by kernel_rfl) (by kernel_rfl) (by kernel_rfl) (fun _ _ _ h => h) (Yields.yieldsIf (Or.inl ⟨by rfl, ?_⟩)) hHeld ?_
                rotate_left
                · intro W
                  go_simp
                  try with_reducible rfl
                simp only [List.getElem_toArray, List.getElem_cons_succ, List.getElem_cons_zero, Act.put, List.setIfInBounds_toArray, List.set_cons_zero, List.set_cons_succ]
                refine wpAnyH_take (i := 1) (v := ?_) rfl (by kernel_rfl) (by kernel_rfl) (by kernel_rfl) (fun _ _ _ h => h) (Or.inl ⟨by rfl, ?_⟩) hHeld ?_
                rotate_left
                · intro W hW
                  have hcl := (cell_ext (h := hW) q0)
                  go_simp
                  try with_reducible rfl
                simp only [List.getElem_toArray, List.getElem_cons_succ, List.getElem_cons_zero, Act.put, List.setIfInBounds_toArray, List.set_cons_zero, List.set_cons_succ]
                refine wpAnyH_take (i := 2) (v := ?_) rfl (by kernel_rfl) (by kernel_rfl) (by kernel_rfl) (fun _ _ _ h => h) (Yields.yieldsIf (Or.inl ⟨by rfl, ?_⟩)) hHeld ?_
                rotate_left
                · intro W
                  go_simp
                  try with_reducible rfl
                simp only [List.getElem_toArray, List.getElem_cons_succ, List.getElem_cons_zero, Act.put, List.setIfInBounds_toArray, List.set_cons_zero, List.set_cons_succ]
                refine wpAnyH_take (i := 3) (v := ?_) rfl (by kernel_rfl) (by kernel_rfl) (by kernel_rfl) (fun _ _ _ h => h) (Yields.yieldsIf (Or.inl ⟨by rfl, ?_⟩)) hHeld ?_
                rotate_left
                · intro W
                  go_simp
                  try with_reducible rfl
                simp only [List.getElem_toArray, List.getElem_cons_succ, List.getElem_cons_zero, Act.put, List.setIfInBounds_toArray, List.set_cons_zero, List.set_cons_succ]
                refine wpAnyH_take (i := 4) (v := ?_) rfl (by kernel_rfl) (by kernel_rfl) (by kernel_rfl) (fun _ _ _ h => h) (Yields.yieldsIf (Or.inl ⟨by rfl, ?_⟩)) hHeld ?_
                rotate_left
                · intro W
                  go_simp
                  try with_reducible rfl
                simp only [List.getElem_toArray, List.getElem_cons_succ, List.getElem_cons_zero, Act.put, List.setIfInBounds_toArray, List.set_cons_zero, List.set_cons_succ]
                refine wpAnyH_take (i := 5) (v := ?_) rfl (by kernel_rfl) (by kernel_rfl) (by kernel_rfl) (fun _ _ _ h => h) (Or.inl ⟨by rfl, ?_⟩) hHeld ?_
                rotate_left
                · intro W hW
                  have hcl := (cell_ext (h := hW) q1)
                  go_simp
                  try with_reducible rfl
                simp only [List.getElem_toArray, List.getElem_cons_succ, List.getElem_cons_zero, Act.put, List.setIfInBounds_toArray, List.set_cons_zero, List.set_cons_succ]
                refine wpAnyH_ready (rs := [6]) (by kernel_rfl) (by simp) ?_
                refine AllReadyH.cons rfl (fun K hK => ?_) AllReadyH.nil
                refine step_call_w (by rfl) Try.func38 (by kernel_rfl) (by kernel_rfl) #[.tmp 69] #[41] rfl #[.slice VA vn vc] ?hv (lmethod_any VA vn vc xs GW.out.1 (by have := GW.out.2.2.1; omega) _ (by exact GW.out.2.2.2.2.ext)) ?_
                case hv => go_simp
                rintro e wm ⟨rfl, hbb⟩
                refine ⟨_, rfl, ?_⟩
                rw [HME.out]
                have Sm : Step wm _ := ⟨hbb⟩
                clear hbb hHeld
                refine hK.out _ _ (by exact inferInstance) (fun hHeld => ?_)
                clear hK K
                simp only [List.getElem_toArray, List.getElem_cons_succ, List.getElem_cons_zero, Act.put, List.setIfInBounds_toArray, List.set_cons_zero, List.set_cons_succ]
                refine wpAnyH_take (i := 7) (v := ?_) rfl (by kernel_rfl) (by kernel_rfl) (by kernel_rfl) (fun _ _ _ h => h) (Yields.yieldsIf (Or.inl ⟨by rfl, ?_⟩)) hHeld ?_
                rotate_left
                · intro W
                  go_simp
                  try with_reducible rfl
                simp only [List.getElem_toArray, List.getElem_cons_succ, List.getElem_cons_zero, Act.put, List.setIfInBounds_toArray, List.set_cons_zero, List.set_cons_succ]
                refine wpAnyH_take (i := 8) (v := ?_) rfl (by kernel_rfl) (by kernel_rfl) (by kernel_rfl) (fun _ _ _ h => h) (Yields.yieldsIf (Or.inl ⟨by rfl, ?_⟩)) hHeld ?_
                rotate_left
                · intro W
                  go_simp
                  try with_reducible rfl
                simp only [List.getElem_toArray, List.getElem_cons_succ, List.getElem_cons_zero, Act.put, List.setIfInBounds_toArray, List.set_cons_zero, List.set_cons_succ]
                refine wpAnyH_take (i := 9) (v := ?_) rfl (by kernel_rfl) (by kernel_rfl) (by kernel_rfl) (fun _ _ _ h => h) (Yields.yieldsIf (Or.inl ⟨by rfl, ?_⟩)) hHeld ?_
                rotate_left
                · intro W
                  go_simp
                  try with_reducible rfl
                simp only [List.getElem_toArray, List.getElem_cons_succ, List.getElem_cons_zero, Act.put, List.setIfInBounds_toArray, List.set_cons_zero, List.set_cons_succ]
                refine wpAnyH_take (i := 10) (v := ?_) rfl (by kernel_rfl) (by kernel_rfl) (by kernel_rfl) (fun _ _ _ h => h) (Or.inl ⟨by rfl, ?_⟩) hHeld ?_
                rotate_left
                · intro W hW
                  have hcl := (cell_ext (h := hW) qa)
                  go_simp
                  try with_reducible rfl
                simp only [List.getElem_toArray, List.getElem_cons_succ, List.getElem_cons_zero, Act.put, List.setIfInBounds_toArray, List.set_cons_zero, List.set_cons_succ]
                refine wpAnyH_take (i := 11) (v := ?_) rfl (by kernel_rfl) (by kernel_rfl) (by kernel_rfl) (fun _ _ _ h => h) (Yields.yieldsIf (Or.inl ⟨by rfl, ?_⟩)) hHeld ?_
                rotate_left
                · intro W
                  go_simp
                  try with_reducible rfl
                simp only [List.getElem_toArray, List.getElem_cons_succ, List.getElem_cons_zero, Act.put, List.setIfInBounds_toArray, List.set_cons_zero, List.set_cons_succ]
                refine wpAnyH_take (i := 12) (v := ?_) rfl (by kernel_rfl) (by kernel_rfl) (by kernel_rfl) (fun _ _ _ h => h) (Or.inl ⟨by rfl, ?_⟩) hHeld ?_
                rotate_left
                · intro W hW
                  have hcl := (cell_ext (h := hW) q1)
                  go_simp
                  try with_reducible rfl
                simp only [List.getElem_toArray, List.getElem_cons_succ, List.getElem_cons_zero, Act.put, List.setIfInBounds_toArray, List.set_cons_zero, List.set_cons_succ]
                refine wpAnyH_ready (rs := [13]) (by kernel_rfl) (by simp) ?_
                refine AllReadyH.cons rfl (fun K hK => ?_) AllReadyH.nil
                refine step_call_w (by rfl) Try.func38 (by kernel_rfl) (by kernel_rfl) #[.tmp 76] #[41] rfl #[.slice VA vn vc] ?hv (lmethod_any VA vn vc xs GW.out.1 (by have := GW.out.2.2.1; omega) _ (by exact GW.out.2.2.2.2.ext)) ?_
                case hv => go_simp
                rintro e wn ⟨rfl, hbb⟩
                refine ⟨_, rfl, ?_⟩
                rw [HME.out]
                have Sn : Step wn _ := ⟨hbb⟩
                clear hbb hHeld
                refine hK.out _ _ (by exact inferInstance) (fun hHeld => ?_)
                clear hK K
                simp only [List.getElem_toArray, List.getElem_cons_succ, List.getElem_cons_zero, Act.put, List.setIfInBounds_toArray, List.set_cons_zero, List.set_cons_succ]
                refine wpAnyH_ready (rs := [14]) (by kernel_rfl) (by simp) ?_
                refine AllReadyH.cons rfl (fun K hK => ?_) AllReadyH.nil
                refine step_call_w (by rfl) Try.func84 (by kernel_rfl) (by kernel_rfl) #[.tmp 74, .tmp 77] #[22, 3] rfl #[.slice AA acc.length ac, .int .i64 M] ?hv (contains_any AA acc.length ac acc M rfl HACN.out wn (by exact HACC.out.ext)) ?_
                case hv => go_simp
                rintro e wn' ⟨rfl, rfl⟩
                refine ⟨_, rfl, ?_⟩
                rw [HHK.out]
                clear hHeld
                refine hK.out _ _ (by exact inferInstance) (fun hHeld => ?_)
                clear hK K
                simp only [List.getElem_toArray, List.getElem_cons_succ, List.getElem_cons_zero, Act.put, List.setIfInBounds_toArray, List.set_cons_zero, List.set_cons_succ]
                refine wpAnyH_take (i := 15) (v := ?_) rfl (by kernel_rfl) (by kernel_rfl) (by kernel_rfl) (fun _ _ _ h => h) (Yields.yieldsIf (Or.inl ⟨by rfl, ?_⟩)) hHeld ?_
                rotate_left
                · intro W
                  go_simp
                  try with_reducible rfl
                simp only [List.getElem_toArray, List.getElem_cons_succ, List.getElem_cons_zero, Act.put, List.setIfInBounds_toArray, List.set_cons_zero, List.set_cons_succ]
                refine wpAnyH_take (i := 16) (v := ?_) rfl (by kernel_rfl) (by kernel_rfl) (by kernel_rfl) (fun _ _ _ h => h) (Yields.yieldsIf (Or.inl ⟨by rfl, ?_⟩)) hHeld ?_
                rotate_left
                · intro W
                  go_simp
                  try with_reducible rfl
                simp only [List.getElem_toArray, List.getElem_cons_succ, List.getElem_cons_zero, Act.put, List.setIfInBounds_toArray, List.set_cons_zero, List.set_cons_succ]
                refine wpAnyH_take (i := 17) (v := ?_) rfl (by kernel_rfl) (by kernel_rfl) (by kernel_rfl) (fun _ _ _ h => h) (Yields.yieldsIf (Or.inl ⟨by rfl, ?_⟩)) hHeld ?_
                rotate_left
                · intro W
                  go_simp
                  try with_reducible rfl
                simp only [List.getElem_toArray, List.getElem_cons_succ, List.getElem_cons_zero, Act.put, List.setIfInBounds_toArray, List.set_cons_zero, List.set_cons_succ]
                refine wpAnyH_take (i := 18) (v := ?_) rfl (by kernel_rfl) (by kernel_rfl) (by kernel_rfl) (fun _ _ _ h => h) (Yields.yieldsIf (Or.inl ⟨by rfl, ?_⟩)) hHeld ?_
                rotate_left
                · intro W
                  go_simp
                  try with_reducible rfl
                simp only [List.getElem_toArray, List.getElem_cons_succ, List.getElem_cons_zero, Act.put, List.setIfInBounds_toArray, List.set_cons_zero, List.set_cons_succ]
                refine wpAnyH_done (by kernel_rfl) ?_ _
                clear hHeld
                have E2Y : Ext w2 wn := inferInstance
                have EWY : Ext w wn := inferInstance
                obtain ⟨aa, rfl, hca⟩ := (HACC.out.ext (w' := wn)).num HAPOS.out
                have hca0 : wn.cell? aa = some (.int .i64 (acc.getD 0 0)) := by rw [addr_zero aa] at hca; exact hca
                have qaY : wn.cell? ⟨w.heap.size, 3, none⟩ = some (.slice (some aa) acc.length ac) := cell_ext qa
                have q0Y : wn.cell? ⟨wr.heap.size, 0, none⟩ = some (.int .i64 3) := cell_ext q0
                have q1Y : wn.cell? ⟨wr.heap.size, 1, none⟩ = some (.slice VA vn vc) := cell_ext q1
                have hapI : (0 : Int) < (acc.length : Int) := by have := HAPOS.out; omega
                have hapN : 0 < acc.length := HAPOS.out
                obtain ⟨a0, ha0⟩ : ∃ a0, acc.getD 0 0 = a0 := ⟨_, rfl⟩
                rw [ha0] at hca hca0 HRN
                clear ha0
                go_wp2_with fail
                clear q0 q1
                have q0 := q0Y
                have q1 := q1Y
                refine (lauth_any a0 _).mono ?_
                rintro e w3 ⟨v7, rfl, ho3, hb3⟩
                have HDL := authL_len a0
                have HDB := authL_byt a0
                obtain ⟨dd, hdd⟩ : ∃ dd, authL a0 = dd := ⟨_, rfl⟩
                rw [hdd] at ho3 HDL HDB HRN
                clear hdd
                obtain ⟨A3, c3, rfl, _⟩ := own_slice ho3
                clear q0Y q1Y qaY hca hca0
                have S3 : Step w3 wn := ⟨hb3⟩
                have HD3 := Lib.hid ho3
                have r0 : w3.cell? ⟨wr.heap.size, 0, none⟩ = some (.int .i64 3) := cell_ext q0
                have r1 : w3.cell? ⟨wr.heap.size, 1, none⟩ = some (.slice VA vn vc) := cell_ext q1
                clear ho3 hb3 q0 q1
                go_wp2_with
                  (at_builtin
                   refine wp_append_box (w0 := w0) w0.heap.size rfl (.tmp 105) (.tmp 110) 29 119 (.agg #[.int .i64 0, .slice none 0 0]) 2 32 1 rfl Try.underlying29 info_opt rfl (by decide) (by decide) (.slice Lo us.length co) us.length (flat us) [.int .i64 3, .slice A3 dd.length c3] rfl rfl rfl (flat_one [⟨3, A3, dd.length, c3, []⟩]) (own_ext H3.out.o.1) Ext.out Ext.out.size (by omega) ?_
                   intro v4 w4 ho4 hb4 hg4 hat4
                   have HS4 := Lib.hid (Three.left (Three.push (u := ⟨3, A3, dd.length, c3, dd⟩) (Three.left (H3.out.ext (w' := wn))) size_ext (inferInstance : Ext wn w3) HD3.out ⟨rfl, by have := HDL; simp only; omega, HDB⟩ ho4 hg4 hat4))
                   have HX4 : Hid (Ext w0 w4) := ⟨hb4⟩
                   have X4 : Ext w0 w4 := HX4.out
                   have s0 : w4.cell? ⟨wr.heap.size, 0, none⟩ = some (.int .i64 3) := hg4.cell r0 (fun he => absurd (own_lt H3.out.o.1 _ he.symm) (Nat.lt_irrefl _))
                   have s1 : w4.cell? ⟨wr.heap.size, 1, none⟩ = some (.slice VA vn vc) := hg4.cell r1 (fun he => absurd (own_lt H3.out.o.1 _ he.symm) (Nat.lt_irrefl _))
                   clear ho4 hb4 hg4 hat4 r0 r1)
                have Y4 : Ext w w4 := Ext.trans_ XE0 HX4.out
                refine (lagain_any 3 VA vn vc xs GW.out.1 (by have := GW.out.2.2.1; omega) _ (by exact GW.out.2.2.2.2.ext)).mono ?_
                rintro e w5 ⟨A5, c5, rfl, ho5, hb5⟩
                have S5 : Step w5 w4 := ⟨hb5⟩
                have HD5 := Lib.hid ho5
                have E05 : Ext w0 w5 := Ext.trans_ HX4.out (inferInstance : Ext w4 w5)
                clear ho5 hb5
                go_wp2_with
                  (at_builtin
                   refine wp_append_box (w0 := w0) w0.heap.size rfl (.tmp 112) (.tmp 115) 29 119 (.agg #[.int .i64 0, .slice none 0 0]) 2 32 1 rfl Try.underlying29 info_opt rfl (by decide) (by decide) (.slice Lz zs.length cz) zs.length (flat zs) [.int .i64 3, .slice A5 vn c5] rfl rfl rfl (flat_one [⟨3, A5, vn, c5, []⟩]) (own_ext HS4.out.z.1) E05.out E05.out.size (by omega) ?_
                   intro v6 w6 ho6 hb6 hg6 hat6
                   have HS6 := Lib.hid (Three.ends (Three.push (u := ⟨3, A5, vn, c5, xs⟩) (Three.ends HS4.out) HX4.out.out.size (inferInstance : Ext w4 w5) HD5.out ⟨GW.out.1, by have := GW.out.2.2.1; simp only; omega, GW.out.2.2.2.1⟩ ho6 hg6 hat6))
                   have X6 : Hid (Ext w0 w6) := ⟨hb6⟩
                   clear ho6 hb6 hg6 hat6)
                refine ⟨⟨k + 1, bvs, (us ++ [(⟨3, A3, dd.length, c3, dd⟩ : OV)]), (zs ++ [(⟨3, A5, vn, c5, xs⟩ : OV)]), by go_num, by omega, by omega, by (simp; omega), by (simp; omega), HS6.out, by (rw [List.map_append, List.map_append]; exact HRN.out), X6.out⟩, by simp [intOf]; omega⟩
              · have HHK := Lib.hid hhk
                have HRN := HRS.out
                rw [(ljUpd_ok HOK.out (loth_3n HME.out hm0 hhk))] at HRN
                have HRN := Lib.hid HRN
                clear HRS hhk hm0
                go_wp2_with fail
                refine (lborne_any cf acc.length pf af mgb AA ac w.heap.size 3 VA vn vc HL.out _ (at_ext HG.out)).mono ?_
                rintro e w1 ⟨rfl, hb1⟩
                have S1 : Step w1 _ := ⟨hb1⟩
                have HP := Lib.hid (at_ext (w' := w1) (at_new wr (.cells #[.int .i64 3, .slice VA vn vc] 119)))
                have p0 : w1.cell? ⟨wr.heap.size, 0, none⟩ = some (.int .i64 3) := at_cell HP.out 0
                have p1 : w1.cell? ⟨wr.heap.size, 1, none⟩ = some (.slice VA vn vc) := at_cell HP.out 1
                clear hb1
                rw [HBN.out]
                go_wp2_with fail
                refine (ltwice_any ad n c k vs 3 Hn.out hn' hnc hlt w1 (by exact HX.out.ext) HTT.out).mono ?_
                rintro e w2 ⟨rfl, hb2⟩
                rw [HTY.out]
                have S2 : Step w2 w1 := ⟨hb2⟩
                have q0 : w2.cell? ⟨wr.heap.size, 0, none⟩ = some (.int .i64 3) := cell_ext p0
                have q1 : w2.cell? ⟨wr.heap.size, 1, none⟩ = some (.slice VA vn vc) := cell_ext p1
                have HZW : Hid (wr.heap.size < w2.heap.size) := World.block_lt_of_cell? _ _ q0
                clear hb2 p0 p1
                go_wp2_with fail
                refine (lnumber_any VA vn vc xs GW.out.1 (by have := GW.out.2.2.1; omega) GW.out.2.2.2.1 _ (by exact GW.out.2.2.2.2.ext)).mono ?_
                rintro e w2' ⟨rfl, rfl⟩
                rw [HNX.out]
                have qa : w2.cell? ⟨w.heap.size, 3, none⟩ = some (.slice AA acc.length ac) := cell_ext qa0.out
                go_wp2
                refine wp_region_held_drew (S := fun W => Ext w2 W) (by kernel_rfl) (by exact inferInstance) (fun hHeld => ?_)
                refine wpAnyH_take (i := 0) (v := ?_) rfl (by kernel_rfl) (by kernel_rfl) (by kernel_rfl) (fun _ _ _ h => h) (Yields.yieldsIf (Or.inl ⟨by rfl, ?_⟩)) hHeld ?_
                rotate_left
                · intro W
                  go_simp
                  try with_reducible rfl
                simp only [List.getElem_toArray, List.getElem_cons_succ, List.getElem_cons_zero, Act.put, List.setIfInBounds_toArray, List.set_cons_zero, List.set_cons_succ]
                refine wpAnyH_take (i := 1) (v := ?_) rfl (by kernel_rfl) (by kernel_rfl) (by kernel_rfl) (fun _ _ _ h => h) (Or.inl ⟨by rfl, ?_⟩) hHeld ?_
                rotate_left
                · intro W hW
                  have hcl := (cell_ext (h := hW) q0)
                  go_simp
                  try with_reducible rfl
                simp only [List.getElem_toArray, List.getElem_cons_succ, List.getElem_cons_zero, Act.put, List.setIfInBounds_toArray, List.set_cons_zero, List.set_cons_succ]
                refine wpAnyH_take (i := 2) (v := ?_) rfl (by kernel_rfl) (by kernel_rfl) (by kernel_rfl) (fun _ _ _ h => h) (Yields.yieldsIf (Or.inl ⟨by rfl, ?_⟩)) hHeld ?_
                rotate_left
                · intro W
                  go_simp
                  try with_reducible rfl
                simp only [List.getElem_toArray, List.getElem_cons_succ, List.getElem_cons_zero, Act.put, List.setIfInBounds_toArray, List.set_cons_zero, List.set_cons_succ]
                refine wpAnyH_take (i := 3) (v := ?_) rfl (by kernel_rfl) (by kernel_rfl) (by kernel_rfl) (fun _ _ _ h => h) (Yields.yieldsIf (Or.inl ⟨by rfl, ?_⟩)) hHeld ?_
                rotate_left
                · intro W
                  go_simp
                  try with_reducible rfl
                simp only [List.getElem_toArray, List.getElem_cons_succ, List.getElem_cons_zero, Act.put, List.setIfInBounds_toArray, List.set_cons_zero, List.set_cons_succ]
                refine wpAnyH_take (i := 4) (v := ?_) rfl (by kernel_rfl) (by kernel_rfl) (by kernel_rfl) (fun _ _ _ h => h) (Yields.yieldsIf (Or.inl ⟨by rfl, ?_⟩)) hHeld ?_
                rotate_left
                · intro W
                  go_simp
                  try with_reducible rfl
                simp only [List.getElem_toArray, List.getElem_cons_succ, List.getElem_cons_zero, Act.put, List.setIfInBounds_toArray, List.set_cons_zero, List.set_cons_succ]
                refine wpAnyH_take (i := 5) (v := ?_) rfl (by kernel_rfl) (by kernel_rfl) (by kernel_rfl) (fun _ _ _ h => h) (Or.inl ⟨by rfl, ?_⟩) hHeld ?_
                rotate_left
                · intro W hW
                  have hcl := (cell_ext (h := hW) q1)
                  go_simp
                  try with_reducible rfl
                simp only [List.getElem_toArray, List.getElem_cons_succ, List.getElem_cons_zero, Act.put, List.setIfInBounds_toArray, List.set_cons_zero, List.set_cons_succ]
                refine wpAnyH_ready (rs := [6]) (by kernel_rfl) (by simp) ?_
                refine AllReadyH.cons rfl (fun K hK => ?_) AllReadyH.nil
                refine step_call_w (by rfl) Try.func38 (by kernel_rfl) (by kernel_rfl) #[.tmp 69] #[41] rfl #[.slice VA vn vc] ?hv (lmethod_any VA vn vc xs GW.out.1 (by have := GW.out.2.2.1; omega) _ (by exact GW.out.2.2.2.2.ext)) ?_
                case hv => go_simp
                rintro e wm ⟨rfl, hbb⟩
                refine ⟨_, rfl, ?_⟩
                rw [HME.out]
                have Sm : Step wm _ := ⟨hbb⟩
                clear hbb hHeld
                refine hK.out _ _ (by exact inferInstance) (fun hHeld => ?_)
                clear hK K
                simp only [List.getElem_toArray, List.getElem_cons_succ, List.getElem_cons_zero, Act.put, List.setIfInBounds_toArray, List.set_cons_zero, List.set_cons_succ]
                refine wpAnyH_take (i := 7) (v := ?_) rfl (by kernel_rfl) (by kernel_rfl) (by kernel_rfl) (fun _ _ _ h => h) (Yields.yieldsIf (Or.inl ⟨by rfl, ?_⟩)) hHeld ?_
                rotate_left
                · intro W
                  go_simp
                  try with_reducible rfl
                simp only [List.getElem_toArray, List.getElem_cons_succ, List.getElem_cons_zero, Act.put, List.setIfInBounds_toArray, List.set_cons_zero, List.set_cons_succ]
                refine wpAnyH_take (i := 8) (v := ?_) rfl (by kernel_rfl) (by kernel_rfl) (by kernel_rfl) (fun _ _ _ h => h) (Yields.yieldsIf (Or.inl ⟨by rfl, ?_⟩)) hHeld ?_
                rotate_left
                · intro W
                  go_simp
                  try with_reducible rfl
                simp only [List.getElem_toArray, List.getElem_cons_succ, List.getElem_cons_zero, Act.put, List.setIfInBounds_toArray, List.set_cons_zero, List.set_cons_succ]
                refine wpAnyH_take (i := 9) (v := ?_) rfl (by kernel_rfl) (by kernel_rfl) (by kernel_rfl) (fun _ _ _ h => h) (Yields.yieldsIf (Or.inl ⟨by rfl, ?_⟩)) hHeld ?_
                rotate_left
                · intro W
                  go_simp
                  try with_reducible rfl
                simp only [List.getElem_toArray, List.getElem_cons_succ, List.getElem_cons_zero, Act.put, List.setIfInBounds_toArray, List.set_cons_zero, List.set_cons_succ]
                refine wpAnyH_take (i := 10) (v := ?_) rfl (by kernel_rfl) (by kernel_rfl) (by kernel_rfl) (fun _ _ _ h => h) (Or.inl ⟨by rfl, ?_⟩) hHeld ?_
                rotate_left
                · intro W hW
                  have hcl := (cell_ext (h := hW) qa)
                  go_simp
                  try with_reducible rfl
                simp only [List.getElem_toArray, List.getElem_cons_succ, List.getElem_cons_zero, Act.put, List.setIfInBounds_toArray, List.set_cons_zero, List.set_cons_succ]
                refine wpAnyH_take (i := 11) (v := ?_) rfl (by kernel_rfl) (by kernel_rfl) (by kernel_rfl) (fun _ _ _ h => h) (Yields.yieldsIf (Or.inl ⟨by rfl, ?_⟩)) hHeld ?_
                rotate_left
                · intro W
                  go_simp
                  try with_reducible rfl
                simp only [List.getElem_toArray, List.getElem_cons_succ, List.getElem_cons_zero, Act.put, List.setIfInBounds_toArray, List.set_cons_zero, List.set_cons_succ]
                refine wpAnyH_take (i := 12) (v := ?_) rfl (by kernel_rfl) (by kernel_rfl) (by kernel_rfl) (fun _ _ _ h => h) (Or.inl ⟨by rfl, ?_⟩) hHeld ?_
                rotate_left
                · intro W hW
                  have hcl := (cell_ext (h := hW) q1)
                  go_simp
                  try with_reducible rfl
                simp only [List.getElem_toArray, List.getElem_cons_succ, List.getElem_cons_zero, Act.put, List.setIfInBounds_toArray, List.set_cons_zero, List.set_cons_succ]
                refine wpAnyH_ready (rs := [13]) (by kernel_rfl) (by simp) ?_
                refine AllReadyH.cons rfl (fun K hK => ?_) AllReadyH.nil
                refine step_call_w (by rfl) Try.func38 (by kernel_rfl) (by kernel_rfl) #[.tmp 76] #[41] rfl #[.slice VA vn vc] ?hv (lmethod_any VA vn vc xs GW.out.1 (by have := GW.out.2.2.1; omega) _ (by exact GW.out.2.2.2.2.ext)) ?_
                case hv => go_simp
                rintro e wn ⟨rfl, hbb⟩
                refine ⟨_, rfl, ?_⟩
                rw [HME.out]
                have Sn : Step wn _ := ⟨hbb⟩
                clear hbb hHeld
                refine hK.out _ _ (by exact inferInstance) (fun hHeld => ?_)
                clear hK K
                simp only [List.getElem_toArray, List.getElem_cons_succ, List.getElem_cons_zero, Act.put, List.setIfInBounds_toArray, List.set_cons_zero, List.set_cons_succ]
                refine wpAnyH_ready (rs := [14]) (by kernel_rfl) (by simp) ?_
                refine AllReadyH.cons rfl (fun K hK => ?_) AllReadyH.nil
                refine step_call_w (by rfl) Try.func84 (by kernel_rfl) (by kernel_rfl) #[.tmp 74, .tmp 77] #[22, 3] rfl #[.slice AA acc.length ac, .int .i64 M] ?hv (contains_any AA acc.length ac acc M rfl HACN.out wn (by exact HACC.out.ext)) ?_
                case hv => go_simp
                rintro e wn' ⟨rfl, rfl⟩
                refine ⟨_, rfl, ?_⟩
                rw [HHK.out]
                clear hHeld
                refine hK.out _ _ (by exact inferInstance) (fun hHeld => ?_)
                clear hK K
                simp only [List.getElem_toArray, List.getElem_cons_succ, List.getElem_cons_zero, Act.put, List.setIfInBounds_toArray, List.set_cons_zero, List.set_cons_succ]
                refine wpAnyH_take (i := 15) (v := ?_) rfl (by kernel_rfl) (by kernel_rfl) (by kernel_rfl) (fun _ _ _ h => h) (Yields.yieldsIf (Or.inl ⟨by rfl, ?_⟩)) hHeld ?_
                rotate_left
                · intro W
                  go_simp
                  try with_reducible rfl
                simp only [List.getElem_toArray, List.getElem_cons_succ, List.getElem_cons_zero, Act.put, List.setIfInBounds_toArray, List.set_cons_zero, List.set_cons_succ]
                refine wpAnyH_take (i := 16) (v := ?_) rfl (by kernel_rfl) (by kernel_rfl) (by kernel_rfl) (fun _ _ _ h => h) (Yields.yieldsIf (Or.inl ⟨by rfl, ?_⟩)) hHeld ?_
                rotate_left
                · intro W
                  go_simp
                  try with_reducible rfl
                simp only [List.getElem_toArray, List.getElem_cons_succ, List.getElem_cons_zero, Act.put, List.setIfInBounds_toArray, List.set_cons_zero, List.set_cons_succ]
                refine wpAnyH_take (i := 17) (v := ?_) rfl (by kernel_rfl) (by kernel_rfl) (by kernel_rfl) (fun _ _ _ h => h) (Yields.yieldsIf (Or.inl ⟨by rfl, ?_⟩)) hHeld ?_
                rotate_left
                · intro W
                  go_simp
                  try with_reducible rfl
                simp only [List.getElem_toArray, List.getElem_cons_succ, List.getElem_cons_zero, Act.put, List.setIfInBounds_toArray, List.set_cons_zero, List.set_cons_succ]
                refine wpAnyH_take (i := 18) (v := ?_) rfl (by kernel_rfl) (by kernel_rfl) (by kernel_rfl) (fun _ _ _ h => h) (Yields.yieldsIf (Or.inl ⟨by rfl, ?_⟩)) hHeld ?_
                rotate_left
                · intro W
                  go_simp
                  try with_reducible rfl
                simp only [List.getElem_toArray, List.getElem_cons_succ, List.getElem_cons_zero, Act.put, List.setIfInBounds_toArray, List.set_cons_zero, List.set_cons_succ]
                refine wpAnyH_done (by kernel_rfl) ?_ _
                clear hHeld
                have q0Y : wn.cell? ⟨wr.heap.size, 0, none⟩ = some (.int .i64 3) := cell_ext q0
                go_wp2
                refine ⟨⟨k + 1, bvs, us, zs, by go_num, by omega, by omega, by omega, by omega, (H3.out.ext), by (exact HRN.out), (inferInstance : Ext w0 _)⟩, by simp [intOf]; omega⟩
          · subst h
            by_cases hz : N = 0
            · skip
              have HRN := HRS.out
              rw [(ljUpd_oth HOK.out (loth_5y HNX.out (.inl hz)))] at HRN
              have HRN := Lib.hid HRN
              clear HRS
              subst hz
              go_wp2_with fail
              refine (lborne_any cf acc.length pf af mgb AA ac w.heap.size 5 VA vn vc HL.out _ (at_ext HG.out)).mono ?_
              rintro e w1 ⟨rfl, hb1⟩
              have S1 : Step w1 _ := ⟨hb1⟩
              have HP := Lib.hid (at_ext (w' := w1) (at_new wr (.cells #[.int .i64 5, .slice VA vn vc] 119)))
              have p0 : w1.cell? ⟨wr.heap.size, 0, none⟩ = some (.int .i64 5) := at_cell HP.out 0
              have p1 : w1.cell? ⟨wr.heap.size, 1, none⟩ = some (.slice VA vn vc) := at_cell HP.out 1
              clear hb1
              rw [HBN.out]
              go_wp2_with fail
              refine (ltwice_any ad n c k vs 5 Hn.out hn' hnc hlt w1 (by exact HX.out.ext) HTT.out).mono ?_
              rintro e w2 ⟨rfl, hb2⟩
              rw [HTY.out]
              have S2 : Step w2 w1 := ⟨hb2⟩
              have q0 : w2.cell? ⟨wr.heap.size, 0, none⟩ = some (.int .i64 5) := cell_ext p0
              have q1 : w2.cell? ⟨wr.heap.size, 1, none⟩ = some (.slice VA vn vc) := cell_ext p1
              have HZW : Hid (wr.heap.size < w2.heap.size) := World.block_lt_of_cell? _ _ q0
              clear hb2 p0 p1
              go_wp2_with fail
              refine (lnumber_any VA vn vc xs GW.out.1 (by have := GW.out.2.2.1; omega) GW.out.2.2.2.1 _ (by exact GW.out.2.2.2.2.ext)).mono ?_
              rintro e w2' ⟨rfl, rfl⟩
              rw [HNX.out]
              go_wp2
              go_quiet (fail)
              go_wp2_with fail
              obtain ⟨wq, hwq⟩ : ∃ wq, w2.drewN nq = wq := ⟨_, rfl⟩
              have S2q : Step wq w2 := ⟨by rw [← hwq]; exact Ext.out⟩
              rw [hwq]
              have q0q : wq.cell? ⟨wr.heap.size, 0, none⟩ = some (.int .i64 5) := cell_ext q0
              have q1q : wq.cell? ⟨wr.heap.size, 1, none⟩ = some (.slice VA vn vc) := cell_ext q1
              clear q0 q1 hwq
              have q0 := q0q
              have q1 := q1q
              clear q0q q1q
              refine (lput_any magic 4 (by omega) (by omega) (by omega) wq).mono ?_
              rintro e w3 ⟨A3, c3, rfl, ho3, hb3⟩
              have S3 : Step w3 wq := ⟨hb3⟩
              have HD3 := Lib.hid ho3
              have r0 : w3.cell? ⟨wr.heap.size, 0, none⟩ = some (.int .i64 5) := cell_ext q0
              have r1 : w3.cell? ⟨wr.heap.size, 1, none⟩ = some (.slice VA vn vc) := cell_ext q1
              clear ho3 hb3 q0 q1
              go_wp2_with
                (at_builtin
                 refine wp_append_box (w0 := w0) w0.heap.size rfl (.tmp 105) (.tmp 110) 29 119 (.agg #[.int .i64 0, .slice none 0 0]) 2 32 1 rfl Try.underlying29 info_opt rfl (by decide) (by decide) (.slice Lo us.length co) us.length (flat us) [.int .i64 5, .slice A3 4 c3] rfl rfl rfl (flat_one [⟨5, A3, 4, c3, []⟩]) (own_ext H3.out.o.1) Ext.out Ext.out.size (by omega) ?_
                 intro v4 w4 ho4 hb4 hg4 hat4
                 have HS4 := Lib.hid (Three.left (Three.push (u := ⟨5, A3, 4, c3, (be magic 4)⟩) (Three.left (H3.out.ext (w' := wq))) size_ext (inferInstance : Ext wq w3) HD3.out ⟨(be_length _ _), by have := hmg0; simp only; omega, (be_byt _ _)⟩ ho4 hg4 hat4))
                 have HX4 : Hid (Ext w0 w4) := ⟨hb4⟩
                 have X4 : Ext w0 w4 := HX4.out
                 have s0 : w4.cell? ⟨wr.heap.size, 0, none⟩ = some (.int .i64 5) := hg4.cell r0 (fun he => absurd (own_lt H3.out.o.1 _ he.symm) (Nat.lt_irrefl _))
                 have s1 : w4.cell? ⟨wr.heap.size, 1, none⟩ = some (.slice VA vn vc) := hg4.cell r1 (fun he => absurd (own_lt H3.out.o.1 _ he.symm) (Nat.lt_irrefl _))
                 clear ho4 hb4 hg4 hat4 r0 r1)
              have Y4 : Ext w w4 := Ext.trans_ XE0 HX4.out
              refine (lagain_any 5 VA vn vc xs GW.out.1 (by have := GW.out.2.2.1; omega) _ (by exact GW.out.2.2.2.2.ext)).mono ?_
              rintro e w5 ⟨A5, c5, rfl, ho5, hb5⟩
              have S5 : Step w5 w4 := ⟨hb5⟩
              have HD5 := Lib.hid ho5
              have E05 : Ext w0 w5 := Ext.trans_ HX4.out (inferInstance : Ext w4 w5)
              clear ho5 hb5
              go_wp2_with
                (at_builtin
                 refine wp_append_box (w0 := w0) w0.heap.size rfl (.tmp 112) (.tmp 115) 29 119 (.agg #[.int .i64 0, .slice none 0 0]) 2 32 1 rfl Try.underlying29 info_opt rfl (by decide) (by decide) (.slice Lz zs.length cz) zs.length (flat zs) [.int .i64 5, .slice A5 vn c5] rfl rfl rfl (flat_one [⟨5, A5, vn, c5, []⟩]) (own_ext HS4.out.z.1) E05.out E05.out.size (by omega) ?_
                 intro v6 w6 ho6 hb6 hg6 hat6
                 have HS6 := Lib.hid (Three.ends (Three.push (u := ⟨5, A5, vn, c5, xs⟩) (Three.ends HS4.out) HX4.out.out.size (inferInstance : Ext w4 w5) HD5.out ⟨GW.out.1, by have := GW.out.2.2.1; simp only; omega, GW.out.2.2.2.1⟩ ho6 hg6 hat6))
                 have X6 : Hid (Ext w0 w6) := ⟨hb6⟩
                 clear ho6 hb6 hg6 hat6)
              refine ⟨⟨k + 1, bvs, (us ++ [(⟨5, A3, 4, c3, (be magic 4)⟩ : OV)]), (zs ++ [(⟨5, A5, vn, c5, xs⟩ : OV)]), by go_num, by omega, by omega, by (simp; omega), by (simp; omega), HS6.out, by (rw [List.map_append, List.map_append]; exact HRN.out), X6.out⟩, by simp [intOf]; omega⟩
            · by_cases hq : N % 4294967296 = mm
              · skip
                have HRN := HRS.out
                rw [(ljUpd_oth HOK.out (loth_5y HNX.out (.inr hq)))] at HRN
                have HRN := Lib.hid HRN
                clear HRS
                subst hq
                have hz0 : (N == 0) = false := by simpa using hz
                have hww : IntKind.u32.wrap N = N % 4294967296 := by rw [IntKind.wrap_u32]
                go_wp2_with fail
                refine (lborne_any cf acc.length pf af mgb AA ac w.heap.size 5 VA vn vc HL.out _ (at_ext HG.out)).mono ?_
                rintro e w1 ⟨rfl, hb1⟩
                have S1 : Step w1 _ := ⟨hb1⟩
                have HP := Lib.hid (at_ext (w' := w1) (at_new wr (.cells #[.int .i64 5, .slice VA vn vc] 119)))
                have p0 : w1.cell? ⟨wr.heap.size, 0, none⟩ = some (.int .i64 5) := at_cell HP.out 0
                have p1 : w1.cell? ⟨wr.heap.size, 1, none⟩ = some (.slice VA vn vc) := at_cell HP.out 1
                clear hb1
                rw [HBN.out]
                go_wp2_with fail
                refine (ltwice_any ad n c k vs 5 Hn.out hn' hnc hlt w1 (by exact HX.out.ext) HTT.out).mono ?_
                rintro e w2 ⟨rfl, hb2⟩
                rw [HTY.out]
                have S2 : Step w2 w1 := ⟨hb2⟩
                have q0 : w2.cell? ⟨wr.heap.size, 0, none⟩ = some (.int .i64 5) := cell_ext p0
                have q1 : w2.cell? ⟨wr.heap.size, 1, none⟩ = some (.slice VA vn vc) := cell_ext p1
                have HZW : Hid (wr.heap.size < w2.heap.size) := World.block_lt_of_cell? _ _ q0
                clear hb2 p0 p1
                go_wp2_with fail
                refine (lnumber_any VA vn vc xs GW.out.1 (by have := GW.out.2.2.1; omega) GW.out.2.2.2.1 _ (by exact GW.out.2.2.2.2.ext)).mono ?_
                rintro e w2' ⟨rfl, rfl⟩
                rw [HNX.out]
                have m3 : ∀ q, (w2.drewN q).cell? ⟨w.heap.size + 1, 3, none⟩ = some (.int .u32 (N % 4294967296)) := fun q => at_cell (at_ext HM.out) 3
                have m4 : w2.cell? ⟨w.heap.size + 1, 3, none⟩ = some (.int .u32 (N % 4294967296)) := at_cell (at_ext HM.out) 3
                go_wp2
                go_quiet (fail)
                go_wp2_with fail
                obtain ⟨wq, hwq⟩ : ∃ wq, w2.drewN nq = wq := ⟨_, rfl⟩
                have S2q : Step wq w2 := ⟨by rw [← hwq]; exact Ext.out⟩
                rw [hwq]
                have q0q : wq.cell? ⟨wr.heap.size, 0, none⟩ = some (.int .i64 5) := cell_ext q0
                have q1q : wq.cell? ⟨wr.heap.size, 1, none⟩ = some (.slice VA vn vc) := cell_ext q1
                clear q0 q1 hwq
                have q0 := q0q
                have q1 := q1q
                clear q0q q1q
                refine (lput_any magic 4 (by omega) (by omega) (by omega) wq).mono ?_
                rintro e w3 ⟨A3, c3, rfl, ho3, hb3⟩
                have S3 : Step w3 wq := ⟨hb3⟩
                have HD3 := Lib.hid ho3
                have r0 : w3.cell? ⟨wr.heap.size, 0, none⟩ = some (.int .i64 5) := cell_ext q0
                have r1 : w3.cell? ⟨wr.heap.size, 1, none⟩ = some (.slice VA vn vc) := cell_ext q1
                clear ho3 hb3 q0 q1
                go_wp2_with
                  (at_builtin
                   refine wp_append_box (w0 := w0) w0.heap.size rfl (.tmp 105) (.tmp 110) 29 119 (.agg #[.int .i64 0, .slice none 0 0]) 2 32 1 rfl Try.underlying29 info_opt rfl (by decide) (by decide) (.slice Lo us.length co) us.length (flat us) [.int .i64 5, .slice A3 4 c3] rfl rfl rfl (flat_one [⟨5, A3, 4, c3, []⟩]) (own_ext H3.out.o.1) Ext.out Ext.out.size (by omega) ?_
                   intro v4 w4 ho4 hb4 hg4 hat4
                   have HS4 := Lib.hid (Three.left (Three.push (u := ⟨5, A3, 4, c3, (be magic 4)⟩) (Three.left (H3.out.ext (w' := wq))) size_ext (inferInstance : Ext wq w3) HD3.out ⟨(be_length _ _), by have := hmg0; simp only; omega, (be_byt _ _)⟩ ho4 hg4 hat4))
                   have HX4 : Hid (Ext w0 w4) := ⟨hb4⟩
                   have X4 : Ext w0 w4 := HX4.out
                   have s0 : w4.cell? ⟨wr.heap.size, 0, none⟩ = some (.int .i64 5) := hg4.cell r0 (fun he => absurd (own_lt H3.out.o.1 _ he.symm) (Nat.lt_irrefl _))
                   have s1 : w4.cell? ⟨wr.heap.size, 1, none⟩ = some (.slice VA vn vc) := hg4.cell r1 (fun he => absurd (own_lt H3.out.o.1 _ he.symm) (Nat.lt_irrefl _))
                   clear ho4 hb4 hg4 hat4 r0 r1)
                have Y4 : Ext w w4 := Ext.trans_ XE0 HX4.out
                refine (lagain_any 5 VA vn vc xs GW.out.1 (by have := GW.out.2.2.1; omega) _ (by exact GW.out.2.2.2.2.ext)).mono ?_
                rintro e w5 ⟨A5, c5, rfl, ho5, hb5⟩
                have S5 : Step w5 w4 := ⟨hb5⟩
                have HD5 := Lib.hid ho5
                have E05 : Ext w0 w5 := Ext.trans_ HX4.out (inferInstance : Ext w4 w5)
                clear ho5 hb5
                go_wp2_with
                  (at_builtin
                   refine wp_append_box (w0 := w0) w0.heap.size rfl (.tmp 112) (.tmp 115) 29 119 (.agg #[.int .i64 0, .slice none 0 0]) 2 32 1 rfl Try.underlying29 info_opt rfl (by decide) (by decide) (.slice Lz zs.length cz) zs.length (flat zs) [.int .i64 5, .slice A5 vn c5] rfl rfl rfl (flat_one [⟨5, A5, vn, c5, []⟩]) (own_ext HS4.out.z.1) E05.out E05.out.size (by omega) ?_
                   intro v6 w6 ho6 hb6 hg6 hat6
                   have HS6 := Lib.hid (Three.ends (Three.push (u := ⟨5, A5, vn, c5, xs⟩) (Three.ends HS4.out) HX4.out.out.size (inferInstance : Ext w4 w5) HD5.out ⟨GW.out.1, by have := GW.out.2.2.1; simp only; omega, GW.out.2.2.2.1⟩ ho6 hg6 hat6))
                   have X6 : Hid (Ext w0 w6) := ⟨hb6⟩
                   clear ho6 hb6 hg6 hat6)
                refine ⟨⟨k + 1, bvs, (us ++ [(⟨5, A3, 4, c3, (be magic 4)⟩ : OV)]), (zs ++ [(⟨5, A5, vn, c5, xs⟩ : OV)]), by go_num, by omega, by omega, by (simp; omega), by (simp; omega), HS6.out, by (rw [List.map_append, List.map_append]; exact HRN.out), X6.out⟩, by simp [intOf]; omega⟩
              · skip
                have HRN := HRS.out
                rw [(ljUpd_ok HOK.out (loth_5n HNX.out hz hq))] at HRN
                have HRN := Lib.hid HRN
                have hz0 : (N == 0) = false := by simpa using hz
                have hq0 : (N % 4294967296 == mm) = false := by simpa using hq
                have hww : IntKind.u32.wrap N = N % 4294967296 := by rw [IntKind.wrap_u32]
                go_wp2_with fail
                refine (lborne_any cf acc.length pf af mgb AA ac w.heap.size 5 VA vn vc HL.out _ (at_ext HG.out)).mono ?_
                rintro e w1 ⟨rfl, hb1⟩
                have S1 : Step w1 _ := ⟨hb1⟩
                have HP := Lib.hid (at_ext (w' := w1) (at_new wr (.cells #[.int .i64 5, .slice VA vn vc] 119)))
                have p0 : w1.cell? ⟨wr.heap.size, 0, none⟩ = some (.int .i64 5) := at_cell HP.out 0
                have p1 : w1.cell? ⟨wr.heap.size, 1, none⟩ = some (.slice VA vn vc) := at_cell HP.out 1
                clear hb1
                rw [HBN.out]
                go_wp2_with fail
                refine (ltwice_any ad n c k vs 5 Hn.out hn' hnc hlt w1 (by exact HX.out.ext) HTT.out).mono ?_
                rintro e w2 ⟨rfl, hb2⟩
                rw [HTY.out]
                have S2 : Step w2 w1 := ⟨hb2⟩
                have q0 : w2.cell? ⟨wr.heap.size, 0, none⟩ = some (.int .i64 5) := cell_ext p0
                have q1 : w2.cell? ⟨wr.heap.size, 1, none⟩ = some (.slice VA vn vc) := cell_ext p1
                have HZW : Hid (wr.heap.size < w2.heap.size) := World.block_lt_of_cell? _ _ q0
                clear hb2 p0 p1
                go_wp2_with fail
                refine (lnumber_any VA vn vc xs GW.out.1 (by have := GW.out.2.2.1; omega) GW.out.2.2.2.1 _ (by exact GW.out.2.2.2.2.ext)).mono ?_
                rintro e w2' ⟨rfl, rfl⟩
                rw [HNX.out]
                have m3 : ∀ q, (w2.drewN q).cell? ⟨w.heap.size + 1, 3, none⟩ = some (.int .u32 mm) := fun q => at_cell (at_ext HM.out) 3
                have m4 : w2.cell? ⟨w.heap.size + 1, 3, none⟩ = some (.int .u32 mm) := at_cell (at_ext HM.out) 3
                clear hz hq
                clear HRS
                go_wp2
                go_quiet (fail)
                go_wp2
                refine ⟨⟨k + 1, bvs, us, zs, by go_num, by omega, by omega, by omega, by omega, (H3.out.ext), by (exact HRN.out), (inferInstance : Ext w0 _)⟩, by simp [intOf]; omega⟩
          · subst h
            have HRN := HRS.out
            rw [(ljUpd_ok HOK.out (loth_no (t := 7) (by decide) (by decide) (by decide)))] at HRN
            have HRN := Lib.hid HRN
            go_wp2_with fail
            refine (lborne_any cf acc.length pf af mgb AA ac w.heap.size 7 VA vn vc HL.out _ (at_ext HG.out)).mono ?_
            rintro e w1 ⟨rfl, hb1⟩
            have S1 : Step w1 _ := ⟨hb1⟩
            have HP := Lib.hid (at_ext (w' := w1) (at_new wr (.cells #[.int .i64 7, .slice VA vn vc] 119)))
            have p0 : w1.cell? ⟨wr.heap.size, 0, none⟩ = some (.int .i64 7) := at_cell HP.out 0
            have p1 : w1.cell? ⟨wr.heap.size, 1, none⟩ = some (.slice VA vn vc) := at_cell HP.out 1
            clear hb1
            rw [HBN.out]
            go_wp2_with fail
            refine (ltwice_any ad n c k vs 7 Hn.out hn' hnc hlt w1 (by exact HX.out.ext) HTT.out).mono ?_
            rintro e w2 ⟨rfl, hb2⟩
            rw [HTY.out]
            have S2 : Step w2 w1 := ⟨hb2⟩
            have q0 : w2.cell? ⟨wr.heap.size, 0, none⟩ = some (.int .i64 7) := cell_ext p0
            have q1 : w2.cell? ⟨wr.heap.size, 1, none⟩ = some (.slice VA vn vc) := cell_ext p1
            have HZW : Hid (wr.heap.size < w2.heap.size) := World.block_lt_of_cell? _ _ q0
            clear hb2 p0 p1
            go_wp2_with fail
            refine (lnumber_any VA vn vc xs GW.out.1 (by have := GW.out.2.2.1; omega) GW.out.2.2.2.1 _ (by exact GW.out.2.2.2.2.ext)).mono ?_
            rintro e w2' ⟨rfl, rfl⟩
            rw [HNX.out]
            clear HRS
            go_wp2
            go_quiet (fail)
            go_wp2
            refine ⟨⟨k + 1, bvs, us, zs, by go_num, by omega, by omega, by omega, by omega, (H3.out.ext), by (exact HRN.out), (inferInstance : Ext w0 _)⟩, by simp [intOf]; omega⟩
          · subst h
            have HRN := HRS.out
            rw [(ljUpd_ok HOK.out (loth_no (t := 8) (by decide) (by decide) (by decide)))] at HRN
            have HRN := Lib.hid HRN
            go_wp2_with fail
            refine (lborne_any cf acc.length pf af mgb AA ac w.heap.size 8 VA vn vc HL.out _ (at_ext HG.out)).mono ?_
            rintro e w1 ⟨rfl, hb1⟩
            have S1 : Step w1 _ := ⟨hb1⟩
            have HP := Lib.hid (at_ext (w' := w1) (at_new wr (.cells #[.int .i64 8, .slice VA vn vc] 119)))
            have p0 : w1.cell? ⟨wr.heap.size, 0, none⟩ = some (.int .i64 8) := at_cell HP.out 0
            have p1 : w1.cell? ⟨wr.heap.size, 1, none⟩ = some (.slice VA vn vc) := at_cell HP.out 1
            clear hb1
            rw [HBN.out]
            go_wp2_with fail
            refine (ltwice_any ad n c k vs 8 Hn.out hn' hnc hlt w1 (by exact HX.out.ext) HTT.out).mono ?_
            rintro e w2 ⟨rfl, hb2⟩
            rw [HTY.out]
            have S2 : Step w2 w1 := ⟨hb2⟩
            have q0 : w2.cell? ⟨wr.heap.size, 0, none⟩ = some (.int .i64 8) := cell_ext p0
            have q1 : w2.cell? ⟨wr.heap.size, 1, none⟩ = some (.slice VA vn vc) := cell_ext p1
            have HZW : Hid (wr.heap.size < w2.heap.size) := World.block_lt_of_cell? _ _ q0
            clear hb2 p0 p1
            go_wp2_with fail
            refine (lnumber_any VA vn vc xs GW.out.1 (by have := GW.out.2.2.1; omega) GW.out.2.2.2.1 _ (by exact GW.out.2.2.2.2.ext)).mono ?_
            rintro e w2' ⟨rfl, rfl⟩
            rw [HNX.out]
            clear HRS
            go_wp2
            go_quiet (fail)
            go_wp2
            refine ⟨⟨k + 1, bvs, us, zs, by go_num, by omega, by omega, by omega, by omega, (H3.out.ext), by (exact HRN.out), (inferInstance : Ext w0 _)⟩, by simp [intOf]; omega⟩
        · have hok : lokF C ((vs.map OV.opt).take k) (OV.opt ⟨t, VA, vn, vc, xs⟩) = false := by unfold lokF; rw [hvl]; show (lborneF C t vn && !hasTy _ t) = false; rw [hbn, hty]; rfl
          have HRN := HRS.out
          rw [ljUpd_bad hok] at HRN
          have HRN := Lib.hid HRN
          have HBN := Lib.hid hbn
          have HTY := Lib.hid hty
          rw [HCC.out] at HBN
          clear hbn hok hvl HRS hty
          go_wp2_with fail
          refine (lborne_any cf acc.length pf af mgb AA ac w.heap.size t VA vn vc HL.out _ (at_ext HG.out)).mono ?_
          rintro e w1 ⟨rfl, hb1⟩
          have S1 : Step w1 _ := ⟨hb1⟩
          have HP := Lib.hid (at_ext (w' := w1) (at_new wr (.cells #[.int .i64 t, .slice VA vn vc] 119)))
          have p0 : w1.cell? ⟨wr.heap.size, 0, none⟩ = some (.int .i64 t) := at_cell HP.out 0
          have p1 : w1.cell? ⟨wr.heap.size, 1, none⟩ = some (.slice VA vn vc) := at_cell HP.out 1
          clear hb1
          rw [HBN.out]
          go_wp2_with fail
          refine (ltwice_any ad n c k vs t Hn.out hn' hnc hlt w1 (by exact HX.out.ext) HTT.out).mono ?_
          rintro e w2 ⟨rfl, hb2⟩
          rw [HTY.out]
          have S2 : Step w2 w1 := ⟨hb2⟩
          have q0 : w2.cell? ⟨wr.heap.size, 0, none⟩ = some (.int .i64 t) := cell_ext p0
          have q1 : w2.cell? ⟨wr.heap.size, 1, none⟩ = some (.slice VA vn vc) := cell_ext p1
          clear hb2 p0 p1
          go_wp2_with fail
          refine (lagain_any t VA vn vc xs GV.out.1 (by have := GV.out.2.2.1; omega) _ (by exact GV.out.2.2.2.2.ext)).mono ?_
          rintro e w3 ⟨A3, c3, rfl, ho3, hb3⟩
          have S3 : Step w3 w2 := ⟨hb3⟩
          have HD3 := Lib.hid ho3
          clear ho3 hb3
          go_wp2_with
            (at_builtin
             refine wp_append_box (w0 := w0) w0.heap.size rfl (.tmp 37) (.tmp 40) 29 119 (.agg #[.int .i64 0, .slice none 0 0]) 2 32 1 rfl Try.underlying29 info_opt rfl (by decide) (by decide) (.slice Lb bvs.length cb) bvs.length (flat bvs) [.int .i64 t, .slice A3 vn c3] rfl rfl rfl (flat_one [⟨t, A3, vn, c3, []⟩]) (own_ext H3.out.b.1) Ext.out Ext.out.size (by omega) ?_
             intro v4 w4 ho4 hb4 hg4 hat4
             have HS4 := Lib.hid (Three.push (u := ⟨t, A3, vn, c3, xs⟩) (H3.out.ext (w' := w2)) size_ext (inferInstance : Ext w2 w3) HD3.out ⟨GV.out.1, by have := GV.out.2.2.1; simp only; omega, GV.out.2.2.2.1⟩ ho4 hg4 hat4)
             have X4 : Hid (Ext w0 w4) := ⟨hb4⟩
             clear ho4 hb4 hg4 hat4)
          refine ⟨⟨k + 1, (bvs ++ [(⟨t, A3, vn, c3, xs⟩ : OV)]), us, zs, by go_num, by omega, by (simp; omega), by omega, by omega, HS4.out, by (rw [List.map_append]; exact HRN.out), X4.out⟩, by simp [intOf]; omega⟩
    · have hRE := ljRun_end HRK.out (by rw [List.length_map, Hn.out]; omega)
      have HJ1 := HJ.out
      rw [hRE] at HJ1
      simp only at HJ1
      have hq : wr.cell? ⟨w.heap.size, 21, none⟩ = some (.int .i64 maxf) := (at_cell HG.out 21).trans HMF.out
      by_cases hb0 : 0 < bvs.length
      · have hb0I : (0 : Int) < (bvs.length : Int) := by omega
        have HJ2 : Hid (J = (4, bvs.map OV.opt)) := by
          rw [if_pos (map_ne hb0)] at HJ1
          exact HJ1.symm
        clear HJ1 hRE
        go_wp2
        try rw [Exit.noGoto_ret]
        go_ret2
        exact lTells_of HJ2.out (OptsOwn.weaken HE0.out.out.size H3.out.b) rfl Ext.out
      · have hb0I : ¬ (0 : Int) < (bvs.length : Int) := by omega
        rw [if_neg (by intro h; apply h; rw [List.map_eq_nil_iff]; exact List.eq_nil_of_length_eq_zero (by omega))] at HJ1
        by_cases hu0 : 0 < us.length
        · have hu0I : (0 : Int) < (us.length : Int) := by omega
          rw [if_pos (map_ne hu0)] at HJ1
          by_cases hnm : naks < maxf
          · have HJ2 : Hid (J = (3, us.map OV.opt)) := by
              rw [if_pos hnm] at HJ1
              exact HJ1.symm
            clear HJ1 hRE
            go_wp2
            try rw [Exit.noGoto_ret]
            go_ret2
            exact lTells_of HJ2.out (OptsOwn.weaken HE0.out.out.size H3.out.o) rfl Ext.out
          · have HJ2 : Hid (J = (4, zs.map OV.opt)) := by
              rw [if_neg hnm] at HJ1
              exact HJ1.symm
            clear HJ1 hRE
            go_wp2
            try rw [Exit.noGoto_ret]
            go_ret2
            exact lTells_of HJ2.out (OptsOwn.weaken HE0.out.out.size H3.out.z) rfl Ext.out
        · have hu0I : ¬ (0 : Int) < (us.length : Int) := by omega
          have HJ2 : Hid (J = (2, vs.map OV.opt)) := by
            rw [if_neg (by intro h; apply h; rw [List.map_eq_nil_iff]; exact List.eq_nil_of_length_eq_zero (by omega))] at HJ1
            exact HJ1.symm
          clear HJ1 hRE
          go_wp2_with fail
          refine (without_any A none n c 0 0 vs [] Hn.out rfl hn' (by omega) _ (by exact HX.out.ext) (by exact GX.out.ext) (Cells.nil_ _ _)).mono ?_
          rintro e w6 ⟨v6, ys, rfl, ho6, hy6, hb6⟩
          have S6 : Step w6 _ := ⟨hb6⟩
          have HO6 := Lib.hid (OptsOwn.weaken (size_ext (w := w)) ho6)
          have HY6 : Hid (ys.map OV.opt = vs.map OV.opt) := by unfold Hid; rw [hy6]; simp [withoutF, hasK]
          clear ho6 hy6 hb6
          go_wp2
          try rw [Exit.noGoto_ret]
          go_ret2
          exact lTells_of HJ2.out HO6.out HY6.out Ext.out
end Go.Proofs.Ytodibldfolognaa
