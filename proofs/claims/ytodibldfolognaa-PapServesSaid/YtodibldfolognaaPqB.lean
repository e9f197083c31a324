/-
  tetherlaw12.PapAsks: a peer sends at most so many requests, and takes just the answer to its last one: for every input the call answers true. No condition.
-/
import Derived.Test.YtodibldfolognaaPqA
import Derived.Test.YtodibldfolognaaPpU
import Derived.Test.YtodibldfolognaaPpV
import Derived.Deep.CutBlock
namespace Go.Proofs.Ytodibldfolognaa
open Go.RowKit
set_option linter.unusedVariables false
set_option linter.unusedSimpArgs false

/-- Both peers are alike. -/
structure TwoP (w0 w : World) (P R : Nat) (nm wd : ByteArray) (tr sn id st : Int) (ms : ByteArray) : Prop where
  p : PeerAt 154 w P nm wd tr sn id st ms
  r : PeerAt 114 w R nm wd tr sn id st ms
  e : Ext w0 w
  lp : w0.heap.size ≤ P
  lr : w0.heap.size ≤ R
  ne : P ≠ R
  s0 : 0 ≤ sn
  s1 : sn ≤ tr
  i0 : 0 ≤ id
  i1 : id ≤ 255
section
variable {w0 w w1 w2 : World} {P R : Nat} {nm wd ms : ByteArray} {tr sn id st : Int}
theorem TwoP.ext [h : Ext w w1] (k : TwoP w0 w P R nm wd tr sn id st ms) : TwoP w0 w1 P R nm wd tr sn id st ms := ⟨k.p.ext, k.r.ext, k.e.trans_ h, k.lp, k.lr, k.ne, k.s0, k.s1, k.i0, k.i1⟩
end
theorem sendR_byt {nm wd : ByteArray} {tr sn id st ra rb re : Int} {rk : Bool} {rd : List Int} (h : sendR (strB nm) (strB wd) tr sn id st = (((ra, rb), rd), rk, re)) : Byt rd := by
  unfold sendR at h
  split at h
  · injection h with h _; injection h with _ h; subst h; exact fun _ h => by cases h
  · split at h
    · injection h with h _; injection h with _ h; subst h; exact fun _ h => by cases h
    · injection h with h _
      injection h with _ h
      subst h
      exact (req_byt (e := (reqF ((id + 1) % 256) (strB nm) (strB wd)).2.2) (a := (reqF ((id + 1) % 256) (strB nm) (strB wd)).1.1) (b := (reqF ((id + 1) % 256) (strB nm) (strB wd)).1.2) (strB_byt _) (strB_byt _) rfl).1
theorem sendS_ok {tr sn id st a b c : Int} (h0 : 0 ≤ sn) (h1 : sn ≤ tr) (h2 : 0 ≤ id) (h3 : id ≤ 255) (h : sendS tr sn id st = (a, b, c)) : 0 ≤ a ∧ a ≤ tr ∧ 0 ≤ b ∧ b ≤ 255 := by
  unfold sendS at h
  split at h
  · injection h with e1 h; injection h with e2 _; subst e1 e2; omega
  · split at h
    · injection h with e1 h; injection h with e2 _; subst e1 e2; omega
    · injection h with e1 h; injection h with e2 _; subst e1 e2; omega
set_option maxRecDepth 100000 in
set_option maxHeartbeats 16000000 in
theorem asks12_law (nm wd : ByteArray) (tr : Int) (A : Option Addr) (n c : Nat) (us : List PV) (hnm : nm.size ≤ 140737488351232) (hwd : wd.size ≤ 140737488351232) (hn : us.length = n) (hn' : n ≤ 4398046511104) (w : World) (hx : OpsAt w A us) :
    Calls Try.prog 11 #[.string nm, .string wd, .int .i64 tr, .slice A n c] w fun e w' => e = .returned (.bool true) ∧ Below w.heap.size w w' := by
  have Hn := Lib.hid hn
  have HX := Lib.hid hx
  clear hn hx
  have HNM := Lib.hid hnm
  have HWD := Lib.hid hwd
  go_enter Try.func11, Try.ntmps11
  go_wp2_with fail
  refine (newPeer_any nm wd tr (by omega) (by omega) _).mono ?_
  rintro e w1 ⟨hb1, he1⟩
  have S1 : Step w1 w := ⟨hb1⟩
  obtain ⟨F, hF⟩ : ∃ F, npF nm wd tr = F := ⟨_, rfl⟩
  have HF := Lib.hid hF
  rw [hF] at he1
  by_cases hz : F = 0
  · subst hz
    rw [if_neg (by simp)] at he1
    obtain ⟨P, rfl, hP, hp⟩ := he1
    have HTR : Hid (1 ≤ tr ∧ tr ≤ 255) := by
      have h := hF
      unfold npF at h
      split at h
      · cases h
      split at h
      · cases h
      split at h
      · cases h
      unfold Hid
      omega
    clear hF hb1
    have HPP := Lib.hid hp
    have HLP := Lib.hid hP
    clear hp hP
    go_wp2_with fail
    refine (rnewPeer_any nm wd tr (by have := HNM.out; omega) (by have := HWD.out; omega) _).mono ?_
    rintro e w2 ⟨hb2, he2⟩
    rw [HF.out, if_neg (by simp)] at he2
    obtain ⟨R, rfl, hR, hr⟩ := he2
    have S2 : Step w2 w1 := ⟨hb2⟩
    have HT : Hid (TwoP w w2 P R nm wd tr 0 0 0 ⟨#[]⟩) := ⟨HPP.out.ext, hr, inferInstance, HLP.out, Nat.le_trans S1.out.size hR, by have := at_lt HPP.out; omega, by omega, by have := HTR.out; omega, by omega, by omega⟩
    clear hb2 hr hR
    go_wp2_with fail
    go_loopw [54, 13, 14, 15, 16, 17, 18, 19, 20, 21, 22, 23, 24, 63, 91, 115] (fun i x1 x2 x3 x4 x5 x6 x7 x8 x9 x10 x11 x12 x13 x14 x15 wr => ∃ (k : Nat) (sn id st : Int) (ms : ByteArray), i = .int .i64 k ∧ k ≤ n ∧ Hid (TwoP w wr P R nm wd tr sn id st ms)) (fun i _ _ _ _ _ _ _ _ _ _ _ _ _ _ _ _ => n - (intOf i).toNat)
    case atStart => exact ⟨0, 0, 0, 0, ⟨#[]⟩, rfl, by omega, HT.out⟩
    case round =>
      obtain ⟨k, sn, id, st, ms, rfl, hk, HTW⟩ := hrel
      by_cases hlt : k < n
      · obtain ⟨u, hu⟩ : ∃ u, us[k]? = some u := ⟨_, List.getElem?_eq_getElem (by rw [Hn.out]; exact hlt)⟩
        have Sr : Step wr w := ⟨HTW.out.e.out⟩
        obtain ⟨ad, rfl, hc0, hc1, hc2, hc3⟩ := op_at (HX.out.ext (w' := wr)).x hu
        have HK := Lib.hid ((HX.out.ext (w' := wr)).ok u (List.mem_of_getElem? hu))
        have HMU := Lib.hid (List.mem_of_getElem? hu)
        clear hu
        obtain ⟨uk, ucode, uid, uA, un, uc, uxs⟩ := u
        simp only at hc0 hc1 hc2 hc3
        by_cases h600 : 600 ≤ k
        · have h600I : (600 : Int) ≤ (k : Int) := by omega
          have h600b : decide ((600 : Int) ≤ (k : Int)) = true := decide_eq_true h600I
          go_wp2_with fail
          refine (awake12_any _).mono ?_
          rintro e w9 ⟨rfl, hb9⟩
          have S9 : Step w9 _ := ⟨hb9⟩
          clear hb9
          go_wp2
          go_ret
          exact ⟨rfl, Ext.out⟩
        have h600I : ¬ (600 : Int) ≤ (k : Int) := by omega
        clear h600
        go_upto_block 2 with fail
        obtain ⟨wq, hwq⟩ : ∃ wq, wr.alloc (.cells #[.int .i64 uk, .int .i64 ucode, .int .i64 uid, .slice uA un uc] 88) = wq := ⟨_, rfl⟩
        have HU : Hid (wq.heap[wr.heap.size]? = some (.cells #[.int .i64 uk, .int .i64 ucode, .int .i64 uid, .slice uA un uc] 88 (0, 0))) := by unfold Hid; rw [← hwq]; exact at_new wr _
        have HTQ : Hid (TwoP w wq P R nm wd tr sn id st ms) := by unfold Hid; rw [← hwq]; exact HTW.out.ext
        have Sq : Step wq wr := ⟨by rw [← hwq]; exact Ext.out⟩
        rw [hwq]
        clear hwq
        go_cut [] (fun wx => ∃ sn' id' st' ms', Hid (TwoP w wx P R nm wd tr sn' id' st' ms'))
        case first =>
          have HBR : Hid (P < wq.heap.size ∧ R < wq.heap.size) := ⟨at_lt HTQ.out.p, at_lt HTQ.out.r⟩
          by_cases k0 : uk = 0
          · subst k0
            obtain ⟨⟨⟨⟨ra, rb⟩, rd⟩, rk, re⟩, hR⟩ : ∃ r, sendR (strB nm) (strB wd) tr sn id st = r := ⟨_, rfl⟩
            obtain ⟨⟨sn', id', st'⟩, hS⟩ : ∃ s, sendS tr sn id st = s := ⟨_, rfl⟩
            have HR := Lib.hid hR
            have HS := Lib.hid hS
            have HRB := Lib.hid (sendR_byt hR)
            have HSB := Lib.hid (sendS_ok HTQ.out.s0 HTQ.out.s1 HTQ.out.i0 HTQ.out.i1 hS)
            clear hR hS
            go_wp2_with fail
            refine (psend_any P nm wd ms tr sn id st (by have := HNM.out; omega) (by have := HWD.out; omega) HTQ.out.s0 (by have h1 := HTQ.out.s1; have h2 := HTR.out; omega) HTQ.out.i0 HTQ.out.i1 _ HTQ.out.p).mono ?_
            rintro e w3 ⟨hb3, hp3, A3, c3, rfl, ho3⟩
            rw [HS.out] at hp3
            rw [HR.out] at ho3 ⊢
            simp only at ho3 hp3 ⊢
            have HP3 := Lib.hid hp3
            have HR3 := Lib.hid (HTQ.out.r.but hb3 HTQ.out.ne.symm)
            have HE3 : Hid (Ext w w3) := hb3.ext HTQ.out.e HTQ.out.lp
            have HO3 := Lib.hid ho3
            have HZ3 := Lib.hid hb3.size
            have pn : ∀ o, (w3.alloc o).heap[w3.heap.size]? = some o := at_new w3
            clear hb3 hp3 ho3
            go_wp2_with
              (refine wpList_store_row_o rfl 43 (.tmp 15) (.tmp 68) rfl w3.heap.size #[.int .i64 ra, .int .i64 rb, .slice A3 rd.length c3] rfl rfl 43 #[.int .i64 0, .int .i64 0, .slice none 0 0] (pn _) (by kernel_rfl) rfl (by simp [Value.oneCell']) ?_
               intro v3 hr2 ho2 hz2 hb2
               have HV3 := Lib.hid hr2
               have X3 : Hid (Ext w3 v3) := ⟨hb2 _ _ (inferInstance : Ext w3 (w3.alloc _)).out (Nat.le_refl _)⟩
               clear hr2 ho2 hz2 hb2 pn)
            have hx3 := X3.out
            have HP3' := Lib.hid (HP3.out.ext (w1 := v3))
            have HR3' := Lib.hid (HR3.out.ext (w1 := v3))
            refine (rpsend_any R nm wd ms tr sn id st (by have := HNM.out; omega) (by have := HWD.out; omega) HTQ.out.s0 (by have h1 := HTQ.out.s1; have h2 := HTR.out; omega) HTQ.out.i0 HTQ.out.i1 _ HR3'.out).mono ?_
            rintro e w4 ⟨hb4, hr4, A4, c4, rfl, ho4⟩
            rw [HS.out] at hr4
            rw [HR.out] at ho4 ⊢
            simp only at ho4 hr4 ⊢
            have HT4 : Hid (TwoP w w4 P R nm wd tr sn' id' st' ms) := ⟨HP3'.out.but hb4 HTQ.out.ne, hr4, hb4.ext (Ext.trans_ HE3.out hx3) HTQ.out.lr, HTQ.out.lp, HTQ.out.lr, HTQ.out.ne, HSB.out.1, HSB.out.2.1, HSB.out.2.2.1, HSB.out.2.2.2⟩
            have HV4 : Hid (w4.heap[w3.heap.size]? = some (.cells #[.int .i64 ra, .int .i64 rb, .slice A3 rd.length c3] 43 (0, 0))) := hb4.at (by have h1 := HBR.out.2; have h2 := HZ3.out; omega) HV3.out
            have HO3' := Lib.hid (own_but (own_ext (w' := v3) HO3.out) hb4 (fun h => by have h1 := own_base HO3.out _ h; have h2 := HBR.out.2; omega))
            have HO4 := Lib.hid ho4
            have pn : ∀ o, (w4.alloc o).heap[w4.heap.size]? = some o := at_new w4
            clear hb4 hr4 ho4 hx3
            go_upto_region 15 with
              (refine wpList_store_row_o rfl 43 (.tmp 18) (.tmp 74) rfl w4.heap.size #[.int .i64 ra, .int .i64 rb, .slice A4 rd.length c4] rfl rfl 43 #[.int .i64 0, .int .i64 0, .slice none 0 0] (pn _) (by kernel_rfl) rfl (by simp [Value.oneCell']) ?_
               intro v4 hr2 ho2 hz2 hb2
               have HVv4 := Lib.hid hr2
               have Sv4 : Step v4 w4 := ⟨hb2 _ _ (inferInstance : Ext w4 (w4.alloc _)).out (Nat.le_refl _)⟩
               clear hr2 ho2 hz2 hb2 pn)
            have a0 : v4.cell? ⟨w3.heap.size, 0, none⟩ = some (.int .i64 ra) := at_cell (at_ext HV4.out) 0
            have a1 : v4.cell? ⟨w3.heap.size, 1, none⟩ = some (.int .i64 rb) := at_cell (at_ext HV4.out) 1
            have a2 : v4.cell? ⟨w3.heap.size, 2, none⟩ = some (.slice A3 rd.length c3) := at_cell (at_ext HV4.out) 2
            have b0 : v4.cell? ⟨w4.heap.size, 0, none⟩ = some (.int .i64 ra) := at_cell (at_ext HVv4.out) 0
            have b1 : v4.cell? ⟨w4.heap.size, 1, none⟩ = some (.int .i64 rb) := at_cell (at_ext HVv4.out) 1
            have b2 : v4.cell? ⟨w4.heap.size, 2, none⟩ = some (.slice A4 rd.length c4) := at_cell (at_ext HVv4.out) 2
            go_wp2_with fail
            refine (same12_any ra rb ra rb A3 A4 rd.length rd.length c3 c4 rd rd rfl rfl HRB.out HRB.out _ (own_cells (own_ext HO3'.out)) (own_cells (own_ext HO4.out))).mono ?_
            rintro e x1 ⟨rfl, hbx1⟩
            have Sx1 : Step x1 v4 := ⟨hbx1⟩
            rw [pkSame_self]
            clear hbx1 a0 a1 a2 b0 b1 b2
            have HTX := Lib.hid ((HT4.out.ext (w1 := v4)).ext (w1 := x1))
            go_wp2_with fail
            go_meet
            case rel => exact ⟨_, _, _, _, HTX.out⟩
          by_cases k1 : uk = 1
          · subst k1
            obtain ⟨⟨⟨bb, be⟩, st', ms'⟩, hF⟩ : ∃ r, ptF uid (raF ucode uid uxs) sn id st ms = r := ⟨_, rfl⟩
            have HFF := Lib.hid hF
            clear hF
            have a1 : wq.cell? ⟨wr.heap.size, 1, none⟩ = some (.int .i64 ucode) := at_cell HU.out 1
            have a2 : wq.cell? ⟨wr.heap.size, 2, none⟩ = some (.int .i64 uid) := at_cell HU.out 2
            have a3 : wq.cell? ⟨wr.heap.size, 3, none⟩ = some (.slice uA un uc) := at_cell HU.out 3
            go_wp2_with fail
            refine (ptake_any P nm wd ms tr sn id st ucode uid uA un uc uxs HK.out.n (by have := HK.out.m; simp only at this; omega) HK.out.c HK.out.b _ (by exact HK.out.x.ext) HTQ.out.p).mono ?_
            rintro e w3 ⟨hb3, hp3, rfl⟩
            rw [HFF.out] at hp3 ⊢
            simp only at hp3 ⊢
            have HP3 := Lib.hid hp3
            have HR3 := Lib.hid (HTQ.out.r.but hb3 HTQ.out.ne.symm)
            have HE3 : Hid (Ext w w3) := hb3.ext HTQ.out.e HTQ.out.lp
            have HC3 : Hid (Cells w3 uA (nums .u8 uxs)) := by have h := ((HX.out.ext (h := HE3.out)).ok _ HMU.out).x; exact h
            have HU3 := Lib.hid (hb3.at (by have := HTW.out; have h1 := at_lt HTW.out.p; omega) HU.out)
            clear hb3 hp3 a1 a2 a3
            have a1 : w3.cell? ⟨wr.heap.size, 1, none⟩ = some (.int .i64 ucode) := at_cell HU3.out 1
            have a2 : w3.cell? ⟨wr.heap.size, 2, none⟩ = some (.int .i64 uid) := at_cell HU3.out 2
            have a3 : w3.cell? ⟨wr.heap.size, 3, none⟩ = some (.slice uA un uc) := at_cell HU3.out 3
            go_wp2_with fail
            refine (rptake_any R nm wd ms tr sn id st ucode uid uA un uc uxs HK.out.n (by have := HK.out.m; simp only at this; omega) HK.out.c HK.out.b _ HC3.out HR3.out).mono ?_
            rintro e w4 ⟨hb4, hr4, rfl⟩
            rw [HFF.out] at hr4 ⊢
            simp only at hr4 ⊢
            have HT4 : Hid (TwoP w w4 P R nm wd tr sn id st' ms') := ⟨HP3.out.but hb4 HTQ.out.ne, hr4, hb4.ext HE3.out HTQ.out.lr, HTQ.out.lp, HTQ.out.lr, HTQ.out.ne, HTQ.out.s0, HTQ.out.s1, HTQ.out.i0, HTQ.out.i1⟩
            clear hr4 hb4 a1 a2 a3
            go_wp2_with fail
            go_meet
            case rel => exact ⟨_, _, _, _, HT4.out⟩
          by_cases k2 : uk = 2
          · subst k2
            go_wp2_with fail
            refine (preset_any P nm wd ms tr sn id st _ HTQ.out.p).mono ?_
            rintro e w3 ⟨rfl, hp3, hb3⟩
            have HR3 := Lib.hid (HTQ.out.r.but hb3 HTQ.out.ne.symm)
            have HE3 : Hid (Ext w w3) := hb3.ext HTQ.out.e HTQ.out.lp
            have HP3 := Lib.hid hp3
            clear hp3 hb3
            go_wp2_with fail
            refine (rpreset_any R nm wd ms tr sn id st _ HR3.out).mono ?_
            rintro e w4 ⟨rfl, hr4, hb4⟩
            have HT4 : Hid (TwoP w w4 P R nm wd tr 0 id 0 ⟨#[]⟩) := ⟨HP3.out.but hb4 HTQ.out.ne, hr4, hb4.ext HE3.out HTQ.out.lr, HTQ.out.lp, HTQ.out.lr, HTQ.out.ne, by omega, by have := HTR.out; omega, HTQ.out.i0, HTQ.out.i1⟩
            clear hr4 hb4
            go_wp2_with fail
            go_meet
            case rel => exact ⟨_, _, _, _, HT4.out⟩
          have k0' : (uk == 0) = false := by simpa using k0
          have k1' : (uk == 1) = false := by simpa using k1
          have k2' : (uk == 2) = false := by simpa using k2
          clear k0 k1 k2
          go_wp2_with fail
          go_meet
          case rel => exact ⟨_, _, _, _, HTQ.out⟩
        case' rest =>
          obtain ⟨sn', id', st', ms', hT⟩ := hcut
          have HTY := Lib.hid hT.out
          generalize wc = y at *
          clear hT
          have q5 := HTY.out.r.p5
          have q6 := HTY.out.r.p6
          go_upto_region 25 with fail
          refine wp_region_held_drew (S := fun W => Ext y W) (by kernel_rfl) (by exact inferInstance) (fun hHeld => ?_)
          refine wpAnyH_take (i := 0) (v := ?_) rfl (by kernel_rfl) (by kernel_rfl) (by kernel_rfl) (fun _ _ _ h => h) (Yields.yieldsIf (Or.inl ⟨by rfl, ?_⟩)) hHeld ?_
          rotate_left
          · intro W
            go_simp
            try with_reducible rfl
          simp only [List.getElem_toArray, List.getElem_cons_succ, List.getElem_cons_zero, Act.put, List.setIfInBounds_toArray, List.set_cons_zero, List.set_cons_succ]
          refine wpAnyH_take (i := 2) (v := ?_) rfl (by kernel_rfl) (by kernel_rfl) (by kernel_rfl) (fun _ _ _ h => h) (Yields.yieldsIf (Or.inl ⟨by rfl, ?_⟩)) hHeld ?_
          rotate_left
          · intro W
            go_simp
            try with_reducible rfl
          simp only [List.getElem_toArray, List.getElem_cons_succ, List.getElem_cons_zero, Act.put, List.setIfInBounds_toArray, List.set_cons_zero, List.set_cons_succ]
          refine wpAnyH_take (i := 3) (v := ?_) rfl (by kernel_rfl) (by kernel_rfl) (by kernel_rfl) (fun _ _ _ h => h) (Yields.yieldsIf (Or.inl ⟨by rfl, ?_⟩)) hHeld ?_
          rotate_left
          · intro W
            go_simp
            try with_reducible rfl
          simp only [List.getElem_toArray, List.getElem_cons_succ, List.getElem_cons_zero, Act.put, List.setIfInBounds_toArray, List.set_cons_zero, List.set_cons_succ]
          refine wpAnyH_take (i := 4) (v := ?_) rfl (by kernel_rfl) (by kernel_rfl) (by kernel_rfl) (fun _ _ _ h => h) (Yields.yieldsIf (Or.inl ⟨by rfl, ?_⟩)) hHeld ?_
          rotate_left
          · intro W
            go_simp
            try with_reducible rfl
          simp only [List.getElem_toArray, List.getElem_cons_succ, List.getElem_cons_zero, Act.put, List.setIfInBounds_toArray, List.set_cons_zero, List.set_cons_succ]
          refine wpAnyH_take (i := 5) (v := ?_) rfl (by kernel_rfl) (by kernel_rfl) (by kernel_rfl) (fun _ _ _ h => h) (Or.inl ⟨by rfl, ?_⟩) hHeld ?_
          rotate_left
          · intro W hW
            have hcl := (cell_ext (h := hW) q5)
            go_simp
            try with_reducible rfl
          simp only [List.getElem_toArray, List.getElem_cons_succ, List.getElem_cons_zero, Act.put, List.setIfInBounds_toArray, List.set_cons_zero, List.set_cons_succ]
          refine wpAnyH_ready (rs := [1]) (by kernel_rfl) (by simp) ?_
          refine AllReadyH.cons rfl (fun K hK => ?_) AllReadyH.nil
          refine step_call_w (by rfl) Try.func70 (by kernel_rfl) (by kernel_rfl) #[.tmp 121] #[103] rfl #[.pointer (some ⟨P, 0, none⟩)] ?hv (pstate_any P nm wd ms' tr sn' id' st' _ (by exact HTY.out.p.ext)) ?_
          case hv => go_simp
          rintro e w5 ⟨rfl, rfl⟩
          refine ⟨_, rfl, ?_⟩
          clear hHeld
          refine hK.out _ _ (by exact inferInstance) (fun hHeld => ?_)
          clear hK K
          simp only [List.getElem_toArray, List.getElem_cons_succ, List.getElem_cons_zero, Act.put, List.setIfInBounds_toArray, List.set_cons_zero, List.set_cons_succ]
          refine wpAnyH_take (i := 6) (v := ?_) rfl (by kernel_rfl) (by kernel_rfl) (by kernel_rfl) (fun _ _ _ h => h) (Yields.yieldsIf (Or.inl ⟨by rfl, ?_⟩)) hHeld ?_
          rotate_left
          · intro W
            go_simp
            try with_reducible rfl
          simp only [List.getElem_toArray, List.getElem_cons_succ, List.getElem_cons_zero, Act.put, List.setIfInBounds_toArray, List.set_cons_zero, List.set_cons_succ]
          refine wpAnyH_take (i := 7) (v := ?_) rfl (by kernel_rfl) (by kernel_rfl) (by kernel_rfl) (fun _ _ _ h => h) (Yields.yieldsIf (Or.inl ⟨by rfl, ?_⟩)) hHeld ?_
          rotate_left
          · intro W
            go_simp
            try with_reducible rfl
          simp only [List.getElem_toArray, List.getElem_cons_succ, List.getElem_cons_zero, Act.put, List.setIfInBounds_toArray, List.set_cons_zero, List.set_cons_succ]
          refine wpAnyH_take (i := 8) (v := ?_) rfl (by kernel_rfl) (by kernel_rfl) (by kernel_rfl) (fun _ _ _ h => h) (Yields.yieldsIf (Or.inl ⟨by rfl, ?_⟩)) hHeld ?_
          rotate_left
          · intro W
            go_simp
            try with_reducible rfl
          simp only [List.getElem_toArray, List.getElem_cons_succ, List.getElem_cons_zero, Act.put, List.setIfInBounds_toArray, List.set_cons_zero, List.set_cons_succ]
          refine wpAnyH_take (i := 10) (v := ?_) rfl (by kernel_rfl) (by kernel_rfl) (by kernel_rfl) (fun _ _ _ h => h) (Yields.yieldsIf (Or.inl ⟨by rfl, ?_⟩)) hHeld ?_
          rotate_left
          · intro W
            go_simp
            try with_reducible rfl
          simp only [List.getElem_toArray, List.getElem_cons_succ, List.getElem_cons_zero, Act.put, List.setIfInBounds_toArray, List.set_cons_zero, List.set_cons_succ]
          refine wpAnyH_take (i := 11) (v := ?_) rfl (by kernel_rfl) (by kernel_rfl) (by kernel_rfl) (fun _ _ _ h => h) (Yields.yieldsIf (Or.inl ⟨by rfl, ?_⟩)) hHeld ?_
          rotate_left
          · intro W
            go_simp
            try with_reducible rfl
          simp only [List.getElem_toArray, List.getElem_cons_succ, List.getElem_cons_zero, Act.put, List.setIfInBounds_toArray, List.set_cons_zero, List.set_cons_succ]
          refine wpAnyH_take (i := 12) (v := ?_) rfl (by kernel_rfl) (by kernel_rfl) (by kernel_rfl) (fun _ _ _ h => h) (Yields.yieldsIf (Or.inl ⟨by rfl, ?_⟩)) hHeld ?_
          rotate_left
          · intro W
            go_simp
            try with_reducible rfl
          simp only [List.getElem_toArray, List.getElem_cons_succ, List.getElem_cons_zero, Act.put, List.setIfInBounds_toArray, List.set_cons_zero, List.set_cons_succ]
          refine wpAnyH_take (i := 13) (v := ?_) rfl (by kernel_rfl) (by kernel_rfl) (by kernel_rfl) (fun _ _ _ h => h) (Or.inl ⟨by rfl, ?_⟩) hHeld ?_
          rotate_left
          · intro W hW
            have hcl := (cell_ext (h := hW) q6)
            go_simp
            try with_reducible rfl
          simp only [List.getElem_toArray, List.getElem_cons_succ, List.getElem_cons_zero, Act.put, List.setIfInBounds_toArray, List.set_cons_zero, List.set_cons_succ]
          refine wpAnyH_ready (rs := [9]) (by kernel_rfl) (by simp) ?_
          refine AllReadyH.cons rfl (fun K hK => ?_) AllReadyH.nil
          refine step_call_w (by rfl) Try.func76 (by kernel_rfl) (by kernel_rfl) #[.tmp 129] #[103] rfl #[.pointer (some ⟨P, 0, none⟩)] ?hv (pmessage_any P nm wd ms' tr sn' id' st' _ (by exact HTY.out.p.ext)) ?_
          case hv => go_simp
          rintro e w5 ⟨rfl, rfl⟩
          refine ⟨_, rfl, ?_⟩
          clear hHeld
          refine hK.out _ _ (by exact inferInstance) (fun hHeld => ?_)
          clear hK K
          simp only [List.getElem_toArray, List.getElem_cons_succ, List.getElem_cons_zero, Act.put, List.setIfInBounds_toArray, List.set_cons_zero, List.set_cons_succ]
          refine wpAnyH_take (i := 14) (v := ?_) rfl (by kernel_rfl) (by kernel_rfl) (by kernel_rfl) (fun _ _ _ h => h) (Yields.yieldsIf (Or.inl ⟨by rfl, ?_⟩)) hHeld ?_
          rotate_left
          · intro W
            go_simp
            try with_reducible rfl
          simp only [List.getElem_toArray, List.getElem_cons_succ, List.getElem_cons_zero, Act.put, List.setIfInBounds_toArray, List.set_cons_zero, List.set_cons_succ]
          refine wpAnyH_take (i := 15) (v := ?_) rfl (by kernel_rfl) (by kernel_rfl) (by kernel_rfl) (fun _ _ _ h => h) (Yields.yieldsIf (Or.inl ⟨by rfl, ?_⟩)) hHeld ?_
          rotate_left
          · intro W
            go_simp
            try with_reducible rfl
          simp only [List.getElem_toArray, List.getElem_cons_succ, List.getElem_cons_zero, Act.put, List.setIfInBounds_toArray, List.set_cons_zero, List.set_cons_succ]
          refine wpAnyH_done (by kernel_rfl) ?_ _
          clear hHeld
          go_wp2_with fail
          go_roundw
          case rel => exact ⟨k + 1, sn', id', st', ms', by go_num, by omega, HTY.out.ext⟩
          case measure => simp [intOf]; omega
      · obtain rfl : k = n := by omega
        have Sr : Step wr w := ⟨HTW.out.e.out⟩
        go_wp2_with fail
        refine (awake12_any _).mono ?_
        rintro e w9 ⟨rfl, hb9⟩
        have S9 : Step w9 _ := ⟨hb9⟩
        clear hb9
        go_wp2
        go_ret
        exact ⟨rfl, Ext.out⟩
  · rw [if_pos hz] at he1
    subst he1
    clear hF hb1
    go_wp2_with fail
    refine (rnewPeer_any nm wd tr (by have := HNM.out; omega) (by have := HWD.out; omega) _).mono ?_
    rintro e w2 ⟨hb2, he2⟩
    rw [HF.out, if_pos hz] at he2
    subst he2
    have S2 : Step w2 w1 := ⟨hb2⟩
    clear hb2
    go_wp2_with fail
    refine (awake12_any _).mono ?_
    rintro e w9 ⟨rfl, hb9⟩
    have S9 : Step w9 _ := ⟨hb9⟩
    clear hb9
    go_wp2
    go_ret
    exact ⟨rfl, Ext.out⟩
namespace PapAsks
set_option maxRecDepth 100000 in
theorem walk (U : Nat) (W : World) (vs : List Value) (h : Args U Try.prog W Try.f11.params.toList vs) : Calls Try.prog 11 vs.toArray W fun e W' => e = .returned (.bool true) ∧ Below W.heap.size W W' := by
  rw [Try.params11] at h
  match vs, h with
  | [v0, v1, v2, v3], ⟨h0, h1, h2, h3, _⟩ =>
    obtain ⟨nm, rfl, hnm⟩ := h0.str Try.underlying9
    obtain ⟨wd, rfl, hwd⟩ := h1.str Try.underlying9
    obtain ⟨tr, rfl, _⟩ := h2.int Try.underlying3
    obtain ⟨A, n, c, us, rfl, hl, hn, hx⟩ := Arg.ops h3
    exact asks12_law nm wd tr A n c us hnm hwd hl hn W hx

set_option maxRecDepth 100000 in
theorem lifted (os : Os) (started : os.Started) (H : Type) (enc : TypeId × Value → H) :
    ReturnsInHanded {} Try.checked os 11 .any (Rows.papAsksSpec.pre6 enc Try.prog Try.f11 Rows.papAsksRow.domain false) (Rows.papAsksSpec.post enc Try.prog Try.f11 false true false false) :=
  law_lifted (C := Try.checked) laid_out own_knob started (by kernel_rfl) Try.func11 H enc rfl
    (fun ds hd => by
      have : ds.length = 4 := hd
      match ds, this with
      | [_, _, _, _], _ => exact ⟨rfl, rfl, rfl⟩) rfl Try.underlying4 (by
      have : (Try.f11.params.toList.all fun t => Try.prog.readableRec t && decide (t < Try.prog.types.size)) = true := by kernel_rfl
      intro t ht
      have h := List.all_eq_true.1 this t ht
      rw [Bool.and_eq_true, decide_eq_true_eq] at h
      exact h)
    (ChangeSpec.witness6 (enc := enc) (C := Try.checked) false ⟨#[], #[.string ⟨#[]⟩, .string ⟨#[]⟩, .int .i64 0, .slice none 0 0], []⟩ 8 (by kernel_rfl) (by kernel_rfl) (by kernel_rfl) (by kernel_rfl)) walk

theorem over : Rows.papAsksRow.holds Try.pinned (OpenSpec.ofChange Rows.papAsksSpec) :=
  OpenClaim.holds_of_wide 11 Try.f11 rfl rfl rfl rfl rfl rfl rfl ⟨rfl, rfl, rfl, rfl, rfl⟩ rfl rfl rfl rfl rfl (by kernel_rfl) Try.func11 (by kernel_rfl)
    (of_decide_eq_true (by kernel_rfl)) (by unfold Func.isWrapper; first | (rw [if_pos (by decide +kernel)]; kernel_rfl) | (rw [if_neg (by decide +kernel)]; exact ⟨rfl, rfl⟩))
    (fun os started H enc _ => lifted os started H enc)

/-- The statement. -/
theorem proved : Rows.PapAsksSaid := over
#print axioms proved
end PapAsks
end Go.Proofs.Ytodibldfolognaa
