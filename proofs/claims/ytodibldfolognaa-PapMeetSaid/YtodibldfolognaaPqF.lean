/-
  tetherlaw12.PapMeet: a peer with the word of the best line, and an authenticator, are both accepted; with another word both refused: for every input the call answers true. No condition.
-/
import Derived.Test.YtodibldfolognaaPqE
import Derived.Test.YtodibldfolognaaPqB
namespace Go.Proofs.Ytodibldfolognaa
open Go.RowKit
set_option linter.unusedVariables false
set_option linter.unusedSimpArgs false

theorem name_len {xs : List Int} (h : nameF xs = true) : xs.length ≤ 64 := by
  unfold nameF at h
  simp only [Bool.and_eq_true, decide_eq_true_eq] at h
  omega
theorem req_ok {id : Int} {n m : List Int} (hn : nameF n = true) (hm : nameF m = true) (h0 : 0 ≤ id) (h1 : id ≤ 255) : ∃ d, reqF id n m = ((1, id), d, 0) := by
  have := name_len hn
  have := name_len hm
  unfold reqF
  rw [if_neg (by omega), if_neg (by omega)]
  exact ⟨_, rfl⟩
theorem ans_ok {id : Int} (ok : Bool) (st : Int) (h0 : 0 ≤ id) (h1 : id ≤ 255) : ∃ d, ansF id ok (strB (sayB st)) = ((if ok then 2 else 3, id), d, 0) := by
  have h2 : (strB (sayB st)).length = 7 := by unfold sayB; split <;> rfl
  have h3 : plainF (strB (sayB st)) = true := by unfold sayB; split <;> decide +kernel
  unfold ansF
  rw [if_neg (by omega), if_neg (by rw [h2]; omega), if_neg (by rw [h3]; simp)]
  exact ⟨_, rfl⟩
/-- How it ends. -/
def finS (rt : Bool) (nm : ByteArray) : Int × ByteArray := if rt then (1, nm) else (2, ⟨#[]⟩)
theorem fin_ne (rt : Bool) (nm : ByteArray) : (finS rt nm).1 ≠ 0 := by cases rt <;> simp [finS]
theorem fin_one (rt : Bool) (nm : ByteArray) : ((finS rt nm).1 == 1) = rt := by cases rt <;> rfl
theorem fin_two (rt : Bool) (nm : ByteArray) : ((finS rt nm).1 == 2) = !rt := by cases rt <;> rfl
theorem step_fin {sv nm wd : ByteArray} {vs : List SV} {rt : Bool} {st : Int} {who : ByteArray} (hn : nameF (strB nm) = true) (hrt : decide (checkF (strB nm) (strB sv) (strB wd) vs = 0) = rt) (h : (st, who) = (0, ⟨#[]⟩) ∨ (st, who) = finS rt nm) :
    stepS sv vs st who nm wd = finS rt nm := by
  unfold stepS accF
  rcases h with h | h
  · injection h with h1 h2
    subst h1 h2
    rw [if_pos rfl, hn, hrt]
    cases rt <;> rfl
  · have h1 : st = (finS rt nm).1 := congrArg Prod.fst h
    rw [if_neg (by rw [h1]; exact fin_ne rt nm), h]
section
variable {w w' : World} {B T P : Nat} {name who : ByteArray} {st : Int} {us : List SV}
theorem SrvAt.but (k : SrvAt w B T name st who us) (h : But w w' P) (hBP : B < P) : SrvAt w' B T name st who us :=
  ⟨h.at (by omega) k.b, k.t.move fun j hj => h.block j (Nat.lt_trans hj (at_lt k.b)) (by omega)⟩
end
theorem lost_of {l : Int} : ∃ L : Nat, (RowKit.wrap64 (l.tmod 9 + 9)).tmod 9 = (L : Int) ∧ L ≤ 8 := by
  have h1 : l.tmod 9 < 9 := Int.tmod_lt_of_pos l (by omega)
  have h2 : -9 < l.tmod 9 := by
    have := Int.tmod_lt_of_pos (-l) (b := 9) (by omega)
    rw [Int.neg_tmod] at this
    omega
  have h3 : RowKit.wrap64 (l.tmod 9 + 9) = l.tmod 9 + 9 := by
    generalize l.tmod 9 = t at *
    unfold RowKit.wrap64
    go_num
  rw [h3, Int.tmod_eq_emod_of_nonneg (by omega)]
  exact ⟨((l.tmod 9 + 9) % 9).toNat, by omega, by omega⟩
/-- Both ends, before round i. -/
structure MeetAt (w0 w : World) (B T P : Nat) (sv nm wd : ByteArray) (vs : List SV) (rt : Bool) (st : Int) (who : ByteArray) : Prop where
  v : SrvAt w B T sv st who vs
  e : Ext w0 w
  lb : w0.heap.size ≤ B
  lp : B < P
  s : (st, who) = (0, ⟨#[]⟩) ∨ (st, who) = finS rt nm
set_option maxRecDepth 100000 in
set_option maxHeartbeats 16000000 in
theorem meet12_law (nm wd sv : ByteArray) (A : Option Addr) (n c : Nat) (us : List SV) (lost : Int) (hnm : nm.size ≤ 140737488351232) (hwd : wd.size ≤ 140737488351232) (hsv : sv.size ≤ 140737488351232) (hl0 : -9223372036854775808 ≤ lost) (hl1 : lost ≤ 9223372036854775807) (hn : us.length = n) (hn' : n ≤ 17592186044416) (w : World) (hx : SecsAt w A us) :
    Calls Try.prog 10 #[.string nm, .string wd, .string sv, .slice A n c, .int .i64 lost] w fun e w' => e = .returned (.bool true) ∧ Below w.heap.size w w' := by
  have Hn := Lib.hid hn
  have HX := Lib.hid hx
  clear hn hx
  have HNM := Lib.hid hnm
  have HWD := Lib.hid hwd
  go_enter Try.func10, Try.ntmps10
  go_wp2_with fail
  refine (newServer_any sv (by omega) A n c us Hn.out hn' _ HX.out).mono ?_
  rintro e w1 ⟨hb1, he1⟩
  have S1 : Step w1 w := ⟨hb1⟩
  clear hb1
  have he1' : (∃ E K, E ≠ 0 ∧ e = .returned (.tuple #[.pointer none, .int .i64 E, .int .i64 K])) ∨ (nameF (strB sv) = true ∧ (wrongF us).1 = 0 ∧ ∃ B T vs, e = .returned (.tuple #[.pointer (some ⟨B, 0, none⟩), .int .i64 0, .int .i64 0]) ∧ w.heap.size ≤ B ∧ SrvAt w1 B T sv 0 ⟨#[]⟩ vs ∧ vs.map SV.dat = us.map SV.dat) := by
    split at he1
    · exact .inl ⟨60, 0, by omega, he1⟩
    · rename_i hq
      split at he1
      · rename_i hz
        exact .inl ⟨_, _, hz, he1⟩
      · rename_i hz
        exact .inr ⟨by simpa using hq, by simpa using hz, he1⟩
  clear he1
  rcases he1' with ⟨E, K, hE, rfl⟩ | ⟨hsn, hwr, B, T, vs, rfl, hB, hv, hd⟩
  · have hEb : (E != 0) = true := by simpa using hE
    clear hE
    go_wp2_with fail
    refine (newPeer_any nm wd 10 (by omega) (by omega) _).mono ?_
    rintro e w2 ⟨hb2, he2⟩
    have S2 : Step w2 w1 := ⟨hb2⟩
    have he2' : ∃ p x, e = .returned (.tuple #[p, .int .i64 x]) := by
      split at he2
      · exact ⟨_, _, he2⟩
      · obtain ⟨_, he2, _⟩ := he2
        exact ⟨_, _, he2⟩
    clear he2 hb2
    obtain ⟨p, x, rfl⟩ := he2'
    go_wp2_with fail
    refine (awake12_any _).mono ?_
    rintro e w9 ⟨rfl, hb9⟩
    have S9 : Step w9 _ := ⟨hb9⟩
    clear hb9
    go_wp2
    go_ret
    exact ⟨rfl, Ext.out⟩
  have HV := Lib.hid hv
  have HD := Lib.hid hd
  have HBl := Lib.hid hB
  have HVL : Hid (vs.length ≤ 64) := by
    have h1 : vs.length = us.length := by have := congrArg List.length hd; simpa using this
    unfold Hid
    rw [h1]
    unfold wrongF at hwr
    split at hwr
    · cases hwr
    · omega
  clear hv hd hB hsn hwr
  go_wp2_with fail
  refine (newPeer_any nm wd 10 (by omega) (by omega) _).mono ?_
  rintro e w2 ⟨hb2, he2⟩
  have S2 : Step w2 w1 := ⟨hb2⟩
  clear hb2
  obtain ⟨F, hF⟩ : ∃ F, npF nm wd 10 = F := ⟨_, rfl⟩
  rw [hF] at he2
  by_cases hz : F = 0
  · subst hz
    rw [if_neg (by simp)] at he2
    obtain ⟨P, rfl, hP, hp⟩ := he2
    have HNN : Hid (nameF (strB nm) = true ∧ nameF (strB wd) = true) := by
      unfold npF at hF
      unfold Hid
      split at hF
      · cases hF
      · rename_i h1
        split at hF
        · cases hF
        · rename_i h2
          exact ⟨by simpa using h1, by simpa using h2⟩
    have HPP := Lib.hid hp
    have HBP : Hid (B < P) := by have := at_lt HV.out.b; unfold Hid; omega
    have HV2 := Lib.hid (HV.out.ext (w' := w2))
    clear hP hp hF
    go_wp2_with fail
    refine (rcheck_any A n c us nm sv wd Hn.out hn' _ (by exact HX.out.ext)).mono ?_
    rintro e w3 ⟨rfl, hb3⟩
    have S3 : Step w3 w2 := ⟨hb3⟩
    clear hb3
    obtain ⟨rt, hrt⟩ : ∃ rt, decide (checkF (strB nm) (strB sv) (strB wd) us = 0) = rt := ⟨_, rfl⟩
    have HRT : Hid (decide (checkF (strB nm) (strB sv) (strB wd) vs = 0) = rt) := by unfold Hid; rw [check_dat HD.out]; exact hrt
    obtain ⟨ck, hck⟩ : ∃ ck, checkF (strB nm) (strB sv) (strB wd) us = ck := ⟨_, rfl⟩
    have HCK : Hid ((ck == 0) = rt) := by unfold Hid; rw [← hrt, hck]; by_cases h : ck = 0 <;> simp [h]
    rw [hck]
    clear hrt hck
    go_upto_region 9 with fail
    obtain ⟨L, hL, hL8⟩ := lost_of (l := lost)
    rw [hL, HCK.out]
    have HM : Hid (MeetAt w w3 B T P sv nm wd vs rt 0 ⟨#[]⟩) := ⟨HV2.out.ext, inferInstance, HBl.out, HBP.out, .inl rfl⟩
    have HP3 := Lib.hid (HPP.out.ext (w1 := w3))
    clear hL
    go_wp2_with fail
    go_loopw [17, 18, 19, 20, 21, 22, 23] (fun i x1 x2 x3 x4 x5 x6 wr => ∃ (k : Nat) (st : Int) (who : ByteArray), i = .int .i64 k ∧ k ≤ L + 1 ∧ Hid (MeetAt w wr B T P sv nm wd vs rt st who) ∧ Hid (k ≤ L → PeerAt 154 wr P nm wd 10 k k 0 ⟨#[]⟩) ∧ Hid (k = L + 1 → (st, who) = finS rt nm)) (fun i _ _ _ _ _ _ _ => L + 1 - (intOf i).toNat)
    case atStart => exact ⟨0, 0, ⟨#[]⟩, rfl, by omega, HM.out, fun _ => HP3.out, fun h => by omega⟩
    case round =>
      obtain ⟨k, st, who, rfl, hk, HMW, HPW, HFW⟩ := hrel
      by_cases hlt : k ≤ L
      · have hltI : (k : Int) ≤ (L : Int) := by omega
        have HPk := Lib.hid (HPW.out hlt)
        clear HPW HFW
        obtain ⟨d, hd⟩ := req_ok (id := (k : Int) + 1) HNN.out.1 HNN.out.2 (by omega) (by omega)
        have hk1 : ((k : Int) + 1) % 256 = k + 1 := by omega
        have HSS : Hid (sendS 10 k k 0 = ((k : Int) + 1, (k : Int) + 1, 0)) := by unfold Hid sendS; rw [if_neg (by simp), if_neg (by omega), hk1]
        have HSR : Hid (sendR (strB nm) (strB wd) 10 k k 0 = (((1, (k : Int) + 1), d), true, 0)) := by unfold Hid sendR; rw [if_neg (by simp), if_neg (by omega), hk1, hd]
        have HRR : Hid (rrF 1 ((k : Int) + 1) d = ((strB nm, strB wd), 0)) := req_back hd
        have HDB := Lib.hid (req_byt (strB_byt _) (strB_byt _) hd)
        clear hd hk1
        go_wp2_with fail
        refine (psend_any P nm wd ⟨#[]⟩ 10 k k 0 (by have := HNM.out; omega) (by have := HWD.out; omega) (by omega) (by omega) (by omega) (by omega) _ HPk.out).mono ?_
        rintro e w4 ⟨hb4, hp4, A4, c4, rfl, ho4⟩
        rw [HSS.out] at hp4
        rw [HSR.out] at ho4 ⊢
        simp only at ho4 hp4 ⊢
        have HP4 := Lib.hid hp4
        have HM4 : Hid (MeetAt w w4 B T P sv nm wd vs rt st who) := ⟨HMW.out.v.but hb4 HMW.out.lp, hb4.ext HMW.out.e (by have h1 := HMW.out.lb; have h2 := HMW.out.lp; omega), HMW.out.lb, HMW.out.lp, HMW.out.s⟩
        have HO4 := Lib.hid ho4
        have HBP4 : Hid (P < wr.heap.size ∧ wr.heap.size ≤ w4.heap.size) := ⟨at_lt HPk.out, hb4.size⟩
        have pn : ∀ o, (w4.alloc o).heap[w4.heap.size]? = some o := at_new w4
        clear hb4 hp4 ho4
        go_upto_region 15 with
          (refine wpList_store_row_o rfl 43 (.tmp 18) (.tmp 68) rfl w4.heap.size #[.int .i64 1, .int .i64 ((k : Int) + 1), .slice A4 d.length c4] rfl rfl 43 #[.int .i64 0, .int .i64 0, .slice none 0 0] (pn _) (by kernel_rfl) rfl (by simp [Value.oneCell']) ?_
           intro v4 hr2 ho2 hz2 hb2
           have HQ4 := Lib.hid hr2
           have X4 : Hid (Ext w4 v4) := ⟨hb2 _ _ (inferInstance : Ext w4 (w4.alloc _)).out (Nat.le_refl _)⟩
           clear hr2 ho2 hz2 hb2 pn)
        have Sv4 : Step v4 w4 := ⟨X4.out.out⟩
        have HMv4 : Hid (MeetAt w v4 B T P sv nm wd vs rt st who) := ⟨HM4.out.v.ext, HM4.out.e.trans_ X4.out, HM4.out.lb, HM4.out.lp, HM4.out.s⟩
        have HPv4 := Lib.hid (HP4.out.ext (w1 := v4))
        have a0 : v4.cell? ⟨w4.heap.size, 0, none⟩ = some (.int .i64 1) := at_cell HQ4.out 0
        have a1 : v4.cell? ⟨w4.heap.size, 1, none⟩ = some (.int .i64 ((k : Int) + 1)) := at_cell HQ4.out 1
        have a2 : v4.cell? ⟨w4.heap.size, 2, none⟩ = some (.slice A4 d.length c4) := at_cell HQ4.out 2
        by_cases hs : k < L
        · have hsI : (k : Int) < (L : Int) := by omega
          rcases hpar : ((k : Int) % 2 == 0) with _ | _
          · skip
            go_wp2_with fail
            refine (take_any B T sv vs st who 1 ((k : Int) + 1) A4 d.length c4 d rfl (by have := HDB.out.2; omega) (own_room HO4.out) HDB.out.1 HVL.out _ (own_cells (own_ext HO4.out)) HMv4.out.v).mono ?_
            rintro e w5 ⟨hb5, he5⟩
            rw [HRR.out, if_neg (by simp)] at he5
            obtain ⟨s', a', A5, c5, hs', ha, hv5, rfl, ho5⟩ := he5
            simp only [strOf_eq] at hs'
            rw [step_fin HNN.out.1 HRT.out HMv4.out.s] at hs'
            subst hs'
            obtain ⟨d2, hd2⟩ := ans_ok (id := (k : Int) + 1) rt (finS rt nm).1 (by omega) (by omega)
            rw [fin_one, hd2] at ha
            subst ha
            have HA2 := Lib.hid (ans_back hd2)
            have HAB := Lib.hid (ans_byt (strB_byt _) hd2)
            obtain ⟨cd, hcd⟩ : ∃ cd, (if rt then (2 : Int) else 3) = cd := ⟨_, rfl⟩
            rw [hcd] at HA2
            simp only [hcd] at ho5 ⊢
            clear hd2 hcd
            have HM5 : Hid (MeetAt w w5 B T P sv nm wd vs rt (finS rt nm).1 (finS rt nm).2) := ⟨hv5, hb5.ext HMv4.out.e HMv4.out.lb, HMv4.out.lb, HMv4.out.lp, .inr rfl⟩
            have HP5 := Lib.hid (HPv4.out.but hb5 (by have := HMv4.out.lp; omega))
            have HO5 := Lib.hid ho5
            have pn : ∀ o, (w5.alloc o).heap[w5.heap.size]? = some o := at_new w5
            clear hb5 hv5 ho5 a0 a1 a2
            go_upto_region 17 with
              (refine wpList_store_row_o rfl 43 (.tmp 21) (.tmp 89) rfl w5.heap.size #[.int .i64 cd, .int .i64 ((k : Int) + 1), .slice A5 d2.length c5] rfl rfl 43 #[.int .i64 0, .int .i64 0, .slice none 0 0] (pn _) (by kernel_rfl) rfl (by simp [Value.oneCell']) ?_
               intro v5 hr2 ho2 hz2 hb2
               have HQ5 := Lib.hid hr2
               have X5 : Hid (Ext w5 v5) := ⟨hb2 _ _ (inferInstance : Ext w5 (w5.alloc _)).out (Nat.le_refl _)⟩
               clear hr2 ho2 hz2 hb2 pn)
            have Sv5 : Step v5 w5 := ⟨X5.out.out⟩
            have HMv5 : Hid (MeetAt w v5 B T P sv nm wd vs rt (finS rt nm).1 (finS rt nm).2) := ⟨HM5.out.v.ext, HM5.out.e.trans_ X5.out, HM5.out.lb, HM5.out.lp, HM5.out.s⟩
            have HPv5 := Lib.hid (HP5.out.ext (w1 := v5))
            have hf1 : ((finS rt nm).1 == 1) = rt := fin_one rt nm
            have hf2 : ((finS rt nm).1 == 2) = !rt := fin_two rt nm
            go_wp2_with fail
            refine (state_any B T sv _ _ vs _ HMv5.out.v).mono ?_
            rintro e w6 ⟨rfl, rfl⟩
            go_wp2_with fail
            refine (state_any B T sv _ _ vs _ HMv5.out.v).mono ?_
            rintro e w6 ⟨rfl, rfl⟩
            go_wp2_with fail
            go_roundw
            case rel => exact ⟨k + 1, _, _, by go_num, by omega, HMv5.out, fun _ => by have := HPv5.out; simpa using this, fun _ => rfl⟩
            case measure => simp [intOf]; omega
          · go_wp2_with fail
            go_roundw
            case rel => exact ⟨k + 1, st, who, by go_num, by omega, HMv4.out, fun _ => by have := HPv4.out; simpa using this, fun h => by omega⟩
            case measure => simp [intOf]; omega
        · have hsI : ¬ (k : Int) < (L : Int) := by omega
          go_wp2_with fail
          refine (take_any B T sv vs st who 1 ((k : Int) + 1) A4 d.length c4 d rfl (by have := HDB.out.2; omega) (own_room HO4.out) HDB.out.1 HVL.out _ (own_cells (own_ext HO4.out)) HMv4.out.v).mono ?_
          rintro e w5 ⟨hb5, he5⟩
          rw [HRR.out, if_neg (by simp)] at he5
          obtain ⟨s', a', A5, c5, hs', ha, hv5, rfl, ho5⟩ := he5
          simp only [strOf_eq] at hs'
          rw [step_fin HNN.out.1 HRT.out HMv4.out.s] at hs'
          subst hs'
          obtain ⟨d2, hd2⟩ := ans_ok (id := (k : Int) + 1) rt (finS rt nm).1 (by omega) (by omega)
          rw [fin_one, hd2] at ha
          subst ha
          have HA2 := Lib.hid (ans_back hd2)
          have HAB := Lib.hid (ans_byt (strB_byt _) hd2)
          obtain ⟨cd, hcd⟩ : ∃ cd, (if rt then (2 : Int) else 3) = cd := ⟨_, rfl⟩
          rw [hcd] at HA2
          simp only [hcd] at ho5 ⊢
          clear hd2 hcd
          have HM5 : Hid (MeetAt w w5 B T P sv nm wd vs rt (finS rt nm).1 (finS rt nm).2) := ⟨hv5, hb5.ext HMv4.out.e HMv4.out.lb, HMv4.out.lb, HMv4.out.lp, .inr rfl⟩
          have HP5 := Lib.hid (HPv4.out.but hb5 (by have := HMv4.out.lp; omega))
          have HO5 := Lib.hid ho5
          have pn : ∀ o, (w5.alloc o).heap[w5.heap.size]? = some o := at_new w5
          clear hb5 hv5 ho5 a0 a1 a2
          go_upto_region 17 with
            (refine wpList_store_row_o rfl 43 (.tmp 21) (.tmp 89) rfl w5.heap.size #[.int .i64 cd, .int .i64 ((k : Int) + 1), .slice A5 d2.length c5] rfl rfl 43 #[.int .i64 0, .int .i64 0, .slice none 0 0] (pn _) (by kernel_rfl) rfl (by simp [Value.oneCell']) ?_
             intro v5 hr2 ho2 hz2 hb2
             have HQ5 := Lib.hid hr2
             have X5 : Hid (Ext w5 v5) := ⟨hb2 _ _ (inferInstance : Ext w5 (w5.alloc _)).out (Nat.le_refl _)⟩
             clear hr2 ho2 hz2 hb2 pn)
          have Sv5 : Step v5 w5 := ⟨X5.out.out⟩
          have HMv5 : Hid (MeetAt w v5 B T P sv nm wd vs rt (finS rt nm).1 (finS rt nm).2) := ⟨HM5.out.v.ext, HM5.out.e.trans_ X5.out, HM5.out.lb, HM5.out.lp, HM5.out.s⟩
          have HPv5 := Lib.hid (HP5.out.ext (w1 := v5))
          have hf1 : ((finS rt nm).1 == 1) = rt := fin_one rt nm
          have hf2 : ((finS rt nm).1 == 2) = !rt := fin_two rt nm
          go_wp2_with fail
          refine (state_any B T sv _ _ vs _ HMv5.out.v).mono ?_
          rintro e w6 ⟨rfl, rfl⟩
          go_wp2_with fail
          refine (state_any B T sv _ _ vs _ HMv5.out.v).mono ?_
          rintro e w6 ⟨rfl, rfl⟩
          have b0 : v5.cell? ⟨w5.heap.size, 0, none⟩ = some (.int .i64 cd) := at_cell HQ5.out 0
          have b1 : v5.cell? ⟨w5.heap.size, 1, none⟩ = some (.int .i64 ((k : Int) + 1)) := at_cell HQ5.out 1
          have b2 : v5.cell? ⟨w5.heap.size, 2, none⟩ = some (.slice A5 d2.length c5) := at_cell HQ5.out 2
          go_wp2_with fail
          have HPF : Hid (ptF ((k : Int) + 1) (raF cd ((k : Int) + 1) d2) ((k : Int) + 1) ((k : Int) + 1) 0 ⟨#[]⟩ = ((rt, 0), if rt then 1 else 2, sayB (finS rt nm).1)) := by
            unfold Hid ptF
            rw [HA2.out, if_neg (by simp), if_neg (by omega), if_neg (by simp), strOf_eq]
          refine (ptake_any P nm wd ⟨#[]⟩ 10 ((k : Int) + 1) ((k : Int) + 1) 0 cd ((k : Int) + 1) A5 d2.length c5 d2 rfl (by have := HAB.out.2; omega) (own_room HO5.out) HAB.out.1 _ (own_cells (own_ext HO5.out)) HPv5.out).mono ?_
          rintro e w6 ⟨hb6, hp6, rfl⟩
          rw [HPF.out] at hp6 ⊢
          simp only at hp6 ⊢
          have HP6 := Lib.hid hp6
          have HM6 : Hid (MeetAt w w6 B T P sv nm wd vs rt (finS rt nm).1 (finS rt nm).2) := ⟨HMv5.out.v.but hb6 HMv5.out.lp, hb6.ext HMv5.out.e (by have h1 := HMv5.out.lb; have h2 := HMv5.out.lp; omega), HMv5.out.lb, HMv5.out.lp, .inr rfl⟩
          have hps1 : ((if rt then (1 : Int) else 2) == 1) = rt := by cases rt <;> rfl
          obtain ⟨ps, hps⟩ : ∃ ps, (if rt then (1 : Int) else 2) = ps := ⟨_, rfl⟩
          rw [hps] at hps1 HP6
          clear hb6 hp6 b0 b1 b2 hps
          go_wp2_with fail
          refine (pstate_any P nm wd _ 10 _ _ ps _ HP6.out).mono ?_
          rintro e w7 ⟨rfl, rfl⟩
          go_wp2_with fail
          go_roundw
          case rel => exact ⟨k + 1, _, _, by go_num, by omega, HM6.out, fun h => by omega, fun _ => rfl⟩
          case measure => simp [intOf]; omega
      · have hkL : k = L + 1 := by omega
        have HFF := Lib.hid (HFW.out hkL)
        have Sr : Step wr w := ⟨HMW.out.e.out⟩
        have HV9 := Lib.hid HMW.out.v
        have hltI : ¬ (k : Int) ≤ (L : Int) := by omega
        clear HPW HFW HMW
        cases rt
        · have h := HFF.out
          injection h with h1 h2
          subst h1 h2
          go_wp2_with fail
          refine (who_any B T sv _ _ vs _ HV9.out).mono ?_
          rintro e w6 ⟨rfl, rfl⟩
          go_wp2_with fail
          refine (awake12_any _).mono ?_
          rintro e w9 ⟨rfl, hb9⟩
          have S9 : Step w9 _ := ⟨hb9⟩
          clear hb9
          go_wp2
          go_ret
          exact ⟨rfl, Ext.out⟩
        · have h := HFF.out
          injection h with h1 h2
          subst h1 h2
          go_wp2_with fail
          refine (who_any B T sv _ _ vs _ HV9.out).mono ?_
          rintro e w6 ⟨rfl, rfl⟩
          go_wp2_with fail
          refine (awake12_any _).mono ?_
          rintro e w9 ⟨rfl, hb9⟩
          have S9 : Step w9 _ := ⟨hb9⟩
          clear hb9
          go_wp2
          go_ret
          exact ⟨rfl, Ext.out⟩
  · rw [if_pos hz] at he2
    subst he2
    have hzb : (F != 0) = true := by simpa using hz
    clear hF hz
    go_wp2_with fail
    refine (awake12_any _).mono ?_
    rintro e w9 ⟨rfl, hb9⟩
    have S9 : Step w9 _ := ⟨hb9⟩
    clear hb9
    go_wp2
    go_ret
    exact ⟨rfl, Ext.out⟩
namespace PapMeet
set_option maxRecDepth 100000 in
theorem walk (U : Nat) (W : World) (vs : List Value) (h : Args U Try.prog W Try.f10.params.toList vs) : Calls Try.prog 10 vs.toArray W fun e W' => e = .returned (.bool true) ∧ Below W.heap.size W W' := by
  rw [Try.params10] at h
  match vs, h with
  | [v0, v1, v2, v3, v4], ⟨h0, h1, h2, h3, h4, _⟩ =>
    obtain ⟨nm, rfl, hnm⟩ := h0.str Try.underlying9
    obtain ⟨wd, rfl, hwd⟩ := h1.str Try.underlying9
    obtain ⟨sv, rfl, hsv⟩ := h2.str Try.underlying9
    obtain ⟨A, n, c, us, rfl, hl, hn, _, hx⟩ := Arg.secs h3
    obtain ⟨lost, rfl, hw4⟩ := h4.int Try.underlying3
    have hb := wf_i64 hw4
    exact meet12_law nm wd sv A n c us lost hnm hwd hsv hb.1 hb.2 hl hn W hx

set_option maxRecDepth 100000 in
theorem lifted (os : Os) (started : os.Started) (H : Type) (enc : TypeId × Value → H) :
    ReturnsInHanded {} Try.checked os 10 .any (Rows.papMeetSpec.pre6 enc Try.prog Try.f10 Rows.papMeetRow.domain false) (Rows.papMeetSpec.post enc Try.prog Try.f10 false true false false) :=
  law_lifted (C := Try.checked) laid_out own_knob started (by kernel_rfl) Try.func10 H enc rfl
    (fun ds hd => by
      have : ds.length = 5 := hd
      match ds, this with
      | [_, _, _, _, _], _ => exact ⟨rfl, rfl, rfl⟩) rfl Try.underlying4 (by
      have : (Try.f10.params.toList.all fun t => Try.prog.readableRec t && decide (t < Try.prog.types.size)) = true := by kernel_rfl
      intro t ht
      have h := List.all_eq_true.1 this t ht
      rw [Bool.and_eq_true, decide_eq_true_eq] at h
      exact h)
    (ChangeSpec.witness6 (enc := enc) (C := Try.checked) false ⟨#[], #[.string ⟨#[]⟩, .string ⟨#[]⟩, .string ⟨#[]⟩, .slice none 0 0, .int .i64 0], []⟩ 8 (by kernel_rfl) (by kernel_rfl) (by kernel_rfl) (by kernel_rfl)) walk

theorem over : Rows.papMeetRow.holds Try.pinned (OpenSpec.ofChange Rows.papMeetSpec) :=
  OpenClaim.holds_of_wide 10 Try.f10 rfl rfl rfl rfl rfl rfl rfl ⟨rfl, rfl, rfl, rfl, rfl⟩ rfl rfl rfl rfl rfl (by kernel_rfl) Try.func10 (by kernel_rfl)
    (of_decide_eq_true (by kernel_rfl)) (by unfold Func.isWrapper; first | (rw [if_pos (by decide +kernel)]; kernel_rfl) | (rw [if_neg (by decide +kernel)]; exact ⟨rfl, rfl⟩))
    (fun os started H enc _ => lifted os started H enc)

/-- The statement. -/
theorem proved : Rows.PapMeetSaid := over
#print axioms proved
end PapMeet
end Go.Proofs.Ytodibldfolognaa
