/-
  ccp.Judge: the answer to any request. Conditions: the list is no longer than the model's memory.
-/
import Derived.Test.YtnhmpmibkpoipaaCcE
import Derived.Test.YtnhmpmibkpoipaaCcO
import Derived.Test.YtnhmpmibkpoipaaSep
namespace Go.Proofs.Ytnhmpmibkpoipaa
open Go.RowKit
set_option linter.unusedVariables false
set_option linter.unusedSimpArgs false

abbrev OL := List (Int × List Int)
def othF (df bs : Int) (o : Int × List Int) : Option (Int × List Int) :=
  if o.1 = 26 ∧ (saysF o = 0 ∨ df < saysF o) then some (26, [dflB df, 0]) else if o.1 = 21 ∧ (saysF o = 0 ∨ bs < saysF o) then some (21, [cmpB bs]) else none
def jUpd (df bs : Int) (pre : OL) (o : Int × List Int) (s : OL × OL × OL) : OL × OL × OL :=
  if borneF df bs pre o = false then (s.1 ++ [o], s.2.1, s.2.2)
  else match othF df bs o with
    | some y => (s.1, s.2.1 ++ [y], s.2.2 ++ [o])
    | none => s
def jRun (df bs : Int) : OL → OL → OL × OL × OL → OL × OL × OL
  | _, [], s => s
  | pre, o :: rest, s => jRun df bs (pre ++ [o]) rest (jUpd df bs pre o s)
def judgeC (df bs maxf naks : Int) (os : OL) : Int × OL :=
  let r := jRun df bs [] os ([], [], [])
  if r.1 ≠ [] then (4, r.1) else if r.2.1 ≠ [] then (if naks < maxf then (3, r.2.1) else (4, r.2.2)) else (2, os)
section
variable {df bs : Int} {os pre : OL} {k : Nat} {s r : OL × OL × OL} {o y : Int × List Int}
theorem jRun_end (h : jRun df bs pre (os.drop k) s = r) (hk : os.length ≤ k) : r = s := by
  rw [List.drop_of_length_le hk, jRun] at h
  exact h.symm
theorem jRun_step (h : jRun df bs (os.take k) (os.drop k) s = r) (ho : os[k]? = some o) : jRun df bs (os.take (k + 1)) (os.drop (k + 1)) (jUpd df bs (os.take k) o s) = r := by
  rw [drop_at ho, jRun] at h
  rw [take_snoc ho]
  exact h
theorem jUpd_bad (h : borneF df bs pre o = false) : jUpd df bs pre o s = (s.1 ++ [o], s.2.1, s.2.2) := by unfold jUpd; rw [if_pos h]
theorem jUpd_oth (h : borneF df bs pre o = true) (h' : othF df bs o = some y) : jUpd df bs pre o s = (s.1, s.2.1 ++ [y], s.2.2 ++ [o]) := by unfold jUpd; rw [if_neg (by simp [h]), h']
theorem jUpd_ok (h : borneF df bs pre o = true) (h' : othF df bs o = none) : jUpd df bs pre o s = s := by unfold jUpd; rw [if_neg (by simp [h]), h']
end
theorem othF_26 {df bs S t : Int} {xs : List Int} (ht : t = 26) (hs : saysF (t, xs) = S) (h : S = 0 ∨ df < S) : othF df bs (t, xs) = some (26, [dflB df, 0]) := by subst ht; unfold othF; rw [if_pos ⟨rfl, by rw [hs]; exact h⟩]
theorem othF_21 {df bs S t : Int} {xs : List Int} (ht : t = 21) (hs : saysF (t, xs) = S) (h : S = 0 ∨ bs < S) : othF df bs (t, xs) = some (21, [cmpB bs]) := by subst ht; unfold othF; rw [if_neg (by simp), if_pos ⟨rfl, by rw [hs]; exact h⟩]
theorem othF_26n {df bs S t : Int} {xs : List Int} (ht : t = 26) (hs : saysF (t, xs) = S) (h : ¬ (S = 0 ∨ df < S)) : othF df bs (t, xs) = none := by subst ht; unfold othF; rw [if_neg (by rw [hs]; simpa using h), if_neg (by simp)]
theorem othF_21n {df bs S t : Int} {xs : List Int} (ht : t = 21) (hs : saysF (t, xs) = S) (h : ¬ (S = 0 ∨ bs < S)) : othF df bs (t, xs) = none := by subst ht; unfold othF; rw [if_neg (by simp), if_neg (by rw [hs]; simpa using h)]
theorem borneF_kind {df bs t : Int} {pre : OL} {xs : List Int} (h : borneF df bs pre (t, xs) = true) : t = 26 ∨ t = 21 := by
  by_cases h1 : t = 26
  · exact .inl h1
  · by_cases h2 : t = 21
    · exact .inr h2
    · rw [borneF_no h1 h2] at h
      cases h
theorem map_ne {us : List OV} (h : 0 < us.length) : us.map OV.opt ≠ [] := fun he => by
  rw [List.map_eq_nil_iff] at he
  rw [he] at h
  exact absurd h (by simp)
theorem judgeTells22_of {J : Int × OL} {a : Int} {os : OL} {w w' : World} {v : Value} {us : List OV} (h : J = (a, os)) (hv : OptsOwn w' w.heap.size v us) (hu : us.map OV.opt = os) (hb : Below w.heap.size w w') : JudgeTells22 J w (.returned (.tuple #[.int .i64 a, v])) w' := by
  subst h
  exact ⟨v, us, rfl, hv, hu, hb⟩
set_option maxRecDepth 100000 in
set_option maxHeartbeats 8000000 in
theorem judge22_any (cf : Array Value) (df bs maxf naks : Int) (A : Option Addr) (n c : Nat) (vs : List OV) (hsz : (Try.prog.info? 39).map (·.size) = some cf.size) (hdf : cf[16]? = some (.int .i64 df)) (hbs : cf[17]? = some (.int .i64 bs)) (hmf : cf[21]? = some (.int .i64 maxf)) (hn : vs.length = n) (hn' : n ≤ 4398046511104) (hnc : n ≤ c)
    (w : World) (hx : Cells w A (flat vs)) (gx : Good w vs) :
    Calls Try.prog 31 #[.agg cf, .slice A n c, .int .i64 naks] w (JudgeTells22 (judgeC df bs maxf naks (vs.map OV.opt)) w) := by
  have Hn := Lib.hid hn
  have HX := Lib.hid hx
  have GX := Lib.hid gx
  have HSZ := Lib.hid hsz
  have HDF := Lib.hid hdf
  have HBS := Lib.hid hbs
  have HMF := Lib.hid hmf
  have HG := Lib.hid (at_new w (.cells cf 39))
  obtain ⟨R, hR⟩ : ∃ R, jRun df bs [] (vs.map OV.opt) ([], [], []) = R := ⟨_, rfl⟩
  have HR := Lib.hid hR
  obtain ⟨J, hJ⟩ : ∃ J, judgeC df bs maxf naks (vs.map OV.opt) = J := ⟨_, rfl⟩
  rw [hJ]
  unfold judgeC at hJ
  simp only [hR] at hJ
  have HJ := Lib.hid hJ
  clear hn hx gx hsz hdf hbs hmf hR hJ
  go_enter Try.func31, Try.ntmps31
  go_wp2
  go_step3
  go_wp2
  go_step3
  go_wp2
  go_loopw [8, 9, 10, 16] (fun b o s i wr => ∃ (k : Nat) (bvs us zs : List OV), i = .int .i64 k ∧ k ≤ n ∧ bvs.length ≤ k ∧ us.length ≤ k ∧ zs.length ≤ k ∧ Hid (Sep3 wr (w.alloc (.cells cf 39)).heap.size b o s bvs us zs) ∧ Hid (jRun df bs ((vs.map OV.opt).take k) ((vs.map OV.opt).drop k) (bvs.map OV.opt, us.map OV.opt, zs.map OV.opt) = R) ∧ Hid ((∀ v ∈ bvs, v ∈ vs) ∧ ∀ v ∈ zs, v ∈ vs) ∧ Hid (Ext (w.alloc (.cells cf 39)) wr)) (fun _ _ _ i _ => n - (intOf i).toNat)
  case atStart => exact ⟨0, [], [], [], rfl, by omega, by simp, by simp, by simp, Sep3.nil_ _ _, HR.out, ⟨by simp, by simp⟩, Ext.refl_ _⟩
  case round =>
    obtain ⟨k, bvs, us, zs, rfl, hk, hlb, hlu, hlz, HS3, HRK, HM, HXR⟩ := hrel
    have XR : Ext (w.alloc (.cells cf 39)) wr := HXR.out
    have YR : Ext w wr := Ext.trans_ inferInstance XR
    obtain ⟨Lb, cb, rfl, hcb⟩ := own_slice HS3.out.1.1
    obtain ⟨Lo, co, rfl, hco⟩ := own_slice HS3.out.1.2.1.1
    obtain ⟨Lz, cz, rfl, hcz⟩ := own_slice HS3.out.1.2.2
    by_cases hlt : k < n
    · obtain ⟨v, hv, hvm⟩ := optD (vs := vs) (k := k) (by rw [Hn.out]; exact hlt)
      obtain ⟨ad, rfl, hc0, hc1⟩ := opt_at (HX.out.ext (w' := wr)) hv
      have GV := Lib.hid (GX.out v hvm)
      have HV : Hid ((vs.map OV.opt)[k]? = some v.opt) := by unfold Hid; rw [List.getElem?_map, hv]; rfl
      have HVK := Lib.hid hv
      have HVM := Lib.hid hvm
      have HRS := Lib.hid (jRun_step HRK.out HV.out)
      clear hv hvm
      obtain ⟨t, VA, vn, vc, xs⟩ := v
      simp only at hc0 hc1
      rcases hbn : borneF df bs ((vs.take k).map OV.opt) (OV.opt ⟨t, VA, vn, vc, xs⟩) with _ | _
      · have HBN := Lib.hid hbn
        have HRN := HRS.out
        rw [List.map_take] at hbn
        rw [jUpd_bad hbn] at HRN
        have HRN := Lib.hid HRN
        clear hbn HRS
        go_wp2_with
          (refine wpList_load_row rfl 39 (.tmp 3) rfl w.heap.size rfl 39 cf (0, 0) _ (at_ext HG.out) Try.underlying39 rfl HSZ.out ?_)
        refine (borne22_any cf df bs (some ad) n c k vs _ HDF.out HBS.out Hn.out hn' hnc HVK.out _ (by exact HX.out.ext) (by exact GX.out.ext)).mono ?_
        rintro e w1 ⟨rfl, hb1⟩
        rw [HBN.out]
        have S1 : Step w1 _ := ⟨hb1⟩
        have HP := Lib.hid (at_ext (w' := w1) (at_new wr (.cells #[.int .i64 t, .slice VA vn vc] 109)))
        have p0 : w1.cell? ⟨wr.heap.size, 0, none⟩ = some (.int .i64 t) := at_cell HP.out 0
        have p1 : w1.cell? ⟨wr.heap.size, 1, none⟩ = some (.slice VA vn vc) := at_cell HP.out 1
        clear hb1
        go_wp2_with
          (at_builtin
           refine wp_append_box (w0 := w.alloc (.cells cf 39)) (w.alloc (.cells cf 39)).heap.size rfl (.tmp 26) (.tmp 28) 35 109 (.agg #[.int .i64 0, .slice none 0 0]) 2 32 1 rfl Try.underlying35 info_opt rfl (by decide) (by decide) (.slice Lb bvs.length cb) bvs.length (flat bvs) [.int .i64 t, .slice VA vn vc] rfl rfl rfl (flat_one [⟨t, VA, vn, vc, []⟩]) (own_ext HS3.out.1.1) Ext.out Ext.out.size (by omega) ?_
           intro v4 w4 ho4 hb4 hg4 hat4
           have HS4 := Lib.hid (Sep3.bad (v := ⟨t, VA, vn, vc, xs⟩) (HS3.out.ext (w' := w1)) (Ext.refl_ w1) ho4 hg4 hat4)
           have X4 : Ext (w.alloc (.cells cf 39)) w4 := ⟨hb4⟩
           clear ho4 hb4 hg4 hat4)
        refine ⟨⟨k + 1, (bvs ++ [(⟨t, VA, vn, vc, xs⟩ : OV)]), us, zs, by go_num, by omega, by (simp; omega), by omega, by omega, HS4.out, by (rw [List.map_append]; exact HRN.out), by (exact ⟨fun v hv => (List.mem_append.1 hv).elim (HM.out.1 v) fun h => by rw [List.mem_singleton.1 h]; exact HVM.out, HM.out.2⟩), (inferInstance : Ext _ _)⟩, by simp [intOf]; omega⟩
      · have HBN := Lib.hid hbn
        have hbn' := hbn
        rw [List.map_take] at hbn'
        obtain ⟨S, hS⟩ : ∃ S, saysF (t, xs) = S := ⟨_, rfl⟩
        have HS := Lib.hid hS
        clear hS
        rcases borneF_kind hbn with ht | ht
        · have ht : t = 26 := ht
          subst ht
          by_cases hs0 : S = 0
          · have HRN := HRS.out
            rw [jUpd_oth hbn' (othF_26 rfl HS.out (.inl hs0))] at HRN
            have HRN := Lib.hid HRN
            have hs0' : (S == 0) = true := by simpa using hs0
            clear hbn hbn' HRS hs0
            go_wp2_with
              (refine wpList_load_row rfl 39 (.tmp 3) rfl w.heap.size rfl 39 cf (0, 0) _ (at_ext HG.out) Try.underlying39 rfl HSZ.out ?_)
            refine (borne22_any cf df bs (some ad) n c k vs _ HDF.out HBS.out Hn.out hn' hnc HVK.out _ (by exact HX.out.ext) (by exact GX.out.ext)).mono ?_
            rintro e w1 ⟨rfl, hb1⟩
            rw [HBN.out]
            have S1 : Step w1 _ := ⟨hb1⟩
            have HP := Lib.hid (at_ext (w' := w1) (at_new wr (.cells #[.int .i64 26, .slice VA vn vc] 109)))
            have p0 : w1.cell? ⟨wr.heap.size, 0, none⟩ = some (.int .i64 26) := at_cell HP.out 0
            have p1 : w1.cell? ⟨wr.heap.size, 1, none⟩ = some (.slice VA vn vc) := at_cell HP.out 1
            clear hb1
            go_wp2_with fail
            refine (bits22_any 26 VA vn vc xs GV.out.1 GV.out.2.2.2.1 _ (by exact GV.out.2.2.2.2.ext)).mono ?_
            rintro e w2 ⟨rfl, hb2⟩
            rw [HS.out]
            have S2 : Step w2 _ := ⟨hb2⟩
            have q0 : w2.cell? ⟨wr.heap.size, 0, none⟩ = some (.int .i64 26) := cell_ext p0
            have q1 : w2.cell? ⟨wr.heap.size, 1, none⟩ = some (.slice VA vn vc) := cell_ext p1
            have q16 : w2.cell? ⟨w.heap.size, 16, none⟩ = some (.int .i64 df) := (at_cell (at_ext HG.out) 16).trans HDF.out
            have q17 : w2.cell? ⟨w.heap.size, 17, none⟩ = some (.int .i64 bs) := (at_cell (at_ext HG.out) 17).trans HBS.out
            clear hb2 p0 p1
            go_wp2_with fail
            refine (deflate22_any df _).mono ?_
            rintro e w3 ⟨A3, c3, rfl, ho3, hb3⟩
            have S3 : Step w3 _ := ⟨hb3⟩
            have HD3 := Lib.hid ho3
            have r0 : w3.cell? ⟨wr.heap.size, 0, none⟩ = some (.int .i64 26) := cell_ext q0
            have r1 : w3.cell? ⟨wr.heap.size, 1, none⟩ = some (.slice VA vn vc) := cell_ext q1
            clear ho3 hb3 q0 q1
            go_wp2_with
              (first
               | (at_builtin
                  refine wp_append_box (w0 := w.alloc (.cells cf 39)) (w.alloc (.cells cf 39)).heap.size rfl (.tmp 46) (.tmp 50) 35 109 (.agg #[.int .i64 0, .slice none 0 0]) 2 32 1 rfl Try.underlying35 info_opt rfl (by decide) (by decide) (.slice Lo us.length co) us.length (flat us) [.int .i64 26, .slice A3 2 c3] rfl rfl rfl (flat_one [⟨26, A3, 2, c3, []⟩]) (own_ext HS3.out.1.2.1.1) Ext.out Ext.out.size (by omega) ?_
                  intro v4 w4 ho4 hb4 hg4 hat4
                  have HS4 := Lib.hid (Sep3.other (u := ⟨26, A3, 2, c3, [dflB df, 0]⟩) (HS3.out.ext (w' := w2)) (size_ext) (inferInstance : Ext w2 w3) (own_weaken HD3.out (size_ext (w := w2))) ⟨rfl, by simp, dflB_byt df⟩ ho4 hg4 hat4)
                  have X4 : Ext (w.alloc (.cells cf 39)) w4 := ⟨hb4⟩
                  have s0 : w4.cell? ⟨wr.heap.size, 0, none⟩ = some (.int .i64 26) := hg4.cell r0 (fun he => absurd (own_lt HS3.out.1.2.1.1 _ he.symm) (Nat.lt_irrefl _))
                  have s1 : w4.cell? ⟨wr.heap.size, 1, none⟩ = some (.slice VA vn vc) := hg4.cell r1 (fun he => absurd (own_lt HS3.out.1.2.1.1 _ he.symm) (Nat.lt_irrefl _))
                  clear ho4 hb4 hg4 hat4)
               | (at_builtin
                  refine wp_append_box (w0 := w.alloc (.cells cf 39)) (w.alloc (.cells cf 39)).heap.size rfl (.tmp 72) (.tmp 74) 35 109 (.agg #[.int .i64 0, .slice none 0 0]) 2 32 1 rfl Try.underlying35 info_opt rfl (by decide) (by decide) (.slice Lz zs.length cz) zs.length (flat zs) [.int .i64 26, .slice VA vn vc] rfl rfl rfl (flat_one [⟨26, VA, vn, vc, []⟩]) HS4.out.1.2.2 Ext.out Ext.out.size (by omega) ?_
                  intro v5 w5 ho5 hb5 hg5 hat5
                  have HS5 := Lib.hid (Sep3.good (v := ⟨26, VA, vn, vc, xs⟩) HS4.out (Ext.refl_ w4) ho5 hg5 hat5)
                  have X5 : Ext (w.alloc (.cells cf 39)) w5 := ⟨hb5⟩
                  clear ho5 hb5 hg5 hat5))
            refine ⟨⟨k + 1, bvs, (us ++ [(⟨26, A3, 2, c3, [dflB df, 0]⟩ : OV)]), (zs ++ [(⟨26, VA, vn, vc, xs⟩ : OV)]), by go_num, by omega, by omega, by (simp; omega), by (simp; omega), HS5.out, by (rw [List.map_append, List.map_append]; exact HRN.out), by (exact ⟨HM.out.1, fun v hv => (List.mem_append.1 hv).elim (HM.out.2 v) fun h => by rw [List.mem_singleton.1 h]; exact HVM.out⟩), (inferInstance : Ext _ _)⟩, by simp [intOf]; omega⟩
          · have hs0' : (S == 0) = false := by simpa using hs0
            by_cases hlt2 : df < S
            · have HRN := HRS.out
              rw [jUpd_oth hbn' (othF_26 rfl HS.out (.inr hlt2))] at HRN
              have HRN := Lib.hid HRN
              clear hbn hbn' HRS hs0
              go_wp2_with
                (refine wpList_load_row rfl 39 (.tmp 3) rfl w.heap.size rfl 39 cf (0, 0) _ (at_ext HG.out) Try.underlying39 rfl HSZ.out ?_)
              refine (borne22_any cf df bs (some ad) n c k vs _ HDF.out HBS.out Hn.out hn' hnc HVK.out _ (by exact HX.out.ext) (by exact GX.out.ext)).mono ?_
              rintro e w1 ⟨rfl, hb1⟩
              rw [HBN.out]
              have S1 : Step w1 _ := ⟨hb1⟩
              have HP := Lib.hid (at_ext (w' := w1) (at_new wr (.cells #[.int .i64 26, .slice VA vn vc] 109)))
              have p0 : w1.cell? ⟨wr.heap.size, 0, none⟩ = some (.int .i64 26) := at_cell HP.out 0
              have p1 : w1.cell? ⟨wr.heap.size, 1, none⟩ = some (.slice VA vn vc) := at_cell HP.out 1
              clear hb1
              go_wp2_with fail
              refine (bits22_any 26 VA vn vc xs GV.out.1 GV.out.2.2.2.1 _ (by exact GV.out.2.2.2.2.ext)).mono ?_
              rintro e w2 ⟨rfl, hb2⟩
              rw [HS.out]
              have S2 : Step w2 _ := ⟨hb2⟩
              have q0 : w2.cell? ⟨wr.heap.size, 0, none⟩ = some (.int .i64 26) := cell_ext p0
              have q1 : w2.cell? ⟨wr.heap.size, 1, none⟩ = some (.slice VA vn vc) := cell_ext p1
              have q16 : w2.cell? ⟨w.heap.size, 16, none⟩ = some (.int .i64 df) := (at_cell (at_ext HG.out) 16).trans HDF.out
              have q17 : w2.cell? ⟨w.heap.size, 17, none⟩ = some (.int .i64 bs) := (at_cell (at_ext HG.out) 17).trans HBS.out
              clear hb2 p0 p1
              go_wp2_with fail
              refine (deflate22_any df _).mono ?_
              rintro e w3 ⟨A3, c3, rfl, ho3, hb3⟩
              have S3 : Step w3 _ := ⟨hb3⟩
              have HD3 := Lib.hid ho3
              have r0 : w3.cell? ⟨wr.heap.size, 0, none⟩ = some (.int .i64 26) := cell_ext q0
              have r1 : w3.cell? ⟨wr.heap.size, 1, none⟩ = some (.slice VA vn vc) := cell_ext q1
              clear ho3 hb3 q0 q1
              go_wp2_with
                (first
                 | (at_builtin
                    refine wp_append_box (w0 := w.alloc (.cells cf 39)) (w.alloc (.cells cf 39)).heap.size rfl (.tmp 46) (.tmp 50) 35 109 (.agg #[.int .i64 0, .slice none 0 0]) 2 32 1 rfl Try.underlying35 info_opt rfl (by decide) (by decide) (.slice Lo us.length co) us.length (flat us) [.int .i64 26, .slice A3 2 c3] rfl rfl rfl (flat_one [⟨26, A3, 2, c3, []⟩]) (own_ext HS3.out.1.2.1.1) Ext.out Ext.out.size (by omega) ?_
                    intro v4 w4 ho4 hb4 hg4 hat4
                    have HS4 := Lib.hid (Sep3.other (u := ⟨26, A3, 2, c3, [dflB df, 0]⟩) (HS3.out.ext (w' := w2)) (size_ext) (inferInstance : Ext w2 w3) (own_weaken HD3.out (size_ext (w := w2))) ⟨rfl, by simp, dflB_byt df⟩ ho4 hg4 hat4)
                    have X4 : Ext (w.alloc (.cells cf 39)) w4 := ⟨hb4⟩
                    have s0 : w4.cell? ⟨wr.heap.size, 0, none⟩ = some (.int .i64 26) := hg4.cell r0 (fun he => absurd (own_lt HS3.out.1.2.1.1 _ he.symm) (Nat.lt_irrefl _))
                    have s1 : w4.cell? ⟨wr.heap.size, 1, none⟩ = some (.slice VA vn vc) := hg4.cell r1 (fun he => absurd (own_lt HS3.out.1.2.1.1 _ he.symm) (Nat.lt_irrefl _))
                    clear ho4 hb4 hg4 hat4)
                 | (at_builtin
                    refine wp_append_box (w0 := w.alloc (.cells cf 39)) (w.alloc (.cells cf 39)).heap.size rfl (.tmp 72) (.tmp 74) 35 109 (.agg #[.int .i64 0, .slice none 0 0]) 2 32 1 rfl Try.underlying35 info_opt rfl (by decide) (by decide) (.slice Lz zs.length cz) zs.length (flat zs) [.int .i64 26, .slice VA vn vc] rfl rfl rfl (flat_one [⟨26, VA, vn, vc, []⟩]) HS4.out.1.2.2 Ext.out Ext.out.size (by omega) ?_
                    intro v5 w5 ho5 hb5 hg5 hat5
                    have HS5 := Lib.hid (Sep3.good (v := ⟨26, VA, vn, vc, xs⟩) HS4.out (Ext.refl_ w4) ho5 hg5 hat5)
                    have X5 : Ext (w.alloc (.cells cf 39)) w5 := ⟨hb5⟩
                    clear ho5 hb5 hg5 hat5))
              refine ⟨⟨k + 1, bvs, (us ++ [(⟨26, A3, 2, c3, [dflB df, 0]⟩ : OV)]), (zs ++ [(⟨26, VA, vn, vc, xs⟩ : OV)]), by go_num, by omega, by omega, by (simp; omega), by (simp; omega), HS5.out, by (rw [List.map_append, List.map_append]; exact HRN.out), by (exact ⟨HM.out.1, fun v hv => (List.mem_append.1 hv).elim (HM.out.2 v) fun h => by rw [List.mem_singleton.1 h]; exact HVM.out⟩), (inferInstance : Ext _ _)⟩, by simp [intOf]; omega⟩
            · have HRN := HRS.out
              rw [jUpd_ok hbn' (othF_26n rfl HS.out (by rintro (h | h); exact hs0 h; exact hlt2 h))] at HRN
              have HRN := Lib.hid HRN
              clear hbn hbn' HRS hs0
              go_wp2_with
                (refine wpList_load_row rfl 39 (.tmp 3) rfl w.heap.size rfl 39 cf (0, 0) _ (at_ext HG.out) Try.underlying39 rfl HSZ.out ?_)
              refine (borne22_any cf df bs (some ad) n c k vs _ HDF.out HBS.out Hn.out hn' hnc HVK.out _ (by exact HX.out.ext) (by exact GX.out.ext)).mono ?_
              rintro e w1 ⟨rfl, hb1⟩
              rw [HBN.out]
              have S1 : Step w1 _ := ⟨hb1⟩
              have HP := Lib.hid (at_ext (w' := w1) (at_new wr (.cells #[.int .i64 26, .slice VA vn vc] 109)))
              have p0 : w1.cell? ⟨wr.heap.size, 0, none⟩ = some (.int .i64 26) := at_cell HP.out 0
              have p1 : w1.cell? ⟨wr.heap.size, 1, none⟩ = some (.slice VA vn vc) := at_cell HP.out 1
              clear hb1
              go_wp2_with fail
              refine (bits22_any 26 VA vn vc xs GV.out.1 GV.out.2.2.2.1 _ (by exact GV.out.2.2.2.2.ext)).mono ?_
              rintro e w2 ⟨rfl, hb2⟩
              rw [HS.out]
              have S2 : Step w2 _ := ⟨hb2⟩
              have q0 : w2.cell? ⟨wr.heap.size, 0, none⟩ = some (.int .i64 26) := cell_ext p0
              have q1 : w2.cell? ⟨wr.heap.size, 1, none⟩ = some (.slice VA vn vc) := cell_ext p1
              have q16 : w2.cell? ⟨w.heap.size, 16, none⟩ = some (.int .i64 df) := (at_cell (at_ext HG.out) 16).trans HDF.out
              have q17 : w2.cell? ⟨w.heap.size, 17, none⟩ = some (.int .i64 bs) := (at_cell (at_ext HG.out) 17).trans HBS.out
              clear hb2 p0 p1
              go_wp2
              refine ⟨⟨k + 1, bvs, us, zs, by go_num, by omega, by omega, by omega, by omega, HS3.out.ext, by (exact HRN.out), by (exact HM.out), (inferInstance : Ext _ _)⟩, by simp [intOf]; omega⟩
        · have ht : t = 21 := ht
          subst ht
          by_cases hs0 : S = 0
          · have HRN := HRS.out
            rw [jUpd_oth hbn' (othF_21 rfl HS.out (.inl hs0))] at HRN
            have HRN := Lib.hid HRN
            have hs0' : (S == 0) = true := by simpa using hs0
            clear hbn hbn' HRS hs0
            go_wp2_with
              (refine wpList_load_row rfl 39 (.tmp 3) rfl w.heap.size rfl 39 cf (0, 0) _ (at_ext HG.out) Try.underlying39 rfl HSZ.out ?_)
            refine (borne22_any cf df bs (some ad) n c k vs _ HDF.out HBS.out Hn.out hn' hnc HVK.out _ (by exact HX.out.ext) (by exact GX.out.ext)).mono ?_
            rintro e w1 ⟨rfl, hb1⟩
            rw [HBN.out]
            have S1 : Step w1 _ := ⟨hb1⟩
            have HP := Lib.hid (at_ext (w' := w1) (at_new wr (.cells #[.int .i64 21, .slice VA vn vc] 109)))
            have p0 : w1.cell? ⟨wr.heap.size, 0, none⟩ = some (.int .i64 21) := at_cell HP.out 0
            have p1 : w1.cell? ⟨wr.heap.size, 1, none⟩ = some (.slice VA vn vc) := at_cell HP.out 1
            clear hb1
            go_wp2_with fail
            refine (bits22_any 21 VA vn vc xs GV.out.1 GV.out.2.2.2.1 _ (by exact GV.out.2.2.2.2.ext)).mono ?_
            rintro e w2 ⟨rfl, hb2⟩
            rw [HS.out]
            have S2 : Step w2 _ := ⟨hb2⟩
            have q0 : w2.cell? ⟨wr.heap.size, 0, none⟩ = some (.int .i64 21) := cell_ext p0
            have q1 : w2.cell? ⟨wr.heap.size, 1, none⟩ = some (.slice VA vn vc) := cell_ext p1
            have q16 : w2.cell? ⟨w.heap.size, 16, none⟩ = some (.int .i64 df) := (at_cell (at_ext HG.out) 16).trans HDF.out
            have q17 : w2.cell? ⟨w.heap.size, 17, none⟩ = some (.int .i64 bs) := (at_cell (at_ext HG.out) 17).trans HBS.out
            clear hb2 p0 p1
            go_wp2_with fail
            refine (compress22_any bs _).mono ?_
            rintro e w3 ⟨A3, c3, rfl, ho3, hb3⟩
            have S3 : Step w3 _ := ⟨hb3⟩
            have HD3 := Lib.hid ho3
            have r0 : w3.cell? ⟨wr.heap.size, 0, none⟩ = some (.int .i64 21) := cell_ext q0
            have r1 : w3.cell? ⟨wr.heap.size, 1, none⟩ = some (.slice VA vn vc) := cell_ext q1
            clear ho3 hb3 q0 q1
            go_wp2_with
              (first
               | (at_builtin
                  refine wp_append_box (w0 := w.alloc (.cells cf 39)) (w.alloc (.cells cf 39)).heap.size rfl (.tmp 66) (.tmp 70) 35 109 (.agg #[.int .i64 0, .slice none 0 0]) 2 32 1 rfl Try.underlying35 info_opt rfl (by decide) (by decide) (.slice Lo us.length co) us.length (flat us) [.int .i64 21, .slice A3 1 c3] rfl rfl rfl (flat_one [⟨21, A3, 1, c3, []⟩]) (own_ext HS3.out.1.2.1.1) Ext.out Ext.out.size (by omega) ?_
                  intro v4 w4 ho4 hb4 hg4 hat4
                  have HS4 := Lib.hid (Sep3.other (u := ⟨21, A3, 1, c3, [cmpB bs]⟩) (HS3.out.ext (w' := w2)) (size_ext) (inferInstance : Ext w2 w3) (own_weaken HD3.out (size_ext (w := w2))) ⟨rfl, by simp, cmpB_byt bs⟩ ho4 hg4 hat4)
                  have X4 : Ext (w.alloc (.cells cf 39)) w4 := ⟨hb4⟩
                  have s0 : w4.cell? ⟨wr.heap.size, 0, none⟩ = some (.int .i64 21) := hg4.cell r0 (fun he => absurd (own_lt HS3.out.1.2.1.1 _ he.symm) (Nat.lt_irrefl _))
                  have s1 : w4.cell? ⟨wr.heap.size, 1, none⟩ = some (.slice VA vn vc) := hg4.cell r1 (fun he => absurd (own_lt HS3.out.1.2.1.1 _ he.symm) (Nat.lt_irrefl _))
                  clear ho4 hb4 hg4 hat4)
               | (at_builtin
                  refine wp_append_box (w0 := w.alloc (.cells cf 39)) (w.alloc (.cells cf 39)).heap.size rfl (.tmp 72) (.tmp 74) 35 109 (.agg #[.int .i64 0, .slice none 0 0]) 2 32 1 rfl Try.underlying35 info_opt rfl (by decide) (by decide) (.slice Lz zs.length cz) zs.length (flat zs) [.int .i64 21, .slice VA vn vc] rfl rfl rfl (flat_one [⟨21, VA, vn, vc, []⟩]) HS4.out.1.2.2 Ext.out Ext.out.size (by omega) ?_
                  intro v5 w5 ho5 hb5 hg5 hat5
                  have HS5 := Lib.hid (Sep3.good (v := ⟨21, VA, vn, vc, xs⟩) HS4.out (Ext.refl_ w4) ho5 hg5 hat5)
                  have X5 : Ext (w.alloc (.cells cf 39)) w5 := ⟨hb5⟩
                  clear ho5 hb5 hg5 hat5))
            refine ⟨⟨k + 1, bvs, (us ++ [(⟨21, A3, 1, c3, [cmpB bs]⟩ : OV)]), (zs ++ [(⟨21, VA, vn, vc, xs⟩ : OV)]), by go_num, by omega, by omega, by (simp; omega), by (simp; omega), HS5.out, by (rw [List.map_append, List.map_append]; exact HRN.out), by (exact ⟨HM.out.1, fun v hv => (List.mem_append.1 hv).elim (HM.out.2 v) fun h => by rw [List.mem_singleton.1 h]; exact HVM.out⟩), (inferInstance : Ext _ _)⟩, by simp [intOf]; omega⟩
          · have hs0' : (S == 0) = false := by simpa using hs0
            by_cases hlt2 : bs < S
            · have HRN := HRS.out
              rw [jUpd_oth hbn' (othF_21 rfl HS.out (.inr hlt2))] at HRN
              have HRN := Lib.hid HRN
              clear hbn hbn' HRS hs0
              go_wp2_with
                (refine wpList_load_row rfl 39 (.tmp 3) rfl w.heap.size rfl 39 cf (0, 0) _ (at_ext HG.out) Try.underlying39 rfl HSZ.out ?_)
              refine (borne22_any cf df bs (some ad) n c k vs _ HDF.out HBS.out Hn.out hn' hnc HVK.out _ (by exact HX.out.ext) (by exact GX.out.ext)).mono ?_
              rintro e w1 ⟨rfl, hb1⟩
              rw [HBN.out]
              have S1 : Step w1 _ := ⟨hb1⟩
              have HP := Lib.hid (at_ext (w' := w1) (at_new wr (.cells #[.int .i64 21, .slice VA vn vc] 109)))
              have p0 : w1.cell? ⟨wr.heap.size, 0, none⟩ = some (.int .i64 21) := at_cell HP.out 0
              have p1 : w1.cell? ⟨wr.heap.size, 1, none⟩ = some (.slice VA vn vc) := at_cell HP.out 1
              clear hb1
              go_wp2_with fail
              refine (bits22_any 21 VA vn vc xs GV.out.1 GV.out.2.2.2.1 _ (by exact GV.out.2.2.2.2.ext)).mono ?_
              rintro e w2 ⟨rfl, hb2⟩
              rw [HS.out]
              have S2 : Step w2 _ := ⟨hb2⟩
              have q0 : w2.cell? ⟨wr.heap.size, 0, none⟩ = some (.int .i64 21) := cell_ext p0
              have q1 : w2.cell? ⟨wr.heap.size, 1, none⟩ = some (.slice VA vn vc) := cell_ext p1
              have q16 : w2.cell? ⟨w.heap.size, 16, none⟩ = some (.int .i64 df) := (at_cell (at_ext HG.out) 16).trans HDF.out
              have q17 : w2.cell? ⟨w.heap.size, 17, none⟩ = some (.int .i64 bs) := (at_cell (at_ext HG.out) 17).trans HBS.out
              clear hb2 p0 p1
              go_wp2_with fail
              refine (compress22_any bs _).mono ?_
              rintro e w3 ⟨A3, c3, rfl, ho3, hb3⟩
              have S3 : Step w3 _ := ⟨hb3⟩
              have HD3 := Lib.hid ho3
              have r0 : w3.cell? ⟨wr.heap.size, 0, none⟩ = some (.int .i64 21) := cell_ext q0
              have r1 : w3.cell? ⟨wr.heap.size, 1, none⟩ = some (.slice VA vn vc) := cell_ext q1
              clear ho3 hb3 q0 q1
              go_wp2_with
                (first
                 | (at_builtin
                    refine wp_append_box (w0 := w.alloc (.cells cf 39)) (w.alloc (.cells cf 39)).heap.size rfl (.tmp 66) (.tmp 70) 35 109 (.agg #[.int .i64 0, .slice none 0 0]) 2 32 1 rfl Try.underlying35 info_opt rfl (by decide) (by decide) (.slice Lo us.length co) us.length (flat us) [.int .i64 21, .slice A3 1 c3] rfl rfl rfl (flat_one [⟨21, A3, 1, c3, []⟩]) (own_ext HS3.out.1.2.1.1) Ext.out Ext.out.size (by omega) ?_
                    intro v4 w4 ho4 hb4 hg4 hat4
                    have HS4 := Lib.hid (Sep3.other (u := ⟨21, A3, 1, c3, [cmpB bs]⟩) (HS3.out.ext (w' := w2)) (size_ext) (inferInstance : Ext w2 w3) (own_weaken HD3.out (size_ext (w := w2))) ⟨rfl, by simp, cmpB_byt bs⟩ ho4 hg4 hat4)
                    have X4 : Ext (w.alloc (.cells cf 39)) w4 := ⟨hb4⟩
                    have s0 : w4.cell? ⟨wr.heap.size, 0, none⟩ = some (.int .i64 21) := hg4.cell r0 (fun he => absurd (own_lt HS3.out.1.2.1.1 _ he.symm) (Nat.lt_irrefl _))
                    have s1 : w4.cell? ⟨wr.heap.size, 1, none⟩ = some (.slice VA vn vc) := hg4.cell r1 (fun he => absurd (own_lt HS3.out.1.2.1.1 _ he.symm) (Nat.lt_irrefl _))
                    clear ho4 hb4 hg4 hat4)
                 | (at_builtin
                    refine wp_append_box (w0 := w.alloc (.cells cf 39)) (w.alloc (.cells cf 39)).heap.size rfl (.tmp 72) (.tmp 74) 35 109 (.agg #[.int .i64 0, .slice none 0 0]) 2 32 1 rfl Try.underlying35 info_opt rfl (by decide) (by decide) (.slice Lz zs.length cz) zs.length (flat zs) [.int .i64 21, .slice VA vn vc] rfl rfl rfl (flat_one [⟨21, VA, vn, vc, []⟩]) HS4.out.1.2.2 Ext.out Ext.out.size (by omega) ?_
                    intro v5 w5 ho5 hb5 hg5 hat5
                    have HS5 := Lib.hid (Sep3.good (v := ⟨21, VA, vn, vc, xs⟩) HS4.out (Ext.refl_ w4) ho5 hg5 hat5)
                    have X5 : Ext (w.alloc (.cells cf 39)) w5 := ⟨hb5⟩
                    clear ho5 hb5 hg5 hat5))
              refine ⟨⟨k + 1, bvs, (us ++ [(⟨21, A3, 1, c3, [cmpB bs]⟩ : OV)]), (zs ++ [(⟨21, VA, vn, vc, xs⟩ : OV)]), by go_num, by omega, by omega, by (simp; omega), by (simp; omega), HS5.out, by (rw [List.map_append, List.map_append]; exact HRN.out), by (exact ⟨HM.out.1, fun v hv => (List.mem_append.1 hv).elim (HM.out.2 v) fun h => by rw [List.mem_singleton.1 h]; exact HVM.out⟩), (inferInstance : Ext _ _)⟩, by simp [intOf]; omega⟩
            · have HRN := HRS.out
              rw [jUpd_ok hbn' (othF_21n rfl HS.out (by rintro (h | h); exact hs0 h; exact hlt2 h))] at HRN
              have HRN := Lib.hid HRN
              clear hbn hbn' HRS hs0
              go_wp2_with
                (refine wpList_load_row rfl 39 (.tmp 3) rfl w.heap.size rfl 39 cf (0, 0) _ (at_ext HG.out) Try.underlying39 rfl HSZ.out ?_)
              refine (borne22_any cf df bs (some ad) n c k vs _ HDF.out HBS.out Hn.out hn' hnc HVK.out _ (by exact HX.out.ext) (by exact GX.out.ext)).mono ?_
              rintro e w1 ⟨rfl, hb1⟩
              rw [HBN.out]
              have S1 : Step w1 _ := ⟨hb1⟩
              have HP := Lib.hid (at_ext (w' := w1) (at_new wr (.cells #[.int .i64 21, .slice VA vn vc] 109)))
              have p0 : w1.cell? ⟨wr.heap.size, 0, none⟩ = some (.int .i64 21) := at_cell HP.out 0
              have p1 : w1.cell? ⟨wr.heap.size, 1, none⟩ = some (.slice VA vn vc) := at_cell HP.out 1
              clear hb1
              go_wp2_with fail
              refine (bits22_any 21 VA vn vc xs GV.out.1 GV.out.2.2.2.1 _ (by exact GV.out.2.2.2.2.ext)).mono ?_
              rintro e w2 ⟨rfl, hb2⟩
              rw [HS.out]
              have S2 : Step w2 _ := ⟨hb2⟩
              have q0 : w2.cell? ⟨wr.heap.size, 0, none⟩ = some (.int .i64 21) := cell_ext p0
              have q1 : w2.cell? ⟨wr.heap.size, 1, none⟩ = some (.slice VA vn vc) := cell_ext p1
              have q16 : w2.cell? ⟨w.heap.size, 16, none⟩ = some (.int .i64 df) := (at_cell (at_ext HG.out) 16).trans HDF.out
              have q17 : w2.cell? ⟨w.heap.size, 17, none⟩ = some (.int .i64 bs) := (at_cell (at_ext HG.out) 17).trans HBS.out
              clear hb2 p0 p1
              go_wp2
              refine ⟨⟨k + 1, bvs, us, zs, by go_num, by omega, by omega, by omega, by omega, HS3.out.ext, by (exact HRN.out), by (exact HM.out), (inferInstance : Ext _ _)⟩, by simp [intOf]; omega⟩
    · have hbl : bvs.length ≤ 4398046511104 := by omega
      have hzl : zs.length ≤ 4398046511104 := by omega
      have hRE := jRun_end HRK.out (by rw [List.length_map, Hn.out]; omega)
      have HJ1 := HJ.out
      rw [hRE] at HJ1
      simp only at HJ1
      have hq : wr.cell? ⟨w.heap.size, 21, none⟩ = some (.int .i64 maxf) := (at_cell (at_ext HG.out) 21).trans HMF.out
      have GB : Hid (Good wr bvs) := fun v hv => (GX.out v (HM.out.1 v hv)).ext
      have GZ : Hid (Good wr zs) := fun v hv => (GX.out v (HM.out.2 v hv)).ext
      by_cases hb0 : 0 < bvs.length
      · have hb0I : (0 : Int) < (bvs.length : Int) := by omega
        have HJ2 : Hid (J = (4, bvs.map OV.opt)) := by
          rw [if_pos (map_ne hb0)] at HJ1
          exact HJ1.symm
        clear HJ1 hRE
        go_wp2_with fail
        refine (own22_any Lb bvs.length cb bvs rfl hbl _ (by exact (own_cells HS3.out.1.1).ext) (by exact GB.out.ext)).mono ?_
        rintro e w6 ⟨v6, ys, rfl, ho6, hy6, hb6⟩
        have S6 : Step w6 _ := ⟨hb6⟩
        have HO6 := Lib.hid (OptsOwn.weaken (size_ext (w := w)) ho6)
        have HY6 := Lib.hid hy6
        clear ho6 hy6 hb6
        go_wp2
        try rw [Exit.noGoto_ret]
        go_ret2
        exact judgeTells22_of HJ2.out HO6.out HY6.out Ext.out
      · have hb0I : ¬ (0 : Int) < (bvs.length : Int) := by omega
        rw [if_neg (by intro h; apply h; rw [List.map_eq_nil_iff]; exact List.eq_nil_of_length_eq_zero (by omega))] at HJ1
        by_cases hu0 : 0 < us.length
        · have hu0I : (0 : Int) < (us.length : Int) := by omega
          rw [if_pos (map_ne hu0)] at HJ1
          by_cases hnm : naks < maxf
          · have HJ2 : Hid (J = (3, us.map OV.opt)) := by
              rw [if_pos hnm] at HJ1
              exact HJ1.symm
            clear HJ1 hRE
            go_wp2
            try rw [Exit.noGoto_ret]
            go_ret2
            exact judgeTells22_of HJ2.out (OptsOwn.weaken (size_ext (w := w)) HS3.out.1.2.1) rfl Ext.out
          · have HJ2 : Hid (J = (4, zs.map OV.opt)) := by
              rw [if_neg hnm] at HJ1
              exact HJ1.symm
            clear HJ1 hRE
            go_wp2_with fail
            refine (own22_any Lz zs.length cz zs rfl hzl _ (by exact (own_cells HS3.out.1.2.2).ext) (by exact GZ.out.ext)).mono ?_
            rintro e w6 ⟨v6, ys, rfl, ho6, hy6, hb6⟩
            have S6 : Step w6 _ := ⟨hb6⟩
            have HO6 := Lib.hid (OptsOwn.weaken (size_ext (w := w)) ho6)
            have HY6 := Lib.hid hy6
            clear ho6 hy6 hb6
            go_wp2
            try rw [Exit.noGoto_ret]
            go_ret2
            exact judgeTells22_of HJ2.out HO6.out HY6.out Ext.out
        · have hu0I : ¬ (0 : Int) < (us.length : Int) := by omega
          have HJ2 : Hid (J = (2, vs.map OV.opt)) := by
            rw [if_neg (by intro h; apply h; rw [List.map_eq_nil_iff]; exact List.eq_nil_of_length_eq_zero (by omega))] at HJ1
            exact HJ1.symm
          clear HJ1 hRE
          go_wp2_with fail
          refine (own22_any A n c vs Hn.out hn' _ (by exact HX.out.ext) (by exact GX.out.ext)).mono ?_
          rintro e w6 ⟨v6, ys, rfl, ho6, hy6, hb6⟩
          have S6 : Step w6 _ := ⟨hb6⟩
          have HO6 := Lib.hid (OptsOwn.weaken (size_ext (w := w)) ho6)
          have HY6 := Lib.hid hy6
          clear ho6 hy6 hb6
          go_wp2
          try rw [Exit.noGoto_ret]
          go_ret2
          exact judgeTells22_of HJ2.out HO6.out HY6.out Ext.out
end Go.Proofs.Ytnhmpmibkpoipaa
