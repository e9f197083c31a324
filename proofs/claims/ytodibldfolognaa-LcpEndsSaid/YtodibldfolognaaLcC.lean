/-
  lcp.twice: is an option's type ahead of it? Conditions: the list is no longer than the model's memory.
-/
import Derived.Test.YtodibldfolognaaLcB
namespace Go.Proofs.Ytodibldfolognaa
open Go.RowKit
set_option linter.unusedVariables false
set_option linter.unusedSimpArgs false

theorem hasTy_take {os : List (Int × List Int)} {k : Nat} {o : Int × List Int} {t : Int} (ho : os[k]? = some o) (h : hasTy (os.take k) t = false) (ht : (o.1 == t) = false) : hasTy (os.take (k + 1)) t = false := by
  rw [List.take_add_one, ho, Option.toList_some, hasTy_snoc, h, ht]
  rfl
theorem hasTy_at {os : List (Int × List Int)} {k i : Nat} {o : Int × List Int} {t : Int} (ho : os[k]? = some o) (hk : k < i) (ht : (o.1 == t) = true) : hasTy (os.take i) t = true := by
  unfold hasTy
  rw [List.any_eq_true]
  refine ⟨o, List.mem_iff_getElem?.2 ⟨k, by rw [List.getElem?_take_of_lt hk]; exact ho⟩, ht⟩
set_option maxRecDepth 100000 in
set_option maxHeartbeats 2000000 in
theorem lindexf_any (B2 B3 : Nat) (ad : Addr) (n c i : Nat) (vs : List OV) (T : Int) (hn : vs.length = n) (hn' : n ≤ 4398046511104) (hi : i < n) (w : World) (hB2 : B2 < w.heap.size) (hB3 : B3 < w.heap.size)
    (h2 : w.cell? ⟨B2, 0, none⟩ = some (.slice (some ad) n c)) (h3 : w.cell? ⟨B3, 0, none⟩ = some (.int .i64 i)) (hx : Cells w (some ad) (flat vs)) (hT : (vs.map OV.opt)[i]?.map Prod.fst = some T) :
    Calls Try.prog 127 #[.slice (some ad) i c, .func (.func 116) #[] #[.pointer (some ⟨B2, 0, none⟩), .pointer (some ⟨B3, 0, none⟩)]] w
      fun e w' => (∃ x : Int, e = .returned (.int .i64 x) ∧ hasTy ((vs.map OV.opt).take i) T = decide (0 ≤ x)) ∧ Below w.heap.size w w' := by
  have Hn := Lib.hid hn
  have HX := Lib.hid hx
  have H2 := Lib.hid h2
  have H3 := Lib.hid h3
  have HI := Lib.hid hi
  have hcT : w.cell? (ad.add (i * 2)) = some (.int .i64 T) := by
    obtain ⟨v, hv⟩ : ∃ v, vs[i]? = some v := ⟨_, List.getElem?_eq_getElem (by rw [hn]; exact hi)⟩
    obtain ⟨ad', he, h0, _⟩ := opt_at hx hv
    injection he with he
    subst he
    rw [List.getElem?_map, hv] at hT
    simp [OV.opt] at hT
    rw [h0, hT]
  have HCT := Lib.hid hcT
  clear hn hx h2 h3 hT hcT hi
  go_enter Try.func127, Try.ntmps127
  go_wp2
  go_loopw [8] (fun j wr => ∃ k : Nat, j = .int .i64 k ∧ k ≤ i ∧ Hid (hasTy ((vs.map OV.opt).take k) T = false) ∧ Hid (Ext w wr)) (fun j _ => i - (intOf j).toNat)
  case atStart => exact ⟨0, rfl, by omega, (by unfold Hid; simp [hasTy]), (inferInstance : Ext w w)⟩
  case round =>
    obtain ⟨k, rfl, hk, HF, HE⟩ := hrel
    have XE : Ext w wr := HE.out
    by_cases hlt : k < i
    · obtain ⟨v, hv, hvm⟩ := optD (vs := vs) (k := k) (by rw [Hn.out]; have := HI.out; omega)
      obtain ⟨ad', he, hc0, hc1⟩ := opt_at (HX.out.ext (w' := wr)) hv
      injection he with he
      subst he
      have HLT := Lib.hid hlt
      have hb9 : k ≤ 4398046511104 := by have := HI.out; omega
      have HV : Hid ((vs.map OV.opt)[k]? = some v.opt) := by unfold Hid; rw [List.getElem?_map, hv]; rfl
      obtain ⟨t, VA, vn, vc, xs⟩ := v
      simp only at hc0 hc1
      clear hv hvm
      go_wp2_with fail
      refine (ltwice1_any t VA vn vc B2 B3 ad n c i T HI.out _ (cell_ext H2.out) (cell_ext H3.out) (cell_ext HCT.out)).mono ?_
      rintro e w1 ⟨rfl, hb1⟩
      have S1 : Step w1 _ := ⟨hb1⟩
      clear hb1
      rcases hq : (t == T) with _ | _
      · have HN := Lib.hid (hasTy_take HV.out HF.out hq)
        clear hq
        go_wp2
        go_roundw
        case rel => exact ⟨k + 1, by go_num, HLT.out, HN.out, (inferInstance : Ext w w1)⟩
        case measure => have := HLT.out; simp [intOf]; omega
      · have HN := Lib.hid (hasTy_at HV.out hlt hq)
        clear hq
        go_wp2
        go_ret
        exact ⟨⟨k, rfl, by rw [HN.out]; simp⟩, Ext.out⟩
    · obtain rfl : k = i := by omega
      go_wp2
      go_ret
      exact ⟨⟨-1, rfl, by rw [HF.out]; simp⟩, Ext.out⟩
set_option maxHeartbeats 1000000 in
theorem lcontf_any (B2 B3 : Nat) (ad : Addr) (n c i : Nat) (vs : List OV) (T : Int) (hn : vs.length = n) (hn' : n ≤ 4398046511104) (hi : i < n) (w : World) (hB2 : B2 < w.heap.size) (hB3 : B3 < w.heap.size)
    (h2 : w.cell? ⟨B2, 0, none⟩ = some (.slice (some ad) n c)) (h3 : w.cell? ⟨B3, 0, none⟩ = some (.int .i64 i)) (hx : Cells w (some ad) (flat vs)) (hT : (vs.map OV.opt)[i]?.map Prod.fst = some T) :
    Calls Try.prog 115 #[.slice (some ad) i c, .func (.func 116) #[] #[.pointer (some ⟨B2, 0, none⟩), .pointer (some ⟨B3, 0, none⟩)]] w
      fun e w' => e = .returned (.bool (hasTy ((vs.map OV.opt).take i) T)) ∧ Below w.heap.size w w' := by
  have HQ := Lib.hid (lindexf_any B2 B3 ad n c i vs T hn hn' hi w hB2 hB3 h2 h3 hx hT)
  clear hn hx h2 h3 hT hi
  go_enter Try.func115, Try.ntmps115
  go_wp2_with fail
  refine HQ.out.mono ?_
  rintro e w1 ⟨⟨x, rfl, hx⟩, hb1⟩
  have HXX := Lib.hid hx
  have HB1 := Lib.hid hb1
  clear hx hb1
  go_wp2
  go_ret
  exact ⟨by rw [HXX.out]; rfl, HB1.out⟩
set_option maxHeartbeats 1000000 in
theorem ltwice_any (ad : Addr) (n c i : Nat) (vs : List OV) (T : Int) (hn : vs.length = n) (hn' : n ≤ 4398046511104) (hnc : n ≤ c) (hi : i < n) (w : World) (hx : Cells w (some ad) (flat vs)) (hT : (vs.map OV.opt)[i]?.map Prod.fst = some T) :
    Calls Try.prog 80 #[.slice (some ad) n c, .int .i64 i] w fun e w' => e = .returned (.bool (hasTy ((vs.map OV.opt).take i) T)) ∧ Below w.heap.size w w' := by
  have Hn := Lib.hid hn
  have HX := Lib.hid hx
  have HT := Lib.hid hT
  have HI := Lib.hid hi
  have hi0 : (0 : Int) ≤ (i : Int) := by omega
  have hic : (i : Int) ≤ (c : Int) := by omega
  have h2 : Hid (((w.alloc (.cells #[.slice (some ad) n c] 29)).alloc (.cells #[.int .i64 i] 3)).heap[w.heap.size]? = some (.cells #[.slice (some ad) n c] 29 (0, 0))) := at_ext (at_new w _)
  have h3 : Hid (((w.alloc (.cells #[.slice (some ad) n c] 29)).alloc (.cells #[.int .i64 i] 3)).heap[w.heap.size + 1]? = some (.cells #[.int .i64 i] 3 (0, 0))) := at_new1 (by simp)
  clear hn hx hT hi
  go_enter Try.func80, Try.ntmps80
  go_wp2_with fail
  refine (lcontf_any w.heap.size (w.heap.size + 1) ad n c i vs T Hn.out hn' HI.out _ (at_lt h2.out) (at_lt h3.out) (at_cell h2.out 0) (at_cell h3.out 0) (HX.out.ext) HT.out).mono ?_
  rintro e w1 ⟨rfl, hb1⟩
  have S1 : Step w1 _ := ⟨hb1⟩
  clear hb1
  go_wp2
  go_ret
  exact ⟨rfl, Ext.out⟩
end Go.Proofs.Ytodibldfolognaa
