/-
  The reference's has and Without; opt.Kind and the reference's; a table of texts. Conditions: the lists are no longer than the model's memory; the table is as the program lays it.
-/
import Derived.Test.YthlfdckcnpnemaaDoorPkB
import Derived.Lib.LaidTab
namespace Go.Proofs.YthlfdckcnpnemaaDoor
open Go.RowKit
set_option linter.unusedVariables false
set_option linter.unusedSimpArgs false

set_option maxRecDepth 100000 in
set_option maxHeartbeats 1000000 in
theorem has_any (A : Option Addr) (n c : Nat) (ks : List Int) (t : Int) (hn : ks.length = n) (hn' : n ≤ 9223372036854775807) (w : World) (hx : Cells w A (nums .i64 ks)) :
    Calls Tryd.prog 36 #[.slice A n c, .int .i64 t] w fun e w' => e = .returned (.bool (hasK ks t)) ∧ w = w' := by
  have Hn := Lib.hid hn
  clear hn
  go_enter Tryd.func36, Tryd.ntmps36
  go_wp2
  go_loop [5] (fun i => ∃ k : Nat, i = .int .i64 k ∧ k ≤ n ∧ Hid (t ∉ ks.take k)) (fun i => n - (intOf i).toNat)
  case atStart => exact ⟨0, rfl, by omega, by simp [Hid]⟩
  case round =>
    obtain ⟨k, rfl, hk, hT⟩ := hrel
    by_cases hlt : k < n
    · obtain ⟨ad, rfl, hc⟩ := hx.num (by rw [Hn.out]; exact hlt)
      obtain ⟨X, hX⟩ : ∃ X, ks.getD k 0 = X := ⟨_, rfl⟩
      rw [hX] at hc
      have HX := Lib.hid hX
      clear hX
      by_cases he : X = t
      · subst he
        have h1 : X ∈ ks := by rw [← HX.out]; exact getD_mem (by rw [Hn.out]; exact hlt)
        have HH : Hid (hasK ks X = true) := decide_eq_true h1
        clear h1
        go_wp2
        go_ret
        exact ⟨ret_bool HH.out.symm, rfl⟩
      · have he' : (X == t) = false := by simpa using he
        have HM : Hid (t ∉ ks.take (k + 1)) := mem_take_succ (by rw [Hn.out]; exact hlt) hT.out (by rw [HX.out]; exact fun h => he h.symm)
        clear he
        go_wp2
        go_round
        case rel => exact ⟨k + 1, by go_num, by omega, HM⟩
        case measure => simp [intOf]; omega
    · have HH : Hid (hasK ks t = false) := by
        have h1 := hT.out
        rw [List.take_of_length_le (by rw [Hn.out]; omega)] at h1
        exact decide_eq_false h1
      go_wp2
      go_ret
      exact ⟨ret_bool HH.out.symm, rfl⟩
def RWithout (vs : List OV) (ks : List Int) (w : World) (e : Ending) (w' : World) : Prop :=
  ∃ A c us, e = .returned (.slice A us.length c) ∧ us.length ≤ vs.length ∧ Cells w' A (flat us) ∧ Good w' us ∧ us.map OV.opt = withoutF ks (vs.map OV.opt) ∧ Below w.heap.size w w'
set_option maxRecDepth 100000 in
set_option maxHeartbeats 2000000 in
theorem rwithout_any (A K : Option Addr) (n c m d : Nat) (vs : List OV) (ks : List Int) (hn : vs.length = n) (hm : ks.length = m) (hn' : n ≤ 4398046511104) (hm' : m ≤ 9223372036854775807)
    (w : World) (hx : Cells w A (flat vs)) (gx : Good w vs) (hk : Cells w K (nums .i64 ks)) :
    Calls Tryd.prog 19 #[.slice A n c, .slice K m d] w (RWithout vs ks w) := by
  have Hn := Lib.hid hn
  have Hm := Lib.hid hm
  have HX := Lib.hid hx
  have GX := Lib.hid gx
  have HK := Lib.hid hk
  clear hn hm hx gx hk
  go_enter Tryd.func19, Tryd.ntmps19
  go_wp2
  go_loopw [5, 6] (fun o i wr => ∃ (k : Nat) (us : List OV) (L : Option Addr) (cl : Nat), i = .int .i64 k ∧ k ≤ n ∧ o = .slice L us.length cl ∧ us.length ≤ k ∧ Hid (wr.ownsRow w.heap.size 34 2 (.slice L us.length cl) us.length (flat us)) ∧ Hid (us.map OV.opt = withoutF ks ((vs.map OV.opt).take k)) ∧ Hid (∀ u ∈ us, u ∈ vs) ∧ Hid (Ext w wr)) (fun _ i _ => n - (intOf i).toNat)
  case atStart => exact ⟨0, [], none, 0, rfl, by omega, rfl, by simp, own_nil _ _ _ _, rfl, (fun u hu => by cases hu), (inferInstance : Ext w w)⟩
  case round =>
    obtain ⟨k, us, L, cl, rfl, hk, rfl, hu, HO, HE, HM, HW⟩ := hrel
    have X0 : Ext w wr := HW.out
    by_cases hlt : k < n
    · obtain ⟨v, hv, hvm⟩ := optD (vs := vs) (k := k) (by rw [Hn.out]; exact hlt)
      obtain ⟨ad, rfl, hc0, hc1⟩ := opt_at (HX.out.ext (w' := wr)) hv
      have HT : Hid ((vs.map OV.opt).take (k + 1) = (vs.map OV.opt).take k ++ [v.opt]) := take_snoc (by rw [List.getElem?_map, hv]; rfl)
      have HVM := Lib.hid hvm
      have HLT := Lib.hid hlt
      clear hv hvm
      obtain ⟨t, VA, vn, vc, xs⟩ := v
      simp only at hc0 hc1
      go_wp2_with fail
      refine (has_any K m d ks t Hm.out hm' _ (by exact HK.out.ext)).mono ?_
      rintro e w' ⟨rfl, rfl⟩
      rcases hK : hasK ks t with _ | _
      · have HKK := Lib.hid hK
        clear hK
        go_wp2_with
          (at_builtin
           refine wp_append_box (w0 := w) w.heap.size rfl (.tmp 21) (.tmp 26) 30 34 (.agg #[.int .i64 0, .slice none 0 0]) 2 32 1 rfl Tryd.underlying30 info_opt rfl (by decide) (by decide) (.slice L us.length cl) us.length (flat us) [.int .i64 t, .slice VA vn vc] rfl rfl rfl (flat_one [⟨t, VA, vn, vc, []⟩]) HO.out X0.out X0.out.size (by omega) ?_
           intro v2 w2 ho2 hb2 hg2 hat2
           obtain ⟨A2, c2, rfl, hc2⟩ := own_slice ho2
           have HO2 := Lib.hid ho2
           have HB2 : Hid (Ext w w2) := ⟨hb2⟩
           clear ho2 hb2 hg2 hat2)
        go_roundw
        case rel =>
          have hl : us.length + 1 = (us ++ [(⟨t, VA, vn, vc, xs⟩ : OV)]).length := by simp
          refine ⟨k + 1, us ++ [⟨t, VA, vn, vc, xs⟩], A2, c2, by go_num, HLT.out, by rw [← hl], by rw [← hl]; omega, ?_, ?_, ?_, HB2.out⟩
          · rw [← hl]
            show World.ownsRow _ _ _ _ _ _ _
            have h2 := HO2.out
            rw [show flat (us ++ [(⟨t, VA, vn, vc, xs⟩ : OV)]) = flat us ++ [.int .i64 t, .slice VA vn vc] from by rw [flat_append]; rfl]
            exact h2
          · show _ = _
            rw [HT.out, withoutF_snoc_yes (by exact HKK.out), ← HE.out, List.map_append]
            rfl
          · intro u hu
            rcases List.mem_append.1 hu with h | h
            · exact HM.out u h
            · rw [List.mem_singleton.1 h]
              exact HVM.out
        case measure => have := HLT.out; simp [intOf]; omega
      · have HKK := Lib.hid hK
        clear hK
        go_wp2_with fail
        go_roundw
        case rel =>
          refine ⟨k + 1, us, L, cl, by go_num, HLT.out, rfl, by omega, HO.out, ?_, HM.out, HW.out⟩
          show _ = _
          rw [HT.out, withoutF_snoc_no (by exact HKK.out), ← HE.out]
        case measure => have := HLT.out; simp [intOf]; omega
    · obtain rfl : k = n := by omega
      have HE2 := HE.out
      rw [List.take_of_length_le (by rw [List.length_map, Hn.out]; exact Nat.le_refl _)] at HE2
      have HE2 := Lib.hid HE2
      go_wp2
      go_ret
      exact ⟨L, cl, us, rfl, by rw [Hn.out]; exact hu, own_cells HO.out, (fun u hu => (GX.out u (HM.out u hu)).ext), HE2.out, X0.out⟩
/-! Kind -/
def namesB : List ByteArray := [⟨#[]⟩, ⟨#[99, 111, 110, 102, 45, 114, 101, 113]⟩, ⟨#[99, 111, 110, 102, 45, 97, 99, 107]⟩, ⟨#[99, 111, 110, 102, 45, 110, 97, 107]⟩, ⟨#[99, 111, 110, 102, 45, 114, 101, 106]⟩, ⟨#[116, 101, 114, 109, 45, 114, 101, 113]⟩, ⟨#[116, 101, 114, 109, 45, 97, 99, 107]⟩, ⟨#[99, 111, 100, 101, 45, 114, 101, 106]⟩, ⟨#[112, 114, 111, 116, 45, 114, 101, 106]⟩, ⟨#[101, 99, 104, 111, 45, 114, 101, 113]⟩, ⟨#[101, 99, 104, 111, 45, 114, 101, 112]⟩, ⟨#[100, 105, 115, 99, 97, 114, 100]⟩, ⟨#[105, 100, 101, 110, 116]⟩, ⟨#[]⟩, ⟨#[114, 101, 115, 101, 116, 45, 114, 101, 113]⟩, ⟨#[114, 101, 115, 101, 116, 45, 97, 99, 107]⟩]
def kindB (code : Int) : ByteArray := if code < 0 ∨ 16 ≤ code then ⟨#[]⟩ else namesB.getD code.toNat ⟨#[]⟩
def NamesT (w : World) : Prop := ∀ n : Nat, n < 16 → w.cell? ⟨1, n, none⟩ = some (.string (namesB.getD n ⟨#[]⟩))
theorem ret_str {a b : ByteArray} (h : a = b) : Ending.returned (.string a) = .returned (.string b) := by rw [h]
set_option maxHeartbeats 1000000 in
theorem kind_any (code : Int) (w : World) (ht : NamesT w) : Calls Tryd.prog 26 #[.int .i64 code] w fun e w' => e = .returned (.string (kindB code)) ∧ w = w' := by
  by_cases h0 : code < 0
  · have HK : Hid (kindB code = ⟨#[]⟩) := if_pos (.inl h0)
    go_enter Tryd.func26, Tryd.ntmps26
    go_wp2
    go_ret
    exact ⟨ret_str HK.out.symm, rfl⟩
  by_cases h1 : 16 ≤ code
  · have HK : Hid (kindB code = ⟨#[]⟩) := if_pos (.inr h1)
    go_enter Tryd.func26, Tryd.ntmps26
    go_wp2
    go_ret
    exact ⟨ret_str HK.out.symm, rfl⟩
  have hc := ht code.toNat (by omega)
  have HK : Hid (kindB code = namesB.getD code.toNat ⟨#[]⟩) := if_neg (by omega)
  obtain ⟨s, hs⟩ : ∃ s, namesB.getD code.toNat ⟨#[]⟩ = s := ⟨_, rfl⟩
  rw [hs] at hc HK
  have h2 : code < 16 := by omega
  have h3 : 0 ≤ code := by omega
  clear hs ht h0
  go_enter Tryd.func26, Tryd.ntmps26
  go_wp2
  go_ret
  exact ⟨ret_str HK.out.symm, rfl⟩
set_option maxRecDepth 100000 in
set_option maxHeartbeats 2000000 in
theorem rkind_any (code : Int) (w : World) : Calls Tryd.prog 27 #[.int .i64 code] w fun e w' => e = .returned (.string (kindB code)) ∧ Below w.heap.size w w' := by
  by_cases h0 : code < 0
  · have HK : Hid (kindB code = ⟨#[]⟩) := if_pos (.inl h0)
    go_enter Tryd.func27, Tryd.ntmps27
    go_wp2
    go_ret
    exact ⟨ret_str HK.out.symm, Ext.out⟩
  by_cases h1 : 16 ≤ code
  · have HK : Hid (kindB code = ⟨#[]⟩) := if_pos (.inr h1)
    go_enter Tryd.func27, Tryd.ntmps27
    go_wp2
    go_ret
    exact ⟨ret_str HK.out.symm, Ext.out⟩
  have h2 : code < 16 := by omega
  have h3 : 0 ≤ code := by omega
  have hc : (w.alloc (.cells #[.string ⟨#[]⟩, .string ⟨#[99, 111, 110, 102, 45, 114, 101, 113]⟩, .string ⟨#[99, 111, 110, 102, 45, 97, 99, 107]⟩, .string ⟨#[99, 111, 110, 102, 45, 110, 97, 107]⟩, .string ⟨#[99, 111, 110, 102, 45, 114, 101, 106]⟩, .string ⟨#[116, 101, 114, 109, 45, 114, 101, 113]⟩, .string ⟨#[116, 101, 114, 109, 45, 97, 99, 107]⟩, .string ⟨#[99, 111, 100, 101, 45, 114, 101, 106]⟩, .string ⟨#[112, 114, 111, 116, 45, 114, 101, 106]⟩, .string ⟨#[101, 99, 104, 111, 45, 114, 101, 113]⟩, .string ⟨#[101, 99, 104, 111, 45, 114, 101, 112]⟩, .string ⟨#[100, 105, 115, 99, 97, 114, 100]⟩, .string ⟨#[105, 100, 101, 110, 116]⟩, .string ⟨#[]⟩, .string ⟨#[114, 101, 115, 101, 116, 45, 114, 101, 113]⟩, .string ⟨#[114, 101, 115, 101, 116, 45, 97, 99, 107]⟩] 9)).cell? ⟨w.heap.size, code.toNat, none⟩ = some (.string (namesB.getD code.toNat ⟨#[]⟩)) := by
    obtain ⟨n, rfl⟩ := Int.eq_ofNat_of_zero_le h3
    have hn : n < 16 := by omega
    have key : ∀ n : Fin 16, (#[.string ⟨#[]⟩, .string ⟨#[99, 111, 110, 102, 45, 114, 101, 113]⟩, .string ⟨#[99, 111, 110, 102, 45, 97, 99, 107]⟩, .string ⟨#[99, 111, 110, 102, 45, 110, 97, 107]⟩, .string ⟨#[99, 111, 110, 102, 45, 114, 101, 106]⟩, .string ⟨#[116, 101, 114, 109, 45, 114, 101, 113]⟩, .string ⟨#[116, 101, 114, 109, 45, 97, 99, 107]⟩, .string ⟨#[99, 111, 100, 101, 45, 114, 101, 106]⟩, .string ⟨#[112, 114, 111, 116, 45, 114, 101, 106]⟩, .string ⟨#[101, 99, 104, 111, 45, 114, 101, 113]⟩, .string ⟨#[101, 99, 104, 111, 45, 114, 101, 112]⟩, .string ⟨#[100, 105, 115, 99, 97, 114, 100]⟩, .string ⟨#[105, 100, 101, 110, 116]⟩, .string ⟨#[]⟩, .string ⟨#[114, 101, 115, 101, 116, 45, 114, 101, 113]⟩, .string ⟨#[114, 101, 115, 101, 116, 45, 97, 99, 107]⟩] : Array Value)[n.val]? = some (.string (namesB.getD n.val ⟨#[]⟩)) := fun n => by
      match n with
      | ⟨0, _⟩ => rfl
      | ⟨1, _⟩ => rfl
      | ⟨2, _⟩ => rfl
      | ⟨3, _⟩ => rfl
      | ⟨4, _⟩ => rfl
      | ⟨5, _⟩ => rfl
      | ⟨6, _⟩ => rfl
      | ⟨7, _⟩ => rfl
      | ⟨8, _⟩ => rfl
      | ⟨9, _⟩ => rfl
      | ⟨10, _⟩ => rfl
      | ⟨11, _⟩ => rfl
      | ⟨12, _⟩ => rfl
      | ⟨13, _⟩ => rfl
      | ⟨14, _⟩ => rfl
      | ⟨15, _⟩ => rfl
      | ⟨n + 16, h⟩ => exact absurd h (by omega)
    exact (at_cell (at_new w _) n).trans (key ⟨n, hn⟩)
  have HK : Hid (kindB code = namesB.getD code.toNat ⟨#[]⟩) := if_neg (by omega)
  obtain ⟨s, hs⟩ : ∃ s, namesB.getD code.toNat ⟨#[]⟩ = s := ⟨_, rfl⟩
  rw [hs] at hc HK
  clear hs h0
  go_enter Tryd.func27, Tryd.ntmps27
  go_wp2
  go_ret
  exact ⟨ret_str HK.out.symm, Ext.out⟩
/-- An array of texts that reads as the table holds the table's texts. -/
theorem cells_of_strs {H : Type} {enc : TypeId × Value → H} {P : Program} {w : World} {base : Nat} {sp : Nat → Bool} {held : Bool} {fuel : Nat} {t e : TypeId} {n : Nat} {cs : List Value} {zs : List (List UInt8)} {p : List MemPlace}
    (ht : P.underlying t = some (.array n e)) (he : P.underlying e = some .string) (hce : P.cellsOf e = 1) (hct : P.cellsOf t = n)
    (h : DataW.trod enc P w base sp held fuel t cs = some (.agg (zs.map fun z => .lit (.string z)), p)) : cs = zs.map fun z => Value.string ⟨z.toArray⟩ := by
  cases fuel with
  | zero => simp [DataW.trod] at h
  | succ fuel =>
    simp only [DataW.trod, ht, hce, hct, Nat.mul_one] at h
    split at h
    · rename_i hl
      obtain ⟨xs, hm, hx⟩ := Option.map_eq_some_iff.1 h
      have hxs : xs.map (·.1) = zs.map fun z => (DataW.lit (.string z) : DataW H) := by
        have := congrArg Prod.fst hx
        simpa using this
      have hxl : xs.length = n := by simpa using Lib.mapM_length hm
      have hzl : zs.length = n := by
        have := congrArg List.length hxs
        simp at this
        omega
      apply List.ext_getElem?
      intro i
      by_cases hi : i < n
      · obtain ⟨b, hb, hf⟩ := Lib.mapM_at hm i i (by simp [hi])
        obtain ⟨z, hc, rfl, _⟩ := DataW.trod_string he hf
        have h1 : cs[i]? = some (.string z) := by
          have := congrArg (·[0]?) hc
          simpa [List.getElem?_take, List.getElem?_drop] using this
        have h2 : (xs.map (·.1))[i]? = some (DataW.lit (.string z.data.toList) : DataW H) := by simp [hb]
        rw [hxs] at h2
        simp only [List.getElem?_map, Option.map_eq_some_iff, DataW.lit.injEq, Lit.string.injEq] at h2
        obtain ⟨z', hz', he2⟩ := h2
        subst he2
        simp [h1, hz']
      · rw [List.getElem?_eq_none (by omega), List.getElem?_eq_none (by simp; omega)]
    · cases h
def namesZ : List (List UInt8) := [[], [99, 111, 110, 102, 45, 114, 101, 113], [99, 111, 110, 102, 45, 97, 99, 107], [99, 111, 110, 102, 45, 110, 97, 107], [99, 111, 110, 102, 45, 114, 101, 106], [116, 101, 114, 109, 45, 114, 101, 113], [116, 101, 114, 109, 45, 97, 99, 107], [99, 111, 100, 101, 45, 114, 101, 106], [112, 114, 111, 116, 45, 114, 101, 106], [101, 99, 104, 111, 45, 114, 101, 113], [101, 99, 104, 111, 45, 114, 101, 112], [100, 105, 115, 99, 97, 114, 100], [105, 100, 101, 110, 116], [], [114, 101, 115, 101, 116, 45, 114, 101, 113], [114, 101, 115, 101, 116, 45, 97, 99, 107]]
theorem names_of {W : World} {laid : DataW Unit} (hlaid : laid = .agg (namesZ.map fun z => .lit (.string z))) (h : laidMetH Tryd.prog [("tether/opt.names", laid)] W) : NamesT W := by
  subst hlaid
  obtain ⟨ps, ⟨g', t', cs, fuel, p, q, hg', ht', hvar, hd, _, _⟩, _⟩ := h
  have hg : Tryd.prog.globalNamed "tether/opt.names" = some 1 := by kernel_rfl
  have hty : (Tryd.prog.globals[1]?).map (·.type) = some 64 := by kernel_rfl
  obtain rfl := Option.some.inj (hg.symm.trans hg')
  obtain rfl := Option.some.inj (hty.symm.trans ht')
  have hcs := cells_of_strs Tryd.underlying64 Tryd.underlying9 (by kernel_rfl) (by kernel_rfl) hd
  intro n hn
  have key : ∀ n : Fin 16, (namesZ.map fun z => Value.string ⟨z.toArray⟩)[n.val]? = some (.string (namesB.getD n.val ⟨#[]⟩)) := fun n => by
    match n with
    | ⟨0, _⟩ => rfl
    | ⟨1, _⟩ => rfl
    | ⟨2, _⟩ => rfl
    | ⟨3, _⟩ => rfl
    | ⟨4, _⟩ => rfl
    | ⟨5, _⟩ => rfl
    | ⟨6, _⟩ => rfl
    | ⟨7, _⟩ => rfl
    | ⟨8, _⟩ => rfl
    | ⟨9, _⟩ => rfl
    | ⟨10, _⟩ => rfl
    | ⟨11, _⟩ => rfl
    | ⟨12, _⟩ => rfl
    | ⟨13, _⟩ => rfl
    | ⟨14, _⟩ => rfl
    | ⟨15, _⟩ => rfl
    | ⟨n + 16, h⟩ => exact absurd h (by omega)
  rw [World.var?_cell hg hvar n]
  have h2 := key ⟨n, hn⟩
  rw [← hcs] at h2
  simpa using h2
end Go.Proofs.YthlfdckcnpnemaaDoor
