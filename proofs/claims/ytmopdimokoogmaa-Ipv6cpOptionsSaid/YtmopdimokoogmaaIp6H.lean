/-
  What Find, Reject and Nak of ipv6cp and of its reference tell. Conditions: the list is no longer than the model's memory.
-/
import Derived.Test.YtmopdimokoogmaaIp6G
import Derived.Test.YtmopdimokoogmaaFind
namespace Go.Proofs.Ytmopdimokoogmaa
open Go.RowKit
set_option linter.unusedVariables false
set_option linter.unusedSimpArgs false

def rejF (id : Int) (os : List (Int × List Int)) : Int × Bool := if hasT os 1 then (0, false) else (id, true)
theorem rejF_yes {id : Int} {os : List (Int × List Int)} (h : hasT os 1 = true) : rejF id os = (0, false) := by unfold rejF; rw [h]; rfl
theorem rejF_no {id : Int} {os : List (Int × List Int)} (h : hasT os 1 = false) : rejF id os = (id, true) := by unfold rejF; rw [h]; rfl
def PairTells (r : Int × Bool) (w : World) (e : Ending) (w' : World) : Prop := e = .returned (.tuple #[.int .u64 r.1, .bool r.2]) ∧ Below w.heap.size w w'
theorem pairTells_of {r : Int × Bool} {w w' : World} {a : Int} {b : Bool} (h : r = (a, b)) (hb : Below w.heap.size w w') : PairTells r w (.returned (.tuple #[.int .u64 a, .bool b])) w' := ⟨by rw [h], hb⟩
set_option maxHeartbeats 1000000 in
theorem reject17_any (id : Int) (A : Option Addr) (n c : Nat) (vs : List OV) (hn : vs.length = n) (hn' : n ≤ 4398046511104) (w : World) (hx : Cells w A (flat vs)) (gx : Good w vs) :
    Calls Try.prog 36 #[.int .u64 id, .slice A n c] w (PairTells (rejF id (vs.map OV.opt)) w) := by
  have Hn := Lib.hid hn
  have HX := Lib.hid hx
  have GX := Lib.hid gx
  clear hn hx gx
  rcases hT : hasT (vs.map OV.opt) 1 with _ | _
  · have HT := Lib.hid hT
    have HR := Lib.hid (rejF_no (id := id) hT)
    clear hT
    go_enter Try.func36, Try.ntmps36
    go_wp2_with fail
    refine (find_any A n c vs 1 Hn.out hn' _ (by exact HX.out.ext) (by exact GX.out.ext)).mono ?_
    rintro e w1 ⟨t, A1, n1, c1, rfl, hb1⟩
    rw [HT.out]
    have S1 : Step w1 _ := ⟨hb1⟩
    clear hb1
    go_wp2
    go_ret2
    exact pairTells_of HR.out Ext.out
  · have HT := Lib.hid hT
    have HR := Lib.hid (rejF_yes (id := id) hT)
    clear hT
    go_enter Try.func36, Try.ntmps36
    go_wp2_with fail
    refine (find_any A n c vs 1 Hn.out hn' _ (by exact HX.out.ext) (by exact GX.out.ext)).mono ?_
    rintro e w1 ⟨t, A1, n1, c1, rfl, hb1⟩
    rw [HT.out]
    have S1 : Step w1 _ := ⟨hb1⟩
    clear hb1
    go_wp2
    go_ret2
    exact pairTells_of HR.out Ext.out
set_option maxHeartbeats 1000000 in
theorem rreject17_any (id : Int) (A : Option Addr) (n c : Nat) (vs : List OV) (hn : vs.length = n) (hn' : n ≤ 4398046511104) (w : World) (hx : Cells w A (flat vs)) (gx : Good w vs) :
    Calls Try.prog 37 #[.int .u64 id, .slice A n c] w (PairTells (rejF id (vs.map OV.opt)) w) := by
  have Hn := Lib.hid hn
  have HX := Lib.hid hx
  clear hn hx gx
  go_enter Try.func37, Try.ntmps37
  go_wp2
  go_loop [6] (fun i => ∃ k : Nat, i = .int .i64 k ∧ k ≤ n ∧ Hid (hasT ((vs.map OV.opt).take k) 1 = false)) (fun i => n - (intOf i).toNat)
  case atStart => exact ⟨0, rfl, by omega, rfl⟩
  case round =>
    obtain ⟨k, rfl, hk, HT⟩ := hrel
    by_cases hlt : k < n
    · obtain ⟨v, hv, hvm⟩ := optD (vs := vs) (k := k) (by rw [Hn.out]; exact hlt)
      obtain ⟨ad, rfl, hc0, hc1⟩ := opt_at HX.out hv
      have HV : Hid ((vs.map OV.opt)[k]? = some v.opt) := by unfold Hid; rw [List.getElem?_map, hv]; rfl
      clear hv hvm hc1
      obtain ⟨t, VA, vn, vc, xs⟩ := v
      simp only at hc0
      by_cases ht : t = 1
      · subst ht
        have HH := Lib.hid (rejF_yes (id := id) (hasT_at HV.out rfl))
        go_wp2
        go_ret2
        exact pairTells_of HH.out Ext.out
      · have ht' : (t == 1) = false := by simpa using ht
        have HN := Lib.hid (hasT_take HT.out HV.out ht)
        clear ht
        go_wp2
        go_round
        case rel => exact ⟨k + 1, by go_num, by omega, HN.out⟩
        case measure => simp [intOf]; omega
    · obtain rfl : n = k := by omega
      have HH : Hid (rejF id (vs.map OV.opt) = (id, true)) := by
        have h1 := HT.out
        rw [List.take_of_length_le (by rw [List.length_map, Hn.out]; omega)] at h1
        exact rejF_no h1
      go_wp2
      go_ret2
      exact pairTells_of HH.out Ext.out

def nakStep17 (id draw : Int) (to : Int) (o : Int × List Int) : Int := if idOk o then (if idN o = 0 ∨ idN o = id then givF draw id else idN o) else to
def nakF17 (id draw : Int) (os : List (Int × List Int)) : Int := os.foldl (nakStep17 id draw) id
theorem nakF17_snoc (id draw : Int) (os : List (Int × List Int)) (o : Int × List Int) : nakF17 id draw (os ++ [o]) = nakStep17 id draw (nakF17 id draw os) o := by simp [nakF17]
theorem nakF17_no (id draw : Int) {os : List (Int × List Int)} {k : Nat} {o : Int × List Int} (ho : os[k]? = some o) (h : idOk o = false) : nakF17 id draw (os.take (k + 1)) = nakF17 id draw (os.take k) := by
  rw [take_snoc ho, nakF17_snoc]
  simp [nakStep17, h]
theorem nakF17_giv (id draw : Int) {os : List (Int × List Int)} {k : Nat} {o : Int × List Int} (ho : os[k]? = some o) (h : idOk o = true) (h1 : idN o = 0 ∨ idN o = id) : nakF17 id draw (os.take (k + 1)) = givF draw id := by
  rw [take_snoc ho, nakF17_snoc]
  simp [nakStep17, h, h1]
theorem nakF17_yes (id draw : Int) {os : List (Int × List Int)} {k : Nat} {o : Int × List Int} (ho : os[k]? = some o) (h : idOk o = true) (h1 : ¬ (idN o = 0 ∨ idN o = id)) : nakF17 id draw (os.take (k + 1)) = idN o := by
  rw [take_snoc ho, nakF17_snoc]
  simp [nakStep17, h, h1]
def nakR (id to : Int) : Int × Bool := (to, to != id)
theorem nakR_of (id to N : Int) (h : to = N) : nakR id to = (N, N != id) := by rw [h]; rfl
end Go.Proofs.Ytmopdimokoogmaa
