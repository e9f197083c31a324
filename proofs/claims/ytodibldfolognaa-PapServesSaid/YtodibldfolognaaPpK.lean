/-
  secret.Table.Find, Check; pap.NewServer. Conditions: sizes.
-/
import Derived.Test.YtodibldfolognaaPpJ
namespace Go.Proofs.Ytodibldfolognaa
open Go.RowKit
set_option linter.unusedVariables false
set_option linter.unusedSimpArgs false

set_option maxRecDepth 100000 in
set_option maxHeartbeats 2000000 in
theorem tfind_any (T : Nat) (us : List SV) (cb sb : ByteArray) (w : World) (hl : us.length ≤ 64) (ht : TabAt w T us) :
    Calls Try.prog 125 #[.pointer (some ⟨T, 0, none⟩), .string cb, .string sb] w (FindTells (strB cb) (strB sb) us w) := by
  obtain ⟨v, hT, hs⟩ := ht
  obtain ⟨A, c, rfl, hc⟩ := own_slice hs.row
  have HS := Lib.hid hs.at
  have HT := Lib.hid hT
  have p0 : ∀ o, (w.alloc o).cell? ⟨T, 0, none⟩ = some (.slice A us.length c) := fun o => at_cell (at_ext hT) 0
  clear hs hT hc
  go_enter Try.func125, Try.ntmps125
  go_wp2_with fail
  refine (find_any A us.length c us cb sb rfl (by omega) _ (by exact HS.out.ext)).mono ?_
  rintro e w2 ⟨hb2, he⟩
  have S2 : Step w2 _ := ⟨hb2⟩
  have HP2 : Hid (w2.heap[w.heap.size]? = some (.cells zSec 79 (0, 0))) := at_ext (at_new w (.cells zSec 79))
  have HX2 : Hid (Ext w w2) := (inferInstance : Ext w w2)
  clear hb2
  rcases hq : findF (strB cb) (strB sb) us with _ | u
  · have HQ := Lib.hid hq
    rw [hq] at he
    simp only at he
    subst he
    clear hq
    go_wp2_with
      (refine wpList_store_row_o rfl 79 (.tmp 6) (.tmp 18) rfl w.heap.size zSec rfl rfl 79 zSec HP2.out (by kernel_rfl) rfl (by simp [Value.oneCell']) ?_
       intro w3 hr3 ho3 hz3 hb3)
    refine bodyPost_ret (results_cell_row2 Try.results125 _ _ w.heap.size 79 zSec (0, 0) _ (.bool false) rfl rfl hr3 Try.underlying79 rfl (by kernel_rfl)) rfl ?_
    refine ⟨hb3 _ _ HX2.out.out (Nat.le_refl _), ?_⟩
    rw [HQ.out]
  · have HQ := Lib.hid hq
    rw [hq] at he
    simp only at he
    obtain ⟨⟨uc, uss, ud, uA, un, uk, ux⟩, rfl, hd, hn, ho2⟩ := he
    simp only [SV.val]
    have HO2 := Lib.hid ho2
    have HD := Lib.hid hd
    have HN := Lib.hid hn
    clear hq hd hn ho2
    go_wp2_with
      (refine wpList_store_row_o rfl 79 (.tmp 6) (.tmp 18) rfl w.heap.size #[.string uc, .string uss, .string ud, .slice uA un uk] rfl rfl 79 zSec HP2.out (by kernel_rfl) rfl (by simp [Value.oneCell']) ?_
       intro w3 hr3 ho3 hz3 hb3)
    refine bodyPost_ret (results_cell_row2 Try.results125 _ _ w.heap.size 79 #[.string uc, .string uss, .string ud, .slice uA un uk] (0, 0) _ (.bool true) rfl rfl hr3 Try.underlying79 rfl (by kernel_rfl)) rfl ?_
    refine ⟨hb3 _ _ HX2.out.out (Nat.le_refl _), ?_⟩
    rw [HQ.out]
    exact ⟨⟨uc, uss, ud, uA, un, uk, ux⟩, rfl, HD.out, HN.out, own_weaken (own_heap HO2.out fun j hj => ho3 j (by simp at hj; omega)) (by simp)⟩
def checkF (c s d : List Int) (us : List SV) : Int := match findF c s us with
  | none => 5
  | some u => if strB u.d = [] ∨ strB u.d ≠ d then 120 else 0
set_option maxRecDepth 100000 in
set_option maxHeartbeats 2000000 in
theorem check_any (T : Nat) (us : List SV) (cb sb db : ByteArray) (w : World) (hl : us.length ≤ 64) (ht : TabAt w T us) :
    Calls Try.prog 103 #[.pointer (some ⟨T, 0, none⟩), .string cb, .string sb, .string db] w fun e w' => e = .returned (.int .i64 (checkF (strB cb) (strB sb) (strB db) us)) ∧ Below w.heap.size w w' := by
  have HT := Lib.hid ht
  clear ht
  rcases hq : findF (strB cb) (strB sb) us with _ | u
  · have HQ := Lib.hid hq
    have HF : Hid (checkF (strB cb) (strB sb) (strB db) us = 5) := by unfold Hid checkF; rw [hq]
    clear hq
    go_enter Try.func103, Try.ntmps103
    go_wp2_with fail
    refine (tfind_any T us cb sb _ hl (by exact HT.out)).mono ?_
    rintro e w2 ⟨hb2, he⟩
    have S2 : Step w2 w := ⟨hb2⟩
    have HX2 : Hid (Ext w w2) := (inferInstance : Ext w w2)
    rw [HQ.out] at he
    simp only at he
    clear hb2
    subst he
    have p2 : ∀ o, (w2.alloc o).heap[w2.heap.size]? = some o := at_new w2
    go_wp2_with
      (refine wpList_store_row_o rfl 79 (.tmp 9) (.tmp 18) rfl w2.heap.size zSec rfl rfl 79 zSec (p2 _) (by kernel_rfl) rfl (by simp [Value.oneCell']) ?_
       intro w3 hr3 ho3 hz3 hb3
       have HX3 : Hid (Ext w w3) := ⟨hb3 _ _ (inferInstance : Ext w (w2.alloc _)).out HX2.out.out.size⟩
       have p3 : w3.cell? ⟨w2.heap.size, 2, none⟩ = some (.string ⟨#[]⟩) := at_cell hr3 2)
    go_ret
    exact ⟨by rw [HF.out]; rfl, HX3.out.out⟩
  · have HQ := Lib.hid hq
    by_cases h1 : u.d.toList = []
    · have HF : Hid (checkF (strB cb) (strB sb) (strB db) us = 120) := by unfold Hid checkF; rw [hq]; exact if_pos (.inl (by unfold strB; rw [← Lib.toList_data, h1]; rfl))
      clear hq
      go_enter Try.func103, Try.ntmps103
      go_wp2_with fail
      refine (tfind_any T us cb sb _ hl (by exact HT.out)).mono ?_
      rintro e w2 ⟨hb2, he⟩
      have S2 : Step w2 w := ⟨hb2⟩
      have HX2 : Hid (Ext w w2) := (inferInstance : Ext w w2)
      rw [HQ.out] at he
      simp only at he
      clear hb2
      obtain ⟨⟨uc, uss, ud, uA, un, uk, ux⟩, rfl, hd, hn, ho2⟩ := he
      have hdd : ud = u.d := congrArg (fun x => x.2.1) hd
      rw [← hdd] at h1
      simp only [SV.val]
      clear hd hdd ho2
      have p2 : ∀ o, (w2.alloc o).heap[w2.heap.size]? = some o := at_new w2
      go_wp2_with
        (refine wpList_store_row_o rfl 79 (.tmp 9) (.tmp 18) rfl w2.heap.size #[.string uc, .string uss, .string ud, .slice uA un uk] rfl rfl 79 zSec (p2 _) (by kernel_rfl) rfl (by simp [Value.oneCell']) ?_
         intro w3 hr3 ho3 hz3 hb3
         have HX3 : Hid (Ext w w3) := ⟨hb3 _ _ (inferInstance : Ext w (w2.alloc _)).out HX2.out.out.size⟩
         have p3 : w3.cell? ⟨w2.heap.size, 2, none⟩ = some (.string ud) := at_cell hr3 2)
      go_ret
      exact ⟨by rw [HF.out]; rfl, HX3.out.out⟩
    have h1' : ¬ strB u.d = [] := fun h => h1 (by unfold strB at h; rw [Lib.toList_data]; exact List.map_eq_nil_iff.1 h)
    by_cases h2 : u.d.toList = db.toList
    · have HF : Hid (checkF (strB cb) (strB sb) (strB db) us = 0) := by unfold Hid checkF; rw [hq]; exact if_neg (by rintro (h | h); exact h1' h; exact h (strB_iff.2 h2))
      clear hq h1'
      go_enter Try.func103, Try.ntmps103
      go_wp2_with fail
      refine (tfind_any T us cb sb _ hl (by exact HT.out)).mono ?_
      rintro e w2 ⟨hb2, he⟩
      have S2 : Step w2 w := ⟨hb2⟩
      have HX2 : Hid (Ext w w2) := (inferInstance : Ext w w2)
      rw [HQ.out] at he
      simp only at he
      clear hb2
      obtain ⟨⟨uc, uss, ud, uA, un, uk, ux⟩, rfl, hd, hn, ho2⟩ := he
      have hdd : ud = u.d := congrArg (fun x => x.2.1) hd
      rw [← hdd] at h1 h2
      have b1 : (ud.toList == []) = false := by simpa using h1
      have b2 : (ud.toList == db.toList) = true := by simpa using h2
      rw [h2] at h1
      have b3 : (db.toList == []) = false := by simpa using h1
      simp only [SV.val]
      clear hd hdd ho2
      have p2 : ∀ o, (w2.alloc o).heap[w2.heap.size]? = some o := at_new w2
      go_wp2_with
        (refine wpList_store_row_o rfl 79 (.tmp 9) (.tmp 18) rfl w2.heap.size #[.string uc, .string uss, .string ud, .slice uA un uk] rfl rfl 79 zSec (p2 _) (by kernel_rfl) rfl (by simp [Value.oneCell']) ?_
         intro w3 hr3 ho3 hz3 hb3
         have HX3 : Hid (Ext w w3) := ⟨hb3 _ _ (inferInstance : Ext w (w2.alloc _)).out HX2.out.out.size⟩
         have p3 : w3.cell? ⟨w2.heap.size, 2, none⟩ = some (.string ud) := at_cell hr3 2)
      go_ret
      exact ⟨by rw [HF.out]; rfl, HX3.out.out⟩
    · have HF : Hid (checkF (strB cb) (strB sb) (strB db) us = 120) := by unfold Hid checkF; rw [hq]; exact if_pos (.inr (fun h => h2 (strB_iff.1 h)))
      clear hq h1'
      go_enter Try.func103, Try.ntmps103
      go_wp2_with fail
      refine (tfind_any T us cb sb _ hl (by exact HT.out)).mono ?_
      rintro e w2 ⟨hb2, he⟩
      have S2 : Step w2 w := ⟨hb2⟩
      have HX2 : Hid (Ext w w2) := (inferInstance : Ext w w2)
      rw [HQ.out] at he
      simp only at he
      clear hb2
      obtain ⟨⟨uc, uss, ud, uA, un, uk, ux⟩, rfl, hd, hn, ho2⟩ := he
      have hdd : ud = u.d := congrArg (fun x => x.2.1) hd
      rw [← hdd] at h1 h2
      have b1 : (ud.toList == []) = false := by simpa using h1
      have b2 : (ud.toList == db.toList) = false := by simpa using h2
      simp only [SV.val]
      clear hd hdd ho2
      have p2 : ∀ o, (w2.alloc o).heap[w2.heap.size]? = some o := at_new w2
      go_wp2_with
        (refine wpList_store_row_o rfl 79 (.tmp 9) (.tmp 18) rfl w2.heap.size #[.string uc, .string uss, .string ud, .slice uA un uk] rfl rfl 79 zSec (p2 _) (by kernel_rfl) rfl (by simp [Value.oneCell']) ?_
         intro w3 hr3 ho3 hz3 hb3
         have HX3 : Hid (Ext w w3) := ⟨hb3 _ _ (inferInstance : Ext w (w2.alloc _)).out HX2.out.out.size⟩
         have p3 : w3.cell? ⟨w2.heap.size, 2, none⟩ = some (.string ud) := at_cell hr3 2)
      go_ret
      exact ⟨by rw [HF.out]; rfl, HX3.out.out⟩
end Go.Proofs.Ytodibldfolognaa
