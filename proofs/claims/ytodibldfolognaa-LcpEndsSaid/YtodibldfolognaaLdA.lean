/-
  lcp.Want; lcp.Reject at lists without methods. Conditions: the list is no longer than the model's memory.
-/
import Derived.Test.YtodibldfolognaaLcX
import Derived.Test.YtodibldfolognaaLcP
import Derived.Test.YtodibldfolognaaLcH
import Derived.Deep.RegionHeld3
namespace Go.Proofs.Ytodibldfolognaa
open Go.RowKit
set_option linter.unusedVariables false
set_option linter.unusedSimpArgs false

set_option maxRecDepth 100000 in
set_option maxHeartbeats 4000000 in
theorem lwant_any (cf : Array Value) (pf af mg : Bool) (req mru accm magic : Int) (hsz : (Try.prog.info? 25).map (·.size) = some cf.size) (h2 : cf[2]? = some (.int .i64 req)) (h4 : cf[4]? = some (.int .i64 mru)) (h5 : cf[5]? = some (.int .i64 accm)) (h6 : cf[6]? = some (.bool pf)) (h7 : cf[7]? = some (.bool af)) (h8 : cf[8]? = some (.bool mg)) (w : World) :
    Calls Try.prog 42 #[.agg cf, .int .u32 magic] w fun e w' => e = .returned (.agg #[.int .i64 mru, .int .i64 accm, .int .i64 req, .int .u32 (if mg then magic else 0), .bool pf, .bool af]) ∧ Below w.heap.size w w' := by
  have HSZ := Lib.hid hsz
  have H2 := Lib.hid h2
  have H4 := Lib.hid h4
  have H5 := Lib.hid h5
  have H6 := Lib.hid h6
  have H7 := Lib.hid h7
  have H8 := Lib.hid h8
  clear hsz h2 h4 h5 h6 h7 h8
  go_enter Try.func42, Try.ntmps42
  go_upto_region 1 with fail
  obtain ⟨wq, hwq⟩ : ∃ wq, (w.alloc (.cells cf 25)).alloc zOL = wq := ⟨_, rfl⟩
  have HC : Hid (wq.heap[w.heap.size]? = some (.cells cf 25 (0, 0))) := by unfold Hid; rw [← hwq]; exact at_ext (at_new w _)
  have HZ : Hid (wq.heap[w.heap.size + 1]? = some zOL) := by unfold Hid; rw [← hwq]; exact at_new1 (by simp)
  have HX : Hid (Ext w wq) := by unfold Hid; rw [← hwq]; exact inferInstance
  rw [hwq]
  clear hwq
  have q2 : wq.cell? ⟨w.heap.size, 2, none⟩ = some (.int .i64 req) := (at_cell HC.out 2).trans H2.out
  have q4 : wq.cell? ⟨w.heap.size, 4, none⟩ = some (.int .i64 mru) := (at_cell HC.out 4).trans H4.out
  have q5 : wq.cell? ⟨w.heap.size, 5, none⟩ = some (.int .i64 accm) := (at_cell HC.out 5).trans H5.out
  have q6 : wq.cell? ⟨w.heap.size, 6, none⟩ = some (.bool pf) := (at_cell HC.out 6).trans H6.out
  have q7 : wq.cell? ⟨w.heap.size, 7, none⟩ = some (.bool af) := (at_cell HC.out 7).trans H7.out
  have q8 : ∀ o, (wq.alloc o).cell? ⟨w.heap.size, 8, none⟩ = some (.bool mg) := fun o => (at_cell (at_ext (w' := wq.alloc o) HC.out) 8).trans H8.out
  have Sq : Step wq w := ⟨HX.out.out⟩
  rcases mg with _ | _
  · skip
    go_wp2_with
      (refine wpList_store_row rfl 33 (.tmp 4) (.tmp 21) rfl (w.heap.size + 1) #[.int .i64 mru, .int .i64 accm, .int .i64 req, .int .u32 0, .bool pf, .bool af] rfl rfl 33 #[.int .i64 0, .int .i64 0, .int .i64 0, .int .u32 0, .bool false, .bool false] (at_ext HZ.out) (by kernel_rfl) rfl (by simp [Value.oneCell']) ?_)
    refine bodyPost_ret (results_cell_row Try.results42 _ _ (w.heap.size + 1) 33 #[.int .i64 mru, .int .i64 accm, .int .i64 req, .int .u32 0, .bool pf, .bool af] (0, 0) _ rfl (setRow_heap _ _ _ _ _ _ (at_ext HZ.out)) Try.underlying33 rfl (by kernel_rfl)) rfl ⟨rfl, (Ext.setRow_ (inferInstance : Ext w _) (Nat.le_succ _) _).out⟩
  · skip
    go_wp2_with
      (refine wpList_store_row rfl 33 (.tmp 4) (.tmp 21) rfl (w.heap.size + 1) #[.int .i64 mru, .int .i64 accm, .int .i64 req, .int .u32 magic, .bool pf, .bool af] rfl rfl 33 #[.int .i64 0, .int .i64 0, .int .i64 0, .int .u32 0, .bool false, .bool false] (at_ext HZ.out) (by kernel_rfl) rfl (by simp [Value.oneCell']) ?_)
    refine bodyPost_ret (results_cell_row Try.results42 _ _ (w.heap.size + 1) 33 #[.int .i64 mru, .int .i64 accm, .int .i64 req, .int .u32 magic, .bool pf, .bool af] (0, 0) _ rfl (setRow_heap _ _ _ _ _ _ (at_ext HZ.out)) Try.underlying33 rfl (by kernel_rfl)) rfl ⟨rfl, (Ext.setRow_ (inferInstance : Ext w _) (Nat.le_succ _) _).out⟩
def LReadTells2 (r : OS) (e : Ending) : Prop := e = .returned (.tuple #[.agg #[.int .i64 r.mru, .int .i64 r.accm, .int .i64 r.auth, .int .u32 r.magic, .bool r.pfc, .bool r.acfc], .bool true])
def rejU (o : OS) (t : Int) : OS := if t = 5 then { o with magic := 0 } else if t = 7 then { o with pfc := false } else { o with acfc := false }
set_option maxRecDepth 100000 in
set_option maxHeartbeats 8000000 in
theorem lreject_any (cf : Array Value) (o : OS) (A : Option Addr) (n c : Nat) (vs : List OV) (hsz : (Try.prog.info? 25).map (·.size) = some cf.size) (hn : vs.length = n) (hn' : n ≤ 4398046511104) (hT : ∀ v ∈ vs, v.t = 5 ∨ v.t = 7 ∨ v.t = 8) (w : World) (hx : Cells w A (flat vs)) :
    Calls Try.prog 44 #[.agg cf, .agg #[.int .i64 o.mru, .int .i64 o.accm, .int .i64 o.auth, .int .u32 o.magic, .bool o.pfc, .bool o.acfc], .slice A n c] w fun e w' => LReadTells2 (vs.foldl (fun o v => rejU o v.t) o) e ∧ Below w.heap.size w w' := by
  have Hn := Lib.hid hn
  have HX := Lib.hid hx
  have HT := Lib.hid hT
  clear hn hx hT hsz
  obtain ⟨r, hr⟩ : ∃ r, vs.foldl (fun o v => rejU o v.t) o = r := ⟨_, rfl⟩
  have HR := Lib.hid hr
  rw [hr]
  clear hr
  obtain ⟨o0, o1, o2, o3, o4, o5⟩ := o
  simp only
  go_enter Try.func44, Try.ntmps44
  go_upto_region 1 with fail
  obtain ⟨wq, hwq⟩ : ∃ wq, ((w.alloc (.cells cf 25)).alloc (.cells #[.int .i64 o0, .int .i64 o1, .int .i64 o2, .int .u32 o3, .bool o4, .bool o5] 33)).alloc zOL = wq := ⟨_, rfl⟩
  have HB : Hid (wq.heap[w.heap.size + 1]? = some (oL ⟨o0, o1, o2, o3, o4, o5⟩)) := by unfold Hid; rw [← hwq]; exact at_ext (w := (w.alloc (.cells cf 25)).alloc (.cells #[.int .i64 o0, .int .i64 o1, .int .i64 o2, .int .u32 o3, .bool o4, .bool o5] 33)) (at_new1 (by simp))
  have HZq : Hid (wq.heap[w.heap.size + 1 + 1]? = some zOL) := by unfold Hid; rw [← hwq]; exact at_new1 (by simp)
  have HXq : Hid (Ext w wq) := by unfold Hid; rw [← hwq]; exact inferInstance
  rw [hwq]
  clear hwq
  have k0 : Hid (wq.cell? ⟨w.heap.size + 1, 0, none⟩ = some (.int .i64 o0)) := at_cell HB.out 0
  have k1 : Hid (wq.cell? ⟨w.heap.size + 1, 1, none⟩ = some (.int .i64 o1)) := at_cell HB.out 1
  have k2 : Hid (wq.cell? ⟨w.heap.size + 1, 2, none⟩ = some (.int .i64 o2)) := at_cell HB.out 2
  have k3 : Hid (wq.cell? ⟨w.heap.size + 1, 3, none⟩ = some (.int .u32 o3)) := at_cell HB.out 3
  have k4 : Hid (wq.cell? ⟨w.heap.size + 1, 4, none⟩ = some (.bool o4)) := at_cell HB.out 4
  have k5 : Hid (wq.cell? ⟨w.heap.size + 1, 5, none⟩ = some (.bool o5)) := at_cell HB.out 5
  go_cut [8, 9] (fun s8 s9 wx => ∃ g8 g9, s8 = .pointer (some ⟨g8, 0, none⟩) ∧ s9 = .pointer (some ⟨g9, 0, none⟩) ∧ Hid (Ext wq wx))
  case first =>
    refine wp_region_held_drew (S := fun W => Ext wq W) (by kernel_rfl) (by exact inferInstance) (fun hHeld => ?_)
    refine wpAnyH_take (i := 1) (v := .agg #[.int .i64 o0, .int .i64 o1, .int .i64 o2, .int .u32 o3, .bool o4, .bool o5]) rfl (by kernel_rfl) (by kernel_rfl) (by kernel_rfl) (fun _ _ _ h => h) (yields_row_S (by rfl) 33 (.tmp 4) rfl (w.heap.size + 1) rfl 33 #[.int .i64 o0, .int .i64 o1, .int .i64 o2, .int .u32 o3, .bool o4, .bool o5] (0, 0) _ Try.underlying33 rfl (by kernel_rfl) (fun W hW => at_ext (h := hW) HB.out)) hHeld ?_
    simp only [List.getElem_toArray, List.getElem_cons_succ, List.getElem_cons_zero, Act.put, List.setIfInBounds_toArray, List.set_cons_zero, List.set_cons_succ]
    obtain ⟨x0, hx0⟩ : ∃ x0, wq.drew = x0 := ⟨_, rfl⟩
    have Sx0 : Step x0 wq := ⟨by rw [← hx0]; exact Ext.out⟩
    rw [hx0] at hHeld ⊢
    clear hx0
    refine wpAnyH_ready (rs := [0, 2, 3]) (by kernel_rfl) (by simp) ?_
    refine AllReadyH.cons rfl (fun K hK => ?_) (AllReadyH.cons rfl (fun K hK => ?_) (AllReadyH.cons rfl (fun K hK => ?_) AllReadyH.nil))
    · skip
      refine step_call_w (by rfl) Try.func40 (by kernel_rfl) (by kernel_rfl) #[] #[] rfl #[] ?hv (ldefault_any _) ?_
      case hv => go_simp
      rintro e y1 ⟨rfl, hbd⟩
      refine ⟨_, rfl, ?_⟩
      have Sy1 : Step y1 x0 := ⟨hbd⟩
      clear hbd hHeld
      refine hK.out _ _ (by exact inferInstance) (fun hHeld => ?_)
      clear hK K
      simp only [List.getElem_toArray, List.getElem_cons_succ, List.getElem_cons_zero, Act.put, List.setIfInBounds_toArray, List.set_cons_zero, List.set_cons_succ]
      refine wpAnyH_ready (rs := [2, 3]) (by kernel_rfl) (by simp) ?_
      refine AllReadyH.cons rfl (fun K hK => ?_) (AllReadyH.cons rfl (fun K hK => ?_) AllReadyH.nil)
      · skip
        rw [if_pos (by rfl)]
        unfold Oper.wp
        go_simp
        clear hHeld
        refine hK.out _ _ (by exact inferInstance) (fun hHeld => ?_)
        clear hK K
        try simp only [List.getElem_toArray, List.getElem_cons_succ, List.getElem_cons_zero, Act.put, List.setIfInBounds_toArray, List.set_cons_zero, List.set_cons_succ]
        obtain ⟨y2, hy⟩ : ∃ y, y1.alloc zOL = y := ⟨_, rfl⟩
        have Sy2 : Step y2 y1 := ⟨by rw [← hy]; exact Ext.out⟩
        have HRg8 : Hid (y2.heap[y1.heap.size]? = some zOL) := by unfold Hid; rw [← hy]; exact at_new y1 _
        have HLg8 : Hid (wq.heap.size ≤ y1.heap.size) := size_ext
        obtain ⟨g8, hg⟩ : ∃ g, y1.heap.size = g := ⟨_, rfl⟩
        rw [hg] at HRg8 HLg8
        rw [hy] at hHeld ⊢
        rw [hg]
        clear hy hg
        refine wpAnyH_ready (rs := [3]) (by kernel_rfl) (by simp) ?_
        refine AllReadyH.cons rfl (fun K hK => ?_) AllReadyH.nil
        rw [if_pos (by rfl)]
        unfold Oper.wp
        go_simp
        clear hHeld
        refine hK.out _ _ (by exact inferInstance) (fun hHeld => ?_)
        clear hK K
        try simp only [List.getElem_toArray, List.getElem_cons_succ, List.getElem_cons_zero, Act.put, List.setIfInBounds_toArray, List.set_cons_zero, List.set_cons_succ]
        obtain ⟨y3, hy⟩ : ∃ y, y2.alloc zOL = y := ⟨_, rfl⟩
        have Sy3 : Step y3 y2 := ⟨by rw [← hy]; exact Ext.out⟩
        have HRg9 : Hid (y3.heap[y2.heap.size]? = some zOL) := by unfold Hid; rw [← hy]; exact at_new y2 _
        have HLg9 : Hid (wq.heap.size ≤ y2.heap.size) := size_ext
        have HNE : Hid (y2.heap.size ≠ g8) := by have h1 := at_lt (at_ext (w' := y2) HRg8.out); unfold Hid; omega
        obtain ⟨g9, hg⟩ : ∃ g, y2.heap.size = g := ⟨_, rfl⟩
        rw [hg] at HRg9 HLg9 HNE
        rw [hy] at hHeld ⊢
        rw [hg]
        clear hy hg
        refine wpAnyH_ready (rs := [4]) (by kernel_rfl) (by simp) ?_
        refine AllReadyH.cons rfl (fun K hK => ?_) AllReadyH.nil
        refine step_store_row (by rfl) 33 (.tmp 8) (.tmp 12) rfl g8 #[.int .i64 1500, .int .i64 4294967295, .int .i64 0, .int .u32 0, .bool false, .bool false] rfl rfl 33 #[.int .i64 0, .int .i64 0, .int .i64 0, .int .u32 0, .bool false, .bool false] (at_ext HRg8.out) (by kernel_rfl) rfl (by simp [Value.oneCell']) ?_
        clear hHeld
        have Xy4 : Ext wq (y3.setRow g8 #[.int .i64 1500, .int .i64 4294967295, .int .i64 0, .int .u32 0, .bool false, .bool false]) := Ext.setRow_ (inferInstance : Ext wq y3) HLg8.out _
        refine hK.out _ _ Xy4 (fun hHeld => ?_)
        clear hK K
        obtain ⟨y4, hy⟩ : ∃ y, y3.setRow g8 #[.int .i64 1500, .int .i64 4294967295, .int .i64 0, .int .u32 0, .bool false, .bool false] = y := ⟨_, rfl⟩
        rw [hy] at hHeld Xy4 ⊢
        have Sy4 : Step y4 wq := ⟨Xy4.out⟩
        have HN : Hid (y4.heap[g9]? = some zOL) := by unfold Hid; rw [← hy]; exact (setRow_other _ _ _ _ (by have h1 := HNE.out; omega)).trans (at_ext HRg9.out)
        clear HRg9
        have HRg9 := HN
        clear HN
        clear hy
        simp only [List.getElem_toArray, List.getElem_cons_succ, List.getElem_cons_zero, Act.put, List.setIfInBounds_toArray, List.set_cons_zero, List.set_cons_succ]
        refine wpAnyH_ready (rs := [5]) (by kernel_rfl) (by simp) ?_
        refine AllReadyH.cons rfl (fun K hK => ?_) AllReadyH.nil
        refine step_store_row (by rfl) 33 (.tmp 9) (.tmp 13) rfl g9 #[.int .i64 o0, .int .i64 o1, .int .i64 o2, .int .u32 o3, .bool o4, .bool o5] rfl rfl 33 #[.int .i64 0, .int .i64 0, .int .i64 0, .int .u32 0, .bool false, .bool false] (at_ext HRg9.out) (by kernel_rfl) rfl (by simp [Value.oneCell']) ?_
        clear hHeld
        have Xy5 : Ext wq (y4.setRow g9 #[.int .i64 o0, .int .i64 o1, .int .i64 o2, .int .u32 o3, .bool o4, .bool o5]) := Ext.setRow_ (inferInstance : Ext wq y4) HLg9.out _
        refine hK.out _ _ Xy5 (fun hHeld => ?_)
        clear hK K
        obtain ⟨y5, hy⟩ : ∃ y, y4.setRow g9 #[.int .i64 o0, .int .i64 o1, .int .i64 o2, .int .u32 o3, .bool o4, .bool o5] = y := ⟨_, rfl⟩
        rw [hy] at hHeld Xy5 ⊢
        have Sy5 : Step y5 wq := ⟨Xy5.out⟩
        clear hy
        simp only [List.getElem_toArray, List.getElem_cons_succ, List.getElem_cons_zero, Act.put, List.setIfInBounds_toArray, List.set_cons_zero, List.set_cons_succ]
        refine wpAnyH_done (by kernel_rfl) ?_ _
        clear hHeld
        go_wp2_with fail
        go_meet
        case rel => exact ⟨_, _, rfl, rfl, (inferInstance : Ext wq _)⟩
      · skip
        rw [if_pos (by rfl)]
        unfold Oper.wp
        go_simp
        clear hHeld
        refine hK.out _ _ (by exact inferInstance) (fun hHeld => ?_)
        clear hK K
        try simp only [List.getElem_toArray, List.getElem_cons_succ, List.getElem_cons_zero, Act.put, List.setIfInBounds_toArray, List.set_cons_zero, List.set_cons_succ]
        obtain ⟨y6, hy⟩ : ∃ y, y1.alloc zOL = y := ⟨_, rfl⟩
        have Sy6 : Step y6 y1 := ⟨by rw [← hy]; exact Ext.out⟩
        have HRg9 : Hid (y6.heap[y1.heap.size]? = some zOL) := by unfold Hid; rw [← hy]; exact at_new y1 _
        have HLg9 : Hid (wq.heap.size ≤ y1.heap.size) := size_ext
        obtain ⟨g9, hg⟩ : ∃ g, y1.heap.size = g := ⟨_, rfl⟩
        rw [hg] at HRg9 HLg9
        rw [hy] at hHeld ⊢
        rw [hg]
        clear hy hg
        refine wpAnyH_ready (rs := [2]) (by kernel_rfl) (by simp) ?_
        refine AllReadyH.cons rfl (fun K hK => ?_) AllReadyH.nil
        rw [if_pos (by rfl)]
        unfold Oper.wp
        go_simp
        clear hHeld
        refine hK.out _ _ (by exact inferInstance) (fun hHeld => ?_)
        clear hK K
        try simp only [List.getElem_toArray, List.getElem_cons_succ, List.getElem_cons_zero, Act.put, List.setIfInBounds_toArray, List.set_cons_zero, List.set_cons_succ]
        obtain ⟨y7, hy⟩ : ∃ y, y6.alloc zOL = y := ⟨_, rfl⟩
        have Sy7 : Step y7 y6 := ⟨by rw [← hy]; exact Ext.out⟩
        have HRg8 : Hid (y7.heap[y6.heap.size]? = some zOL) := by unfold Hid; rw [← hy]; exact at_new y6 _
        have HLg8 : Hid (wq.heap.size ≤ y6.heap.size) := size_ext
        have HNE : Hid (y6.heap.size ≠ g9) := by have h1 := at_lt (at_ext (w' := y6) HRg9.out); unfold Hid; omega
        obtain ⟨g8, hg⟩ : ∃ g, y6.heap.size = g := ⟨_, rfl⟩
        rw [hg] at HRg8 HLg8 HNE
        rw [hy] at hHeld ⊢
        rw [hg]
        clear hy hg
        refine wpAnyH_ready (rs := [4]) (by kernel_rfl) (by simp) ?_
        refine AllReadyH.cons rfl (fun K hK => ?_) AllReadyH.nil
        refine step_store_row (by rfl) 33 (.tmp 8) (.tmp 12) rfl g8 #[.int .i64 1500, .int .i64 4294967295, .int .i64 0, .int .u32 0, .bool false, .bool false] rfl rfl 33 #[.int .i64 0, .int .i64 0, .int .i64 0, .int .u32 0, .bool false, .bool false] (at_ext HRg8.out) (by kernel_rfl) rfl (by simp [Value.oneCell']) ?_
        clear hHeld
        have Xy8 : Ext wq (y7.setRow g8 #[.int .i64 1500, .int .i64 4294967295, .int .i64 0, .int .u32 0, .bool false, .bool false]) := Ext.setRow_ (inferInstance : Ext wq y7) HLg8.out _
        refine hK.out _ _ Xy8 (fun hHeld => ?_)
        clear hK K
        obtain ⟨y8, hy⟩ : ∃ y, y7.setRow g8 #[.int .i64 1500, .int .i64 4294967295, .int .i64 0, .int .u32 0, .bool false, .bool false] = y := ⟨_, rfl⟩
        rw [hy] at hHeld Xy8 ⊢
        have Sy8 : Step y8 wq := ⟨Xy8.out⟩
        have HN : Hid (y8.heap[g9]? = some zOL) := by unfold Hid; rw [← hy]; exact (setRow_other _ _ _ _ (by have h1 := HNE.out; omega)).trans (at_ext HRg9.out)
        clear HRg9
        have HRg9 := HN
        clear HN
        clear hy
        simp only [List.getElem_toArray, List.getElem_cons_succ, List.getElem_cons_zero, Act.put, List.setIfInBounds_toArray, List.set_cons_zero, List.set_cons_succ]
        refine wpAnyH_ready (rs := [5]) (by kernel_rfl) (by simp) ?_
        refine AllReadyH.cons rfl (fun K hK => ?_) AllReadyH.nil
        refine step_store_row (by rfl) 33 (.tmp 9) (.tmp 13) rfl g9 #[.int .i64 o0, .int .i64 o1, .int .i64 o2, .int .u32 o3, .bool o4, .bool o5] rfl rfl 33 #[.int .i64 0, .int .i64 0, .int .i64 0, .int .u32 0, .bool false, .bool false] (at_ext HRg9.out) (by kernel_rfl) rfl (by simp [Value.oneCell']) ?_
        clear hHeld
        have Xy9 : Ext wq (y8.setRow g9 #[.int .i64 o0, .int .i64 o1, .int .i64 o2, .int .u32 o3, .bool o4, .bool o5]) := Ext.setRow_ (inferInstance : Ext wq y8) HLg9.out _
        refine hK.out _ _ Xy9 (fun hHeld => ?_)
        clear hK K
        obtain ⟨y9, hy⟩ : ∃ y, y8.setRow g9 #[.int .i64 o0, .int .i64 o1, .int .i64 o2, .int .u32 o3, .bool o4, .bool o5] = y := ⟨_, rfl⟩
        rw [hy] at hHeld Xy9 ⊢
        have Sy9 : Step y9 wq := ⟨Xy9.out⟩
        clear hy
        simp only [List.getElem_toArray, List.getElem_cons_succ, List.getElem_cons_zero, Act.put, List.setIfInBounds_toArray, List.set_cons_zero, List.set_cons_succ]
        refine wpAnyH_done (by kernel_rfl) ?_ _
        clear hHeld
        go_wp2_with fail
        go_meet
        case rel => exact ⟨_, _, rfl, rfl, (inferInstance : Ext wq _)⟩
    · skip
      rw [if_pos (by rfl)]
      unfold Oper.wp
      go_simp
      clear hHeld
      refine hK.out _ _ (by exact inferInstance) (fun hHeld => ?_)
      clear hK K
      try simp only [List.getElem_toArray, List.getElem_cons_succ, List.getElem_cons_zero, Act.put, List.setIfInBounds_toArray, List.set_cons_zero, List.set_cons_succ]
      obtain ⟨y10, hy⟩ : ∃ y, x0.alloc zOL = y := ⟨_, rfl⟩
      have Sy10 : Step y10 x0 := ⟨by rw [← hy]; exact Ext.out⟩
      have HRg8 : Hid (y10.heap[x0.heap.size]? = some zOL) := by unfold Hid; rw [← hy]; exact at_new x0 _
      have HLg8 : Hid (wq.heap.size ≤ x0.heap.size) := size_ext
      obtain ⟨g8, hg⟩ : ∃ g, x0.heap.size = g := ⟨_, rfl⟩
      rw [hg] at HRg8 HLg8
      rw [hy] at hHeld ⊢
      rw [hg]
      clear hy hg
      refine wpAnyH_ready (rs := [0, 3]) (by kernel_rfl) (by simp) ?_
      refine AllReadyH.cons rfl (fun K hK => ?_) (AllReadyH.cons rfl (fun K hK => ?_) AllReadyH.nil)
      · skip
        refine step_call_w (by rfl) Try.func40 (by kernel_rfl) (by kernel_rfl) #[] #[] rfl #[] ?hv (ldefault_any _) ?_
        case hv => go_simp
        rintro e y11 ⟨rfl, hbd⟩
        refine ⟨_, rfl, ?_⟩
        have Sy11 : Step y11 y10 := ⟨hbd⟩
        clear hbd hHeld
        refine hK.out _ _ (by exact inferInstance) (fun hHeld => ?_)
        clear hK K
        simp only [List.getElem_toArray, List.getElem_cons_succ, List.getElem_cons_zero, Act.put, List.setIfInBounds_toArray, List.set_cons_zero, List.set_cons_succ]
        refine wpAnyH_ready (rs := [3]) (by kernel_rfl) (by simp) ?_
        refine AllReadyH.cons rfl (fun K hK => ?_) AllReadyH.nil
        rw [if_pos (by rfl)]
        unfold Oper.wp
        go_simp
        clear hHeld
        refine hK.out _ _ (by exact inferInstance) (fun hHeld => ?_)
        clear hK K
        try simp only [List.getElem_toArray, List.getElem_cons_succ, List.getElem_cons_zero, Act.put, List.setIfInBounds_toArray, List.set_cons_zero, List.set_cons_succ]
        obtain ⟨y12, hy⟩ : ∃ y, y11.alloc zOL = y := ⟨_, rfl⟩
        have Sy12 : Step y12 y11 := ⟨by rw [← hy]; exact Ext.out⟩
        have HRg9 : Hid (y12.heap[y11.heap.size]? = some zOL) := by unfold Hid; rw [← hy]; exact at_new y11 _
        have HLg9 : Hid (wq.heap.size ≤ y11.heap.size) := size_ext
        have HNE : Hid (y11.heap.size ≠ g8) := by have h1 := at_lt (at_ext (w' := y11) HRg8.out); unfold Hid; omega
        obtain ⟨g9, hg⟩ : ∃ g, y11.heap.size = g := ⟨_, rfl⟩
        rw [hg] at HRg9 HLg9 HNE
        rw [hy] at hHeld ⊢
        rw [hg]
        clear hy hg
        refine wpAnyH_ready (rs := [4]) (by kernel_rfl) (by simp) ?_
        refine AllReadyH.cons rfl (fun K hK => ?_) AllReadyH.nil
        refine step_store_row (by rfl) 33 (.tmp 8) (.tmp 12) rfl g8 #[.int .i64 1500, .int .i64 4294967295, .int .i64 0, .int .u32 0, .bool false, .bool false] rfl rfl 33 #[.int .i64 0, .int .i64 0, .int .i64 0, .int .u32 0, .bool false, .bool false] (at_ext HRg8.out) (by kernel_rfl) rfl (by simp [Value.oneCell']) ?_
        clear hHeld
        have Xy13 : Ext wq (y12.setRow g8 #[.int .i64 1500, .int .i64 4294967295, .int .i64 0, .int .u32 0, .bool false, .bool false]) := Ext.setRow_ (inferInstance : Ext wq y12) HLg8.out _
        refine hK.out _ _ Xy13 (fun hHeld => ?_)
        clear hK K
        obtain ⟨y13, hy⟩ : ∃ y, y12.setRow g8 #[.int .i64 1500, .int .i64 4294967295, .int .i64 0, .int .u32 0, .bool false, .bool false] = y := ⟨_, rfl⟩
        rw [hy] at hHeld Xy13 ⊢
        have Sy13 : Step y13 wq := ⟨Xy13.out⟩
        have HN : Hid (y13.heap[g9]? = some zOL) := by unfold Hid; rw [← hy]; exact (setRow_other _ _ _ _ (by have h1 := HNE.out; omega)).trans (at_ext HRg9.out)
        clear HRg9
        have HRg9 := HN
        clear HN
        clear hy
        simp only [List.getElem_toArray, List.getElem_cons_succ, List.getElem_cons_zero, Act.put, List.setIfInBounds_toArray, List.set_cons_zero, List.set_cons_succ]
        refine wpAnyH_ready (rs := [5]) (by kernel_rfl) (by simp) ?_
        refine AllReadyH.cons rfl (fun K hK => ?_) AllReadyH.nil
        refine step_store_row (by rfl) 33 (.tmp 9) (.tmp 13) rfl g9 #[.int .i64 o0, .int .i64 o1, .int .i64 o2, .int .u32 o3, .bool o4, .bool o5] rfl rfl 33 #[.int .i64 0, .int .i64 0, .int .i64 0, .int .u32 0, .bool false, .bool false] (at_ext HRg9.out) (by kernel_rfl) rfl (by simp [Value.oneCell']) ?_
        clear hHeld
        have Xy14 : Ext wq (y13.setRow g9 #[.int .i64 o0, .int .i64 o1, .int .i64 o2, .int .u32 o3, .bool o4, .bool o5]) := Ext.setRow_ (inferInstance : Ext wq y13) HLg9.out _
        refine hK.out _ _ Xy14 (fun hHeld => ?_)
        clear hK K
        obtain ⟨y14, hy⟩ : ∃ y, y13.setRow g9 #[.int .i64 o0, .int .i64 o1, .int .i64 o2, .int .u32 o3, .bool o4, .bool o5] = y := ⟨_, rfl⟩
        rw [hy] at hHeld Xy14 ⊢
        have Sy14 : Step y14 wq := ⟨Xy14.out⟩
        clear hy
        simp only [List.getElem_toArray, List.getElem_cons_succ, List.getElem_cons_zero, Act.put, List.setIfInBounds_toArray, List.set_cons_zero, List.set_cons_succ]
        refine wpAnyH_done (by kernel_rfl) ?_ _
        clear hHeld
        go_wp2_with fail
        go_meet
        case rel => exact ⟨_, _, rfl, rfl, (inferInstance : Ext wq _)⟩
      · skip
        rw [if_pos (by rfl)]
        unfold Oper.wp
        go_simp
        clear hHeld
        refine hK.out _ _ (by exact inferInstance) (fun hHeld => ?_)
        clear hK K
        try simp only [List.getElem_toArray, List.getElem_cons_succ, List.getElem_cons_zero, Act.put, List.setIfInBounds_toArray, List.set_cons_zero, List.set_cons_succ]
        obtain ⟨y15, hy⟩ : ∃ y, y10.alloc zOL = y := ⟨_, rfl⟩
        have Sy15 : Step y15 y10 := ⟨by rw [← hy]; exact Ext.out⟩
        have HRg9 : Hid (y15.heap[y10.heap.size]? = some zOL) := by unfold Hid; rw [← hy]; exact at_new y10 _
        have HLg9 : Hid (wq.heap.size ≤ y10.heap.size) := size_ext
        have HNE : Hid (y10.heap.size ≠ g8) := by have h1 := at_lt (at_ext (w' := y10) HRg8.out); unfold Hid; omega
        obtain ⟨g9, hg⟩ : ∃ g, y10.heap.size = g := ⟨_, rfl⟩
        rw [hg] at HRg9 HLg9 HNE
        rw [hy] at hHeld ⊢
        rw [hg]
        clear hy hg
        refine wpAnyH_ready (rs := [0]) (by kernel_rfl) (by simp) ?_
        refine AllReadyH.cons rfl (fun K hK => ?_) AllReadyH.nil
        refine step_call_w (by rfl) Try.func40 (by kernel_rfl) (by kernel_rfl) #[] #[] rfl #[] ?hv (ldefault_any _) ?_
        case hv => go_simp
        rintro e y16 ⟨rfl, hbd⟩
        refine ⟨_, rfl, ?_⟩
        have Sy16 : Step y16 y15 := ⟨hbd⟩
        clear hbd hHeld
        refine hK.out _ _ (by exact inferInstance) (fun hHeld => ?_)
        clear hK K
        simp only [List.getElem_toArray, List.getElem_cons_succ, List.getElem_cons_zero, Act.put, List.setIfInBounds_toArray, List.set_cons_zero, List.set_cons_succ]
        refine wpAnyH_ready (rs := [4]) (by kernel_rfl) (by simp) ?_
        refine AllReadyH.cons rfl (fun K hK => ?_) AllReadyH.nil
        refine step_store_row (by rfl) 33 (.tmp 8) (.tmp 12) rfl g8 #[.int .i64 1500, .int .i64 4294967295, .int .i64 0, .int .u32 0, .bool false, .bool false] rfl rfl 33 #[.int .i64 0, .int .i64 0, .int .i64 0, .int .u32 0, .bool false, .bool false] (at_ext HRg8.out) (by kernel_rfl) rfl (by simp [Value.oneCell']) ?_
        clear hHeld
        have Xy17 : Ext wq (y16.setRow g8 #[.int .i64 1500, .int .i64 4294967295, .int .i64 0, .int .u32 0, .bool false, .bool false]) := Ext.setRow_ (inferInstance : Ext wq y16) HLg8.out _
        refine hK.out _ _ Xy17 (fun hHeld => ?_)
        clear hK K
        obtain ⟨y17, hy⟩ : ∃ y, y16.setRow g8 #[.int .i64 1500, .int .i64 4294967295, .int .i64 0, .int .u32 0, .bool false, .bool false] = y := ⟨_, rfl⟩
        rw [hy] at hHeld Xy17 ⊢
        have Sy17 : Step y17 wq := ⟨Xy17.out⟩
        have HN : Hid (y17.heap[g9]? = some zOL) := by unfold Hid; rw [← hy]; exact (setRow_other _ _ _ _ (by have h1 := HNE.out; omega)).trans (at_ext HRg9.out)
        clear HRg9
        have HRg9 := HN
        clear HN
        clear hy
        simp only [List.getElem_toArray, List.getElem_cons_succ, List.getElem_cons_zero, Act.put, List.setIfInBounds_toArray, List.set_cons_zero, List.set_cons_succ]
        refine wpAnyH_ready (rs := [5]) (by kernel_rfl) (by simp) ?_
        refine AllReadyH.cons rfl (fun K hK => ?_) AllReadyH.nil
        refine step_store_row (by rfl) 33 (.tmp 9) (.tmp 13) rfl g9 #[.int .i64 o0, .int .i64 o1, .int .i64 o2, .int .u32 o3, .bool o4, .bool o5] rfl rfl 33 #[.int .i64 0, .int .i64 0, .int .i64 0, .int .u32 0, .bool false, .bool false] (at_ext HRg9.out) (by kernel_rfl) rfl (by simp [Value.oneCell']) ?_
        clear hHeld
        have Xy18 : Ext wq (y17.setRow g9 #[.int .i64 o0, .int .i64 o1, .int .i64 o2, .int .u32 o3, .bool o4, .bool o5]) := Ext.setRow_ (inferInstance : Ext wq y17) HLg9.out _
        refine hK.out _ _ Xy18 (fun hHeld => ?_)
        clear hK K
        obtain ⟨y18, hy⟩ : ∃ y, y17.setRow g9 #[.int .i64 o0, .int .i64 o1, .int .i64 o2, .int .u32 o3, .bool o4, .bool o5] = y := ⟨_, rfl⟩
        rw [hy] at hHeld Xy18 ⊢
        have Sy18 : Step y18 wq := ⟨Xy18.out⟩
        clear hy
        simp only [List.getElem_toArray, List.getElem_cons_succ, List.getElem_cons_zero, Act.put, List.setIfInBounds_toArray, List.set_cons_zero, List.set_cons_succ]
        refine wpAnyH_done (by kernel_rfl) ?_ _
        clear hHeld
        go_wp2_with fail
        go_meet
        case rel => exact ⟨_, _, rfl, rfl, (inferInstance : Ext wq _)⟩
    · skip
      rw [if_pos (by rfl)]
      unfold Oper.wp
      go_simp
      clear hHeld
      refine hK.out _ _ (by exact inferInstance) (fun hHeld => ?_)
      clear hK K
      try simp only [List.getElem_toArray, List.getElem_cons_succ, List.getElem_cons_zero, Act.put, List.setIfInBounds_toArray, List.set_cons_zero, List.set_cons_succ]
      obtain ⟨y19, hy⟩ : ∃ y, x0.alloc zOL = y := ⟨_, rfl⟩
      have Sy19 : Step y19 x0 := ⟨by rw [← hy]; exact Ext.out⟩
      have HRg9 : Hid (y19.heap[x0.heap.size]? = some zOL) := by unfold Hid; rw [← hy]; exact at_new x0 _
      have HLg9 : Hid (wq.heap.size ≤ x0.heap.size) := size_ext
      obtain ⟨g9, hg⟩ : ∃ g, x0.heap.size = g := ⟨_, rfl⟩
      rw [hg] at HRg9 HLg9
      rw [hy] at hHeld ⊢
      rw [hg]
      clear hy hg
      refine wpAnyH_ready (rs := [0, 2]) (by kernel_rfl) (by simp) ?_
      refine AllReadyH.cons rfl (fun K hK => ?_) (AllReadyH.cons rfl (fun K hK => ?_) AllReadyH.nil)
      · skip
        refine step_call_w (by rfl) Try.func40 (by kernel_rfl) (by kernel_rfl) #[] #[] rfl #[] ?hv (ldefault_any _) ?_
        case hv => go_simp
        rintro e y20 ⟨rfl, hbd⟩
        refine ⟨_, rfl, ?_⟩
        have Sy20 : Step y20 y19 := ⟨hbd⟩
        clear hbd hHeld
        refine hK.out _ _ (by exact inferInstance) (fun hHeld => ?_)
        clear hK K
        simp only [List.getElem_toArray, List.getElem_cons_succ, List.getElem_cons_zero, Act.put, List.setIfInBounds_toArray, List.set_cons_zero, List.set_cons_succ]
        refine wpAnyH_ready (rs := [2]) (by kernel_rfl) (by simp) ?_
        refine AllReadyH.cons rfl (fun K hK => ?_) AllReadyH.nil
        rw [if_pos (by rfl)]
        unfold Oper.wp
        go_simp
        clear hHeld
        refine hK.out _ _ (by exact inferInstance) (fun hHeld => ?_)
        clear hK K
        try simp only [List.getElem_toArray, List.getElem_cons_succ, List.getElem_cons_zero, Act.put, List.setIfInBounds_toArray, List.set_cons_zero, List.set_cons_succ]
        obtain ⟨y21, hy⟩ : ∃ y, y20.alloc zOL = y := ⟨_, rfl⟩
        have Sy21 : Step y21 y20 := ⟨by rw [← hy]; exact Ext.out⟩
        have HRg8 : Hid (y21.heap[y20.heap.size]? = some zOL) := by unfold Hid; rw [← hy]; exact at_new y20 _
        have HLg8 : Hid (wq.heap.size ≤ y20.heap.size) := size_ext
        have HNE : Hid (y20.heap.size ≠ g9) := by have h1 := at_lt (at_ext (w' := y20) HRg9.out); unfold Hid; omega
        obtain ⟨g8, hg⟩ : ∃ g, y20.heap.size = g := ⟨_, rfl⟩
        rw [hg] at HRg8 HLg8 HNE
        rw [hy] at hHeld ⊢
        rw [hg]
        clear hy hg
        refine wpAnyH_ready (rs := [4]) (by kernel_rfl) (by simp) ?_
        refine AllReadyH.cons rfl (fun K hK => ?_) AllReadyH.nil
        refine step_store_row (by rfl) 33 (.tmp 8) (.tmp 12) rfl g8 #[.int .i64 1500, .int .i64 4294967295, .int .i64 0, .int .u32 0, .bool false, .bool false] rfl rfl 33 #[.int .i64 0, .int .i64 0, .int .i64 0, .int .u32 0, .bool false, .bool false] (at_ext HRg8.out) (by kernel_rfl) rfl (by simp [Value.oneCell']) ?_
        clear hHeld
        have Xy22 : Ext wq (y21.setRow g8 #[.int .i64 1500, .int .i64 4294967295, .int .i64 0, .int .u32 0, .bool false, .bool false]) := Ext.setRow_ (inferInstance : Ext wq y21) HLg8.out _
        refine hK.out _ _ Xy22 (fun hHeld => ?_)
        clear hK K
        obtain ⟨y22, hy⟩ : ∃ y, y21.setRow g8 #[.int .i64 1500, .int .i64 4294967295, .int .i64 0, .int .u32 0, .bool false, .bool false] = y := ⟨_, rfl⟩
        rw [hy] at hHeld Xy22 ⊢
        have Sy22 : Step y22 wq := ⟨Xy22.out⟩
        have HN : Hid (y22.heap[g9]? = some zOL) := by unfold Hid; rw [← hy]; exact (setRow_other _ _ _ _ (by have h1 := HNE.out; omega)).trans (at_ext HRg9.out)
        clear HRg9
        have HRg9 := HN
        clear HN
        clear hy
        simp only [List.getElem_toArray, List.getElem_cons_succ, List.getElem_cons_zero, Act.put, List.setIfInBounds_toArray, List.set_cons_zero, List.set_cons_succ]
        refine wpAnyH_ready (rs := [5]) (by kernel_rfl) (by simp) ?_
        refine AllReadyH.cons rfl (fun K hK => ?_) AllReadyH.nil
        refine step_store_row (by rfl) 33 (.tmp 9) (.tmp 13) rfl g9 #[.int .i64 o0, .int .i64 o1, .int .i64 o2, .int .u32 o3, .bool o4, .bool o5] rfl rfl 33 #[.int .i64 0, .int .i64 0, .int .i64 0, .int .u32 0, .bool false, .bool false] (at_ext HRg9.out) (by kernel_rfl) rfl (by simp [Value.oneCell']) ?_
        clear hHeld
        have Xy23 : Ext wq (y22.setRow g9 #[.int .i64 o0, .int .i64 o1, .int .i64 o2, .int .u32 o3, .bool o4, .bool o5]) := Ext.setRow_ (inferInstance : Ext wq y22) HLg9.out _
        refine hK.out _ _ Xy23 (fun hHeld => ?_)
        clear hK K
        obtain ⟨y23, hy⟩ : ∃ y, y22.setRow g9 #[.int .i64 o0, .int .i64 o1, .int .i64 o2, .int .u32 o3, .bool o4, .bool o5] = y := ⟨_, rfl⟩
        rw [hy] at hHeld Xy23 ⊢
        have Sy23 : Step y23 wq := ⟨Xy23.out⟩
        clear hy
        simp only [List.getElem_toArray, List.getElem_cons_succ, List.getElem_cons_zero, Act.put, List.setIfInBounds_toArray, List.set_cons_zero, List.set_cons_succ]
        refine wpAnyH_done (by kernel_rfl) ?_ _
        clear hHeld
        go_wp2_with fail
        go_meet
        case rel => exact ⟨_, _, rfl, rfl, (inferInstance : Ext wq _)⟩
      · skip
        rw [if_pos (by rfl)]
        unfold Oper.wp
        go_simp
        clear hHeld
        refine hK.out _ _ (by exact inferInstance) (fun hHeld => ?_)
        clear hK K
        try simp only [List.getElem_toArray, List.getElem_cons_succ, List.getElem_cons_zero, Act.put, List.setIfInBounds_toArray, List.set_cons_zero, List.set_cons_succ]
        obtain ⟨y24, hy⟩ : ∃ y, y19.alloc zOL = y := ⟨_, rfl⟩
        have Sy24 : Step y24 y19 := ⟨by rw [← hy]; exact Ext.out⟩
        have HRg8 : Hid (y24.heap[y19.heap.size]? = some zOL) := by unfold Hid; rw [← hy]; exact at_new y19 _
        have HLg8 : Hid (wq.heap.size ≤ y19.heap.size) := size_ext
        have HNE : Hid (y19.heap.size ≠ g9) := by have h1 := at_lt (at_ext (w' := y19) HRg9.out); unfold Hid; omega
        obtain ⟨g8, hg⟩ : ∃ g, y19.heap.size = g := ⟨_, rfl⟩
        rw [hg] at HRg8 HLg8 HNE
        rw [hy] at hHeld ⊢
        rw [hg]
        clear hy hg
        refine wpAnyH_ready (rs := [0]) (by kernel_rfl) (by simp) ?_
        refine AllReadyH.cons rfl (fun K hK => ?_) AllReadyH.nil
        refine step_call_w (by rfl) Try.func40 (by kernel_rfl) (by kernel_rfl) #[] #[] rfl #[] ?hv (ldefault_any _) ?_
        case hv => go_simp
        rintro e y25 ⟨rfl, hbd⟩
        refine ⟨_, rfl, ?_⟩
        have Sy25 : Step y25 y24 := ⟨hbd⟩
        clear hbd hHeld
        refine hK.out _ _ (by exact inferInstance) (fun hHeld => ?_)
        clear hK K
        simp only [List.getElem_toArray, List.getElem_cons_succ, List.getElem_cons_zero, Act.put, List.setIfInBounds_toArray, List.set_cons_zero, List.set_cons_succ]
        refine wpAnyH_ready (rs := [4]) (by kernel_rfl) (by simp) ?_
        refine AllReadyH.cons rfl (fun K hK => ?_) AllReadyH.nil
        refine step_store_row (by rfl) 33 (.tmp 8) (.tmp 12) rfl g8 #[.int .i64 1500, .int .i64 4294967295, .int .i64 0, .int .u32 0, .bool false, .bool false] rfl rfl 33 #[.int .i64 0, .int .i64 0, .int .i64 0, .int .u32 0, .bool false, .bool false] (at_ext HRg8.out) (by kernel_rfl) rfl (by simp [Value.oneCell']) ?_
        clear hHeld
        have Xy26 : Ext wq (y25.setRow g8 #[.int .i64 1500, .int .i64 4294967295, .int .i64 0, .int .u32 0, .bool false, .bool false]) := Ext.setRow_ (inferInstance : Ext wq y25) HLg8.out _
        refine hK.out _ _ Xy26 (fun hHeld => ?_)
        clear hK K
        obtain ⟨y26, hy⟩ : ∃ y, y25.setRow g8 #[.int .i64 1500, .int .i64 4294967295, .int .i64 0, .int .u32 0, .bool false, .bool false] = y := ⟨_, rfl⟩
        rw [hy] at hHeld Xy26 ⊢
        have Sy26 : Step y26 wq := ⟨Xy26.out⟩
        have HN : Hid (y26.heap[g9]? = some zOL) := by unfold Hid; rw [← hy]; exact (setRow_other _ _ _ _ (by have h1 := HNE.out; omega)).trans (at_ext HRg9.out)
        clear HRg9
        have HRg9 := HN
        clear HN
        clear hy
        simp only [List.getElem_toArray, List.getElem_cons_succ, List.getElem_cons_zero, Act.put, List.setIfInBounds_toArray, List.set_cons_zero, List.set_cons_succ]
        refine wpAnyH_ready (rs := [5]) (by kernel_rfl) (by simp) ?_
        refine AllReadyH.cons rfl (fun K hK => ?_) AllReadyH.nil
        refine step_store_row (by rfl) 33 (.tmp 9) (.tmp 13) rfl g9 #[.int .i64 o0, .int .i64 o1, .int .i64 o2, .int .u32 o3, .bool o4, .bool o5] rfl rfl 33 #[.int .i64 0, .int .i64 0, .int .i64 0, .int .u32 0, .bool false, .bool false] (at_ext HRg9.out) (by kernel_rfl) rfl (by simp [Value.oneCell']) ?_
        clear hHeld
        have Xy27 : Ext wq (y26.setRow g9 #[.int .i64 o0, .int .i64 o1, .int .i64 o2, .int .u32 o3, .bool o4, .bool o5]) := Ext.setRow_ (inferInstance : Ext wq y26) HLg9.out _
        refine hK.out _ _ Xy27 (fun hHeld => ?_)
        clear hK K
        obtain ⟨y27, hy⟩ : ∃ y, y26.setRow g9 #[.int .i64 o0, .int .i64 o1, .int .i64 o2, .int .u32 o3, .bool o4, .bool o5] = y := ⟨_, rfl⟩
        rw [hy] at hHeld Xy27 ⊢
        have Sy27 : Step y27 wq := ⟨Xy27.out⟩
        clear hy
        simp only [List.getElem_toArray, List.getElem_cons_succ, List.getElem_cons_zero, Act.put, List.setIfInBounds_toArray, List.set_cons_zero, List.set_cons_succ]
        refine wpAnyH_done (by kernel_rfl) ?_ _
        clear hHeld
        go_wp2_with fail
        go_meet
        case rel => exact ⟨_, _, rfl, rfl, (inferInstance : Ext wq _)⟩
  obtain ⟨g8, g9, rfl, rfl, HX2⟩ := hcut
  have HBc := Lib.hid (at_ext (h := HX2.out) HB.out)
  have HZc := Lib.hid (at_ext (h := HX2.out) HZq.out)
  have HWc : Hid (Ext w wc) := Ext.trans_ HXq.out HX2.out
  clear HX2 HB HZq HXq k0 k1 k2 k3 k4 k5
  go_wp2
  go_loopw [16] (fun j wr => ∃ (k : Nat) (o : OS), j = .int .i64 k ∧ k ≤ n ∧ Hid ((vs.drop k).foldl (fun o v => rejU o v.t) o = r) ∧ Hid (wr.heap[w.heap.size + 1]? = some (oL o)) ∧ Hid (wr.heap[w.heap.size + 1 + 1]? = some zOL) ∧ Hid (Ext w wr)) (fun j _ => n - (intOf j).toNat)
  case atStart => exact ⟨0, ⟨o0, o1, o2, o3, o4, o5⟩, rfl, by omega, HR.out, HBc.out, HZc.out, HWc.out⟩
  case round =>
    clear HR HBc HZc HWc
    obtain ⟨k, o, rfl, hk, HF, HO, HZ, HW⟩ := hrel
    have Sr : Step wr w := ⟨HW.out.out⟩
    obtain ⟨a0, a1, a2, a3, a4, a5⟩ := o
    by_cases hlt : k < n
    · obtain ⟨v, hv, hvm⟩ := optD (vs := vs) (k := k) (by rw [Hn.out]; exact hlt)
      obtain ⟨ad, rfl, hc0, hc1⟩ := opt_at (HX.out.ext (w' := wr)) hv
      have HLT := Lib.hid hlt
      have hkn : (k : Int) < (n : Int) := by omega
      have hvt := HT.out v hvm
      have hf := HF.out
      rw [drop_at hv, List.foldl_cons] at hf
      obtain ⟨t, VA, vn, vc, xs⟩ := v
      simp only at hc0 hc1 hvt hf
      have f0 : ∀ b j, (wr.alloc b).frozen? ⟨w.heap.size + 1, j, none⟩ = false := fun b j => at_frozen (at_ext (w' := wr.alloc b) HO.out) j
      clear hv hvm hlt HF
      rcases hvt with rfl | rfl | rfl
      · have q3 : ∀ b, (wr.alloc b).cell? ⟨w.heap.size + 1, 3, none⟩ = some (.int .u32 a3) := fun b => at_cell (at_ext (w' := wr.alloc b) HO.out) 3
        have HF2 : Hid ((vs.drop (k + 1)).foldl (fun o v => rejU o v.t) ⟨a0, a1, a2, 0, a4, a5⟩ = r) := hf
        clear hf
        go_wp2
        go_roundw
        case rel => exact ⟨k + 1, ⟨a0, a1, a2, 0, a4, a5⟩, by go_num, HLT.out, HF2.out, at_set (at_ext HO.out) 3 _, (Below.heap_setCell _ _ _ _ (by show w.heap.size + 1 + 1 ≠ w.heap.size + 1; omega)).trans (at_ext HZ.out), Ext.setg (inferInstance : Ext w _) (w.heap.size + 1) 3 _ (by omega)⟩
        case measure => have := HLT.out; simp [intOf]; omega
      · have q4 : ∀ b, (wr.alloc b).cell? ⟨w.heap.size + 1, 4, none⟩ = some (.bool a4) := fun b => at_cell (at_ext (w' := wr.alloc b) HO.out) 4
        have HF2 : Hid ((vs.drop (k + 1)).foldl (fun o v => rejU o v.t) ⟨a0, a1, a2, a3, false, a5⟩ = r) := hf
        clear hf
        go_wp2
        go_roundw
        case rel => exact ⟨k + 1, ⟨a0, a1, a2, a3, false, a5⟩, by go_num, HLT.out, HF2.out, at_set (at_ext HO.out) 4 _, (Below.heap_setCell _ _ _ _ (by show w.heap.size + 1 + 1 ≠ w.heap.size + 1; omega)).trans (at_ext HZ.out), Ext.setg (inferInstance : Ext w _) (w.heap.size + 1) 4 _ (by omega)⟩
        case measure => have := HLT.out; simp [intOf]; omega
      · have q5 : ∀ b, (wr.alloc b).cell? ⟨w.heap.size + 1, 5, none⟩ = some (.bool a5) := fun b => at_cell (at_ext (w' := wr.alloc b) HO.out) 5
        have HF2 : Hid ((vs.drop (k + 1)).foldl (fun o v => rejU o v.t) ⟨a0, a1, a2, a3, a4, false⟩ = r) := hf
        clear hf
        go_wp2
        go_roundw
        case rel => exact ⟨k + 1, ⟨a0, a1, a2, a3, a4, false⟩, by go_num, HLT.out, HF2.out, at_set (at_ext HO.out) 5 _, (Below.heap_setCell _ _ _ _ (by show w.heap.size + 1 + 1 ≠ w.heap.size + 1; omega)).trans (at_ext HZ.out), Ext.setg (inferInstance : Ext w _) (w.heap.size + 1) 5 _ (by omega)⟩
        case measure => have := HLT.out; simp [intOf]; omega
    · obtain rfl : k = n := by omega
      have hf := HF.out
      rw [List.drop_of_length_le (by rw [Hn.out]; exact Nat.le_refl _), List.foldl_nil] at hf
      subst hf
      go_wp2_with
        (first
         | (refine wpList_load_row rfl 33 (.tmp 4) rfl (w.heap.size + 1) rfl 33 #[.int .i64 a0, .int .i64 a1, .int .i64 a2, .int .u32 a3, .bool a4, .bool a5] (0, 0) _ (at_ext HO.out) Try.underlying33 rfl (by kernel_rfl) ?_)
         | (refine wpList_store_row rfl 33 (.tmp 6) (.tmp 48) rfl (w.heap.size + 1 + 1) #[.int .i64 a0, .int .i64 a1, .int .i64 a2, .int .u32 a3, .bool a4, .bool a5] rfl rfl 33 #[.int .i64 0, .int .i64 0, .int .i64 0, .int .u32 0, .bool false, .bool false] (at_ext HZ.out) (by kernel_rfl) rfl (by simp [Value.oneCell']) ?_))
      refine bodyPost_ret (results_cell_row2 Try.results44 _ _ (w.heap.size + 1 + 1) 33 #[.int .i64 a0, .int .i64 a1, .int .i64 a2, .int .u32 a3, .bool a4, .bool a5] (0, 0) _ (.bool true) rfl rfl (setRow_heap _ _ _ _ _ _ (at_ext HZ.out)) Try.underlying33 rfl (by kernel_rfl)) rfl ?_
      exact ⟨rfl, (Ext.setRow_ (inferInstance : Ext w _) (by omega) _).out⟩
end Go.Proofs.Ytodibldfolognaa
