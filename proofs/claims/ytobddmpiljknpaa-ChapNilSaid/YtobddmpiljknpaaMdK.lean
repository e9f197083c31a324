/-
  The reference's Told (md5). No condition.
-/
import Derived.Test.YtobddmpiljknpaaMdI
import Derived.Test.YtobddmpiljknpaaMdC
namespace Go.Proofs.Ytobddmpiljknpaa
open Go.RowKit
set_option linter.unusedVariables false
set_option linter.unusedSimpArgs false

theorem byteAt_ij (s : W4) (i k : Nat) (hk : k < 4) : byteAt s (4 * i + k) = (wl s).getD i 0 / 2 ^ (8 * k) % 256 := by
  unfold byteAt
  rw [show (4 * i + k) / 4 = i by omega, show (4 * i + k) % 4 = k by omega]
set_option maxRecDepth 100000 in
set_option maxHeartbeats 4000000 in
theorem rtold4_any (s : W4) (hs : WOk s) (w : World) :
    Calls Try.prog 105 #[.agg #[.int .u32 s.1, .int .u32 s.2.1, .int .u32 s.2.2.1, .int .u32 s.2.2.2]] w fun e w' => e = .returned (.agg (nums .u8 (toldS s 16)).toArray) ∧ Below w.heap.size w w' := by
  have HS := Lib.hid hs
  clear hs
  go_enter Try.func105, Try.ntmps105
  go_wp2
  go_loopw [17] (fun i wr => ∃ k : Nat, i = .int .i64 k ∧ k ≤ 4 ∧ Hid (wr.heap[w.heap.size + 1 + 1]? = some (.cells (nums .u8 (toldS s (4 * k))).toArray 47 (0, 0))) ∧ Hid (wr.heap[w.heap.size + 1 + 1 + 1]? = some (.cells (nums .u32 (wl s)).toArray 159 (0, 0))) ∧ Hid (Ext ((w.alloc (cV s)).alloc zB16) wr)) (fun i _ => 4 - (intOf i).toNat)
  case atStart => exact ⟨0, rfl, by omega, at_ext (w := ((w.alloc (cV s)).alloc zB16).alloc zB16) (at_new1 (by simp)), at_new1 (by simp), (inferInstance : Ext _ (World.alloc _ _))⟩
  case round =>
    obtain ⟨k, rfl, hk, HR, HL, HE⟩ := hrel
    have XE : Ext ((w.alloc (cV s)).alloc zB16) wr := HE.out
    by_cases hlt : k < 4
    · have hk0 : (0 : Int) ≤ (k : Int) := by omega
      have hkI : (k : Int) < 4 := by omega
      have cw : wr.cell? ⟨w.heap.size + 1 + 1 + 1, k, none⟩ = some (.int .u32 ((wl s).getD k 0)) := by
        rw [at_cell HL.out]
        simpa using nums_get .u32 (wl s) k (by show k < 4; omega)
      go_wp2
      have hx0 := HS.out k
      obtain ⟨x, hx⟩ : ∃ x, (wl s).getD k 0 = x := ⟨_, rfl⟩
      have HXE := Lib.hid hx
      rw [List.getD_eq_getElem?_getD] at hx
      rw [hx]
      rw [HXE.out] at hx0 cw
      clear hx
      go_loopw [6] (fun i wr => ∃ j : Nat, i = .int .i64 j ∧ j ≤ 4 ∧ Hid (wr.heap[w.heap.size + 1 + 1]? = some (.cells (nums .u8 (toldS s (4 * k + j))).toArray 47 (0, 0))) ∧ Hid (wr.heap[w.heap.size + 1 + 1 + 1]? = some (.cells (nums .u32 (wl s)).toArray 159 (0, 0))) ∧ Hid (Ext ((w.alloc (cV s)).alloc zB16) wr)) (fun i _ => 4 - (intOf i).toNat)
      case atStart => exact ⟨0, rfl, by omega, HR.out, HL.out, HE.out⟩
      case round =>
        obtain ⟨j, rfl, hj, HR2, HL2, HE2⟩ := hrel
        by_cases hltj : j < 4
        · have hj0 : (0 : Int) ≤ (j : Int) := by omega
          have hjI : (j : Int) < 4 := by omega
          have ck : wr.cell? ⟨w.heap.size + 1 + 1, 4 * k + j, none⟩ = some (.int .u8 ((toldS s (4 * k + j)).getD (4 * k + j) 0)) := by
            rw [at_cell HR2.out]
            simpa using nums_get .u8 (toldS s (4 * k + j)) (4 * k + j) (by rw [toldS_len]; omega)
          have hf := at_frozen HR2.out (4 * k + j)
          have hlt16 : (4 : Int) * (k : Int) + (j : Int) < 16 := by omega
          have hge0 : (0 : Int) ≤ 4 * (k : Int) + (j : Int) := by omega
          go_wp2
          refine ⟨⟨j + 1, by go_num, by omega, ?_, at_other _ HL2.out (by simp), Ext.setg HE2.out _ _ _ (by simp)⟩, by simp [intOf]; omega⟩
          have h1 := at_set HR2.out (4 * k + j) (.int .u8 (x / 2 ^ (8 * j) % 256))
          refine (show (wr.setCell _ _).heap[w.heap.size + 1 + 1]? = _ from ?_)
          rw [h1, show toldS s (4 * k + (j + 1)) = (toldS s (4 * k + j)).set (4 * k + j) (byteAt s (4 * k + j)) from rfl, byteAt_ij s k j hltj, HXE.out, nums_set]
          simp
        · obtain rfl : j = 4 := by omega
          go_wp2
          go_roundw
          case rel => exact ⟨k + 1, by go_num, by omega, (show _ = _ by rw [show 4 * (k + 1) = 4 * k + 4 by omega]; exact HR2.out), HL2.out, HE2.out⟩
          case measure => simp [intOf]; omega
    · obtain rfl : k = 4 := by omega
      have YE : Ext w wr := Ext.trans_ inferInstance XE
      have HZr : Hid (wr.heap[w.heap.size + 1]? = some zB16) := at_ext (w := (w.alloc (cV s)).alloc zB16) (at_new1 (by simp))
      have HR : Hid (wr.heap[w.heap.size + 1 + 1]? = some (.cells (nums .u8 (toldS s 16)).toArray 47 (0, 0))) := HR.out
      have hl := toldS_len s 16
      obtain ⟨ts, hts⟩ : ∃ ts, toldS s 16 = ts := ⟨_, rfl⟩
      rw [hts] at HR hl
      have HTS := Lib.hid hts
      have HI16 : Hid ((Try.prog.info? 47).map (·.size) = some (nums .u8 ts).toArray.size) := by
        unfold Hid
        rw [List.size_toArray, nums_length, hl]
        kernel_rfl
      have HZ16 : Hid ((nums .u8 (List.replicate 16 0)).toArray.size = (nums .u8 ts).toArray.size) := by
        unfold Hid
        rw [List.size_toArray, List.size_toArray, nums_length, nums_length, hl]
        rfl
      clear hts hl
      go_wp2_with
        (first
         | (refine wpList_load_row rfl 47 (.tmp 3) rfl (w.heap.size + 1 + 1) rfl 47 (nums .u8 ts).toArray (0, 0) _ HR.out Try.underlying47 rfl HI16.out ?_)
         | (refine wpList_store_row rfl 47 (.tmp 2) (.tmp 38) rfl (w.heap.size + 1) (nums .u8 ts).toArray rfl rfl 47 (nums .u8 (List.replicate 16 0)).toArray HZr.out HI16.out HZ16.out (one_all _ _) ?_))
      exact bodyPost_ret (results_cell_row Try.results105 _ _ (w.heap.size + 1) 47 _ (0, 0) _ rfl (setRow_heap _ _ _ _ _ _ HZr.out) Try.underlying47 rfl HI16.out) rfl ⟨by rw [HTS.out], (Ext.setRow_ YE (by simp) _).out⟩
end Go.Proofs.Ytobddmpiljknpaa
