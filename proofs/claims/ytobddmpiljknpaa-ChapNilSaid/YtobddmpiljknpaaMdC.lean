/-
  md5: the words as bytes; New. No condition.
-/
import Derived.Test.YtobddmpiljknpaaMdB
import Derived.Test.YtobddmpiljknpaaTail
namespace Go.Proofs.Ytobddmpiljknpaa
open Go.RowKit
set_option linter.unusedVariables false
set_option linter.unusedSimpArgs false

abbrev W4 := Int × Int × Int × Int
def wl (s : W4) : List Int := [s.1, s.2.1, s.2.2.1, s.2.2.2]
def byteAt (s : W4) (k : Nat) : Int := (wl s).getD (k / 4) 0 / 2 ^ (8 * (k % 4)) % 256
def toldS (s : W4) : Nat → List Int
  | 0 => List.replicate 16 0
  | k + 1 => (toldS s k).set k (byteAt s k)
theorem toldS_len (s : W4) : ∀ k, (toldS s k).length = 16
  | 0 => by simp [toldS]
  | k + 1 => by rw [toldS, List.length_set]; exact toldS_len s k
abbrev zB16 : Obj := .cells #[.int .u8 0, .int .u8 0, .int .u8 0, .int .u8 0, .int .u8 0, .int .u8 0, .int .u8 0, .int .u8 0, .int .u8 0, .int .u8 0, .int .u8 0, .int .u8 0, .int .u8 0, .int .u8 0, .int .u8 0, .int .u8 0] 47
def WOk (s : W4) : Prop := ∀ j, 0 ≤ (wl s).getD j 0
abbrev cW (s : W4) : Obj := .cells #[.int .u32 s.1, .int .u32 s.2.1, .int .u32 s.2.2.1, .int .u32 s.2.2.2] 168
set_option maxRecDepth 100000 in
set_option maxHeartbeats 4000000 in
theorem bytes4_any (s : W4) (hs : WOk s) (w : World) :
    Calls Try.prog 111 #[.agg #[.int .u32 s.1, .int .u32 s.2.1, .int .u32 s.2.2.1, .int .u32 s.2.2.2]] w fun e w' => e = .returned (.agg (nums .u8 (toldS s 16)).toArray) ∧ Below w.heap.size w w' := by
  have HS := Lib.hid hs
  clear hs
  have HW : Hid ((((w.alloc (cW s)).alloc zB16).alloc zB16).heap[w.heap.size]? = some (cW s)) := at_ext (at_new w _)
  have HZ : Hid ((((w.alloc (cW s)).alloc zB16).alloc zB16).heap[w.heap.size + 1]? = some zB16) := at_ext (w := (w.alloc (cW s)).alloc zB16) (at_new1 (by simp))
  go_enter Try.func111, Try.ntmps111
  go_wp2
  go_loopw [5] (fun i wr => ∃ k : Nat, i = .int .i64 k ∧ k ≤ 16 ∧ Hid (wr.heap[w.heap.size + 1 + 1]? = some (.cells (nums .u8 (toldS s k)).toArray 47 (0, 0))) ∧ Hid (Ext ((w.alloc (cW s)).alloc zB16) wr)) (fun i _ => 16 - (intOf i).toNat)
  case atStart => exact ⟨0, rfl, by omega, at_new1 (by simp), (inferInstance : Ext _ (World.alloc _ _))⟩
  case round =>
    obtain ⟨k, rfl, hk, HR, HE⟩ := hrel
    have XE : Ext ((w.alloc (cW s)).alloc zB16) wr := HE.out
    have YE : Ext w wr := Ext.trans_ inferInstance XE
    have HWr : Hid (wr.heap[w.heap.size]? = some (cW s)) := at_ext (w := (w.alloc (cW s)).alloc zB16) (at_ext (at_new w _))
    by_cases hlt : k < 16
    · have hk0 : (0 : Int) ≤ (k : Int) := by omega
      have hkI : (k : Int) < 16 := by omega
      have cw : wr.cell? ⟨w.heap.size, k / 4, none⟩ = some (.int .u32 ((wl s).getD (k / 4) 0)) := by
        rw [at_cell HWr.out]
        simpa [nums, wl] using nums_get .u32 (wl s) (k / 4) (by show k / 4 < 4; omega)
      have ck : wr.cell? ⟨w.heap.size + 1 + 1, k, none⟩ = some (.int .u8 ((toldS s k).getD k 0)) := by
        rw [at_cell HR.out]
        simpa using nums_get .u8 (toldS s k) k (by rw [toldS_len]; omega)
      have hf := at_frozen HR.out k
      have HT : Hid (toldS s (k + 1) = (toldS s k).set k (byteAt s k)) := rfl
      have hx0 := HS.out (k / 4)
      unfold byteAt at HT
      obtain ⟨x, hx⟩ : ∃ x, (wl s).getD (k / 4) 0 = x := ⟨_, rfl⟩
      rw [hx] at cw HT hx0
      clear hx
      go_wp2
      go_roundw
      case rel =>
        refine ⟨k + 1, by go_num, by omega, ?_, Ext.setg inferInstance _ _ _ (by simp)⟩
        have h1 := at_set HR.out k (.int .u8 (x / 2 ^ (8 * (k % 4)) % 256))
        refine (show (wr.setCell _ _).heap[w.heap.size + 1 + 1]? = _ from ?_)
        rw [h1, HT.out, nums_set]
        simp
      case measure => simp [intOf]; omega
    · obtain rfl : k = 16 := by omega
      have HZr : Hid (wr.heap[w.heap.size + 1]? = some zB16) := at_ext (w := (w.alloc (cW s)).alloc zB16) (at_new1 (by simp))
      have hl := toldS_len s 16
      obtain ⟨ts, hts⟩ : ∃ ts, toldS s 16 = ts := ⟨_, rfl⟩
      rw [hts] at HR hl
      have hi16 : (Try.prog.info? 47).map (·.size) = some (nums .u8 ts).toArray.size := by
        rw [List.size_toArray, nums_length, hl]
        kernel_rfl
      have hz16 : (nums .u8 (List.replicate 16 0)).toArray.size = (nums .u8 ts).toArray.size := by
        rw [List.size_toArray, List.size_toArray, nums_length, nums_length, hl]
        rfl
      have HTS := Lib.hid hts
      have HI16 := Lib.hid hi16
      have HZ16 := Lib.hid hz16
      clear hts hi16 hz16 hl
      go_wp2_with
        (first
         | (refine wpList_load_row rfl 47 (.tmp 3) rfl (w.heap.size + 1 + 1) rfl 47 (nums .u8 ts).toArray (0, 0) _ HR.out Try.underlying47 rfl HI16.out ?_)
         | (refine wpList_store_row rfl 47 (.tmp 2) (.tmp 20) rfl (w.heap.size + 1) (nums .u8 ts).toArray rfl rfl 47 (nums .u8 (List.replicate 16 0)).toArray HZr.out HI16.out HZ16.out (one_all _ _) ?_))
      exact bodyPost_ret (results_cell_row Try.results111 _ _ (w.heap.size + 1) 47 _ (0, 0) _ rfl (setRow_heap _ _ _ _ _ _ HZr.out) Try.underlying47 rfl HI16.out) rfl ⟨by rw [HTS.out], (Ext.setRow_ YE (by simp) _).out⟩
end Go.Proofs.Ytobddmpiljknpaa
