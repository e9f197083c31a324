/-
  md5.Sum: the digest of bytes. Conditions: they are no longer than the model's memory.
-/
import Derived.Test.YtmopdimokoogmaaMdE
namespace Go.Proofs.Ytmopdimokoogmaa
open Go.RowKit
set_option linter.unusedVariables false
set_option linter.unusedSimpArgs false

theorem wok_begin : WOk beginW := by
  intro j
  match j with
  | 0 => decide
  | 1 => decide
  | 2 => decide
  | 3 => decide
  | j + 4 => simp [wl]
theorem wok_block (s : W4) (bs : List Int) : WOk (mdBlock s bs) := by
  have h : ∀ x : Int, 0 ≤ x % 4294967296 := fun x => Int.emod_nonneg _ (by decide)
  intro j
  match j with
  | 0 => exact h _
  | 1 => exact h _
  | 2 => exact h _
  | 3 => exact h _
  | j + 4 => simp [wl]
theorem wok_run {s : W4} (hs : WOk s) (L : List Int) : ∀ j, WOk (mdN s L j)
  | 0 => hs
  | j + 1 => wok_block _ _
/-- The digest of bytes. -/
def digest (ys : List Int) : List Int := sumS (mdN beginW ys (ys.length / 64)) (ys.drop (64 * (ys.length / 64))) ys.length
theorem digest_len (ys : List Int) : (digest ys).length = 16 := toldS_len _ _
set_option maxRecDepth 100000 in
set_option maxHeartbeats 4000000 in
theorem sum4_any (A : Option Addr) (m c : Nat) (ys : List Int) (hm : ys.length = m) (hm' : m ≤ 140737488355328) (hby : Byt ys) (w : World) (hy : Cells w A (nums .u8 ys)) :
    Calls Try.prog 27 #[.slice A m c] w fun e w' => e = .returned (.agg (nums .u8 (digest ys)).toArray) ∧ Below w.heap.size w w' := by
  have Hm := Lib.hid hm
  have HY := Lib.hid hy
  have HB := Lib.hid hby
  have HAL : Hid (∀ ad, 0 < ys.length → A = some ad → ad.block < w.heap.size) := by
    intro ad hp ha
    obtain ⟨ad', he, h⟩ := hy (by rw [nums_length]; exact hp)
    rw [ha] at he
    injection he with he
    subst he
    have := World.block_lt_of_cell? _ _ (h 0 _ (by rw [List.getElem?_eq_getElem (by rw [nums_length]; exact hp)]))
    rwa [block_of_add] at this
  clear hm hby hy
  go_enter Try.func27, Try.ntmps27
  go_wp2_with fail
  refine (new4_any _).mono ?_
  rintro e w1 ⟨g, rfl, hst, hb1⟩
  have S1 : Step w1 _ := ⟨hb1⟩
  have HST := Lib.hid hst
  have HGB : Hid (w.heap.size < g) := by have := hst.base_; simp at this; unfold Hid; omega
  clear hst hb1
  go_wp2_with fail
  refine (write4_any g _ beginW [] [] ys 0 _ _ A m c w1 Hm.out Byt.nil_ HB.out (fun h0 ad ha => by have := HAL.out ad (by rw [Hm.out]; exact h0) ha; have := HGB.out; omega) (by omega) (by omega) (by simp; omega) (by simp; omega) HST.out (size_ext) (by exact HY.out.ext)).mono ?_
  rintro e w2 ⟨pv, lv, rfl, hst2, hon2, hos2⟩
  have hb2 : Below (w.alloc zB16).heap.size (w.alloc zB16) w2 := by
    have h1 : Below (w.alloc zB16).heap.size w1 w2 := hon2.below (fun k hk => by
      rcases hk with h | h | h
      · rw [h]; exact HST.out.base_
      · cases h
      · cases h) (size_ext)
    exact (Ext.out (w := w.alloc zB16) (w' := w1)).trans h1
  have S2 : Step w2 (w.alloc zB16) := ⟨hb2⟩
  have HST2 := Lib.hid hst2
  clear hst2 hon2 hos2 hb2
  go_wp2_with fail
  refine (ssum4_any g _ _ _ _ _ _ _ w2 (HB.out.drop _) (by omega) (by omega) (by simp; omega) HST2.out (fun L j => wok_run (wok_run wok_begin _ _) _ _)).mono ?_
  rintro e w3 ⟨rfl, hb3⟩
  have HDG : Hid (digest ys = sumS (mdN beginW ([] ++ ys) (([] ++ ys).length / 64)) (List.drop (64 * (([] ++ ys).length / 64)) ys) (0 + ↑m)) := by
    unfold Hid digest
    rw [List.nil_append, Hm.out, Int.zero_add]
  rw [← HDG.out]
  have S3 : Step w3 _ := ⟨hb3⟩
  have HZ3 : Hid (w3.heap[w.heap.size]? = some zB16) := at_ext (w := w.alloc zB16) (at_new w _)
  have hl := digest_len ys
  obtain ⟨ts, hts⟩ : ∃ ts, digest ys = ts := ⟨_, rfl⟩
  have HTS := Lib.hid hts
  rw [hts] at hl ⊢
  have HI16 : Hid ((Try.prog.info? 44).map (·.size) = some (nums .u8 ts).toArray.size) := by
    unfold Hid
    rw [List.size_toArray, nums_length, hl]
    kernel_rfl
  have HZ16 : Hid ((nums .u8 (List.replicate 16 0)).toArray.size = (nums .u8 ts).toArray.size) := by
    unfold Hid
    rw [List.size_toArray, List.size_toArray, nums_length, nums_length, hl]
    rfl
  clear hts hl hb3
  go_wp2_with
    (refine wpList_store_row rfl 44 (.tmp 2) (.tmp 9) rfl w.heap.size (nums .u8 ts).toArray rfl rfl 44 (nums .u8 (List.replicate 16 0)).toArray HZ3.out HI16.out HZ16.out (one_all _ _) ?_)
  exact bodyPost_ret (results_cell_row Try.results27 _ _ w.heap.size 44 _ (0, 0) _ rfl (setRow_heap _ _ _ _ _ _ HZ3.out) Try.underlying44 rfl HI16.out) rfl ⟨by rw [HTS.out], (Ext.setRow_ (inferInstance : Ext w w3) (Nat.le_refl _) _).out⟩
end Go.Proofs.Ytmopdimokoogmaa
