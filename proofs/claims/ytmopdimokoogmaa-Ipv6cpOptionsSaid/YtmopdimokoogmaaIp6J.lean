/-
  What Address of ipv6cp and of its reference tell. No condition.
-/
import Derived.Test.YtmopdimokoogmaaIp6A
import Derived.Test.YtmopdimokoogmaaCopy
namespace Go.Proofs.Ytmopdimokoogmaa
open Go.RowKit
set_option linter.unusedVariables false
set_option linter.unusedSimpArgs false

def addr17 (id : Int) : List Int := [254, 128, 0, 0, 0, 0, 0, 0] ++ be id 8
def AddrTells (id : Int) (w : World) (e : Ending) (w' : World) : Prop := e = .returned (.agg (nums .u8 (addr17 id)).toArray) ∧ Below w.heap.size w w'
def beW (n : Int) : List Int := [n / 72057594037927936, n / 281474976710656 % 256, n / 1099511627776 % 256, n / 4294967296 % 256, n / 16777216 % 256, n / 65536 % 256, n / 256 % 256, n % 256]
theorem beW_eq {n : Int} (h : 0 ≤ n) (h' : n < 18446744073709551616) : be n 8 = beW n := by
  simp [be, beW]
  omega
def addrAt (id : Int) (k : Nat) : List Int := [254, 128, 0, 0, 0, 0, 0, 0] ++ List.replicate (8 - k) 0 ++ (beW id).drop (8 - k)
theorem addrAt_end {id : Int} (h : 0 ≤ id) (h' : id < 18446744073709551616) : addrAt id 8 = addr17 id := by
  unfold addr17
  rw [beW_eq h h']
  rfl
abbrev zero16 : Obj := .cells (nums .u8 (List.replicate 16 0)).toArray 44
set_option maxRecDepth 100000 in
set_option maxHeartbeats 8000000 in
theorem raddr17_any (n : Int) (h0 : 0 ≤ n) (h0' : n < 18446744073709551616) (w : World) :
    Calls Try.prog 42 #[.int .u64 n] w (AddrTells n w) := by
  go_enter Try.func42, Try.ntmps42
  go_wp2
  go_loopw [4] (fun i wr => ∃ k : Nat, i = .int .i64 k ∧ k ≤ 8 ∧ Hid (wr.heap[w.heap.size + 1]? = some (.cells (nums .u8 (addrAt n k)).toArray 44 (0, 0))) ∧ Hid (Below (w.alloc zero16).heap.size (w.alloc zero16) wr)) (fun i _ => 8 - (intOf i).toNat)
  case atStart => exact ⟨0, rfl, by omega, at_new1 (w := w.alloc zero16) (by simp), ((Below.refl _ _).alloc (Nat.le_refl _) _)⟩
  case round =>
    obtain ⟨k, rfl, hk, HR, HB⟩ := hrel
    have X0 : Ext (w.alloc zero16) wr := ⟨HB.out⟩
    have Y0 : Ext w wr := Ext.trans_ inferInstance X0
    by_cases hlt : k < 8
    · have hd : k = 0 ∨ k = 1 ∨ k = 2 ∨ k = 3 ∨ k = 4 ∨ k = 5 ∨ k = 6 ∨ k = 7 := by omega
      rcases hd with rfl | rfl | rfl | rfl | rfl | rfl | rfl | rfl
      ·
        have hc : wr.cell? ⟨w.heap.size + 1, 15 - 0, none⟩ = some (.int .u8 0) := at_cell HR.out (15 - 0)
        have hf := at_frozen HR.out (15 - 0)
        simp only [Nat.reduceSub] at hc hf
        go_wp2
        go_roundw
        case rel =>
          refine ⟨0 + 1, rfl, by omega, ?_, HB.out.setCell (p := ⟨w.heap.size + 1, _, none⟩) (by simp) _⟩
          exact at_set HR.out (15 - 0) _
        case measure => simp [intOf]
      ·
        have hc : wr.cell? ⟨w.heap.size + 1, 15 - 1, none⟩ = some (.int .u8 0) := at_cell HR.out (15 - 1)
        have hf := at_frozen HR.out (15 - 1)
        simp only [Nat.reduceSub] at hc hf
        go_wp2
        go_roundw
        case rel =>
          refine ⟨1 + 1, rfl, by omega, ?_, HB.out.setCell (p := ⟨w.heap.size + 1, _, none⟩) (by simp) _⟩
          exact at_set HR.out (15 - 1) _
        case measure => simp [intOf]
      ·
        have hc : wr.cell? ⟨w.heap.size + 1, 15 - 2, none⟩ = some (.int .u8 0) := at_cell HR.out (15 - 2)
        have hf := at_frozen HR.out (15 - 2)
        simp only [Nat.reduceSub] at hc hf
        go_wp2
        go_roundw
        case rel =>
          refine ⟨2 + 1, rfl, by omega, ?_, HB.out.setCell (p := ⟨w.heap.size + 1, _, none⟩) (by simp) _⟩
          exact at_set HR.out (15 - 2) _
        case measure => simp [intOf]
      ·
        have hc : wr.cell? ⟨w.heap.size + 1, 15 - 3, none⟩ = some (.int .u8 0) := at_cell HR.out (15 - 3)
        have hf := at_frozen HR.out (15 - 3)
        simp only [Nat.reduceSub] at hc hf
        go_wp2
        go_roundw
        case rel =>
          refine ⟨3 + 1, rfl, by omega, ?_, HB.out.setCell (p := ⟨w.heap.size + 1, _, none⟩) (by simp) _⟩
          exact at_set HR.out (15 - 3) _
        case measure => simp [intOf]
      ·
        have hc : wr.cell? ⟨w.heap.size + 1, 15 - 4, none⟩ = some (.int .u8 0) := at_cell HR.out (15 - 4)
        have hf := at_frozen HR.out (15 - 4)
        simp only [Nat.reduceSub] at hc hf
        go_wp2
        go_roundw
        case rel =>
          refine ⟨4 + 1, rfl, by omega, ?_, HB.out.setCell (p := ⟨w.heap.size + 1, _, none⟩) (by simp) _⟩
          exact at_set HR.out (15 - 4) _
        case measure => simp [intOf]
      ·
        have hc : wr.cell? ⟨w.heap.size + 1, 15 - 5, none⟩ = some (.int .u8 0) := at_cell HR.out (15 - 5)
        have hf := at_frozen HR.out (15 - 5)
        simp only [Nat.reduceSub] at hc hf
        go_wp2
        go_roundw
        case rel =>
          refine ⟨5 + 1, rfl, by omega, ?_, HB.out.setCell (p := ⟨w.heap.size + 1, _, none⟩) (by simp) _⟩
          exact at_set HR.out (15 - 5) _
        case measure => simp [intOf]
      ·
        have hc : wr.cell? ⟨w.heap.size + 1, 15 - 6, none⟩ = some (.int .u8 0) := at_cell HR.out (15 - 6)
        have hf := at_frozen HR.out (15 - 6)
        simp only [Nat.reduceSub] at hc hf
        go_wp2
        go_roundw
        case rel =>
          refine ⟨6 + 1, rfl, by omega, ?_, HB.out.setCell (p := ⟨w.heap.size + 1, _, none⟩) (by simp) _⟩
          exact at_set HR.out (15 - 6) _
        case measure => simp [intOf]
      ·
        have hc : wr.cell? ⟨w.heap.size + 1, 15 - 7, none⟩ = some (.int .u8 0) := at_cell HR.out (15 - 7)
        have hf := at_frozen HR.out (15 - 7)
        simp only [Nat.reduceSub] at hc hf
        go_wp2
        go_roundw
        case rel =>
          refine ⟨7 + 1, rfl, by omega, ?_, HB.out.setCell (p := ⟨w.heap.size + 1, _, none⟩) (by simp) _⟩
          exact at_set HR.out (15 - 7) _
        case measure => simp [intOf]
    · obtain rfl : k = 8 := by omega
      have HR : Hid (wr.heap[w.heap.size + 1]? = some (.cells (nums .u8 (addr17 n)).toArray 44 (0, 0))) := by
        have h1 := HR.out
        rw [addrAt_end h0 h0'] at h1
        exact h1
      have HZ := Lib.hid (at_ext (w' := wr) (at_new w zero16))
      go_wp2_with
        (first
         | (refine wpList_load_row rfl 44 (.tmp 3) rfl (w.heap.size + 1) rfl 44 (nums .u8 (addr17 n)).toArray (0, 0) _ HR.out Try.underlying44 rfl (by kernel_rfl) ?_)
         | (refine wpList_store_row rfl 44 (.tmp 2) (.tmp 19) rfl w.heap.size (nums .u8 (addr17 n)).toArray rfl rfl 44 (nums .u8 (List.replicate 16 0)).toArray HZ.out (by kernel_rfl) rfl (one_all _ _) ?_))
      exact bodyPost_ret (results_cell_row Try.results42 _ _ w.heap.size 44 _ (0, 0) _ rfl (setRow_heap _ _ _ _ _ _ HZ.out) Try.underlying44 rfl (by kernel_rfl)) rfl ⟨rfl, (Ext.setRow_ Y0 (Nat.le_refl _) _).out⟩

abbrev lit0 : Obj := .cells #[.int .u8 0, .int .u8 0, .int .u8 0, .int .u8 0, .int .u8 0, .int .u8 0, .int .u8 0, .int .u8 0, .int .u8 0, .int .u8 0, .int .u8 0, .int .u8 0, .int .u8 0, .int .u8 0, .int .u8 0, .int .u8 0] 44
abbrev lit1 : Obj := .cells #[.int .u8 254, .int .u8 128, .int .u8 0, .int .u8 0, .int .u8 0, .int .u8 0, .int .u8 0, .int .u8 0, .int .u8 0, .int .u8 0, .int .u8 0, .int .u8 0, .int .u8 0, .int .u8 0, .int .u8 0, .int .u8 0] 44
theorem splice_addr (n : Int) : splice (nums .u8 (addrAt n 0)) 8 (nums .u8 (be n 8)) = nums .u8 (addr17 n) := rfl
set_option maxRecDepth 100000 in
set_option maxHeartbeats 4000000 in
theorem addr17_any (n : Int) (h0 : 0 ≤ n) (h0' : n < 18446744073709551616) (w : World) :
    Calls Try.prog 41 #[.int .u64 n] w (AddrTells n w) := by
  go_enter Try.func41, Try.ntmps41
  go_wp2
  go_region_law
    (first
     | (refine step_call ?hg Try.func66 (by kernel_rfl) (by kernel_rfl) #[.tmp 6] #[23] ?ho #[.int .u64 n] ?hv (data_any n h0 h0' _) ?_
        (case hg => rfl)
        (case ho => rfl)
        (case hv => go_simp)
        rintro e w1 ⟨A1, rfl, ho1, hb1⟩
        refine ⟨_, rfl, ?_⟩
        have S1 : Step w1 _ := ⟨hb1⟩
        have HP : Hid (w1.heap[w.heap.size + 1]? = some (.cells (nums .u8 (addrAt n 0)).toArray 44 (0, 0))) := at_ext (w' := w1) (at_new1 (w := w.alloc lit0) (o := lit1) (g := w.heap.size + 1) (by simp))
        have HC1 := Lib.hid (own_cells ho1)
        have X1 : Ext (w.alloc lit0) w1 := inferInstance
        have HX1 : Hid (Ext (w.alloc zero16) w1) := X1
        clear ho1 hb1)
     | (refine step_copy rfl (.tmp 5) (.tmp 7) 42 42 rfl 5 (.int .u8 0) 1 Try.underlying42 info_u8 (some ⟨w.heap.size + 1, 8, none⟩) A1 8 8 8 8 rfl rfl (w.heap.size + 1) 8 (nums .u8 (addrAt n 0)) 44 HP.out (nums .u8 (be n 8)) ?c1 (fun _ => rfl) HC1.out ?c3 (nums_one _ _) ?_
        (case c1 => rfl)
        (case c3 => exact Nat.le_refl 16)
        intro w2 hw2 hg2
        have HW2 : Hid (w2.heap[w.heap.size + 1]? = some (.cells (nums .u8 (addr17 n)).toArray 44 (0, 0))) := hw2
        have X2 : Ext (w.alloc zero16) w2 := ⟨below_grown HX1.out.out HX1.out.out.size hg2 (fun b hb => by injection hb with hb; rw [← hb]; simp)⟩
        have Y2 : Ext w w2 := Ext.trans_ inferInstance X2
        have HZ := Lib.hid (at_ext (w' := w2) (at_new w zero16))
        clear hw2 hg2))
  all_goals
    go_wp2_with
      (first
       | (refine wpList_load_row rfl 44 (.tmp 3) rfl (w.heap.size + 1) rfl 44 (nums .u8 (addr17 n)).toArray (0, 0) _ HW2.out Try.underlying44 rfl (by kernel_rfl) ?_)
       | (refine wpList_store_row rfl 44 (.tmp 2) (.tmp 9) rfl w.heap.size (nums .u8 (addr17 n)).toArray rfl rfl 44 (nums .u8 (List.replicate 16 0)).toArray HZ.out (by kernel_rfl) rfl (one_all _ _) ?_))
    exact bodyPost_ret (results_cell_row Try.results41 _ _ w.heap.size 44 _ (0, 0) _ rfl (setRow_heap _ _ _ _ _ _ HZ.out) Try.underlying44 rfl (by kernel_rfl)) rfl ⟨rfl, (Ext.setRow_ Y2 (Nat.le_refl _) _).out⟩
end Go.Proofs.Ytmopdimokoogmaa
