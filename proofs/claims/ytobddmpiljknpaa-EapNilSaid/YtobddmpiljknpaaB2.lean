/-
  md5: the tables and the words at the beginning. No condition.
  md5: a block. No condition.
  A SLICE OF BYTES OF THE CALL's OWN THAT MAY BEGIN IN THE MIDDLE OF ITS ROW ('left = left[64:]'); append onto it. No condition: nothing here speaks of one program.
  md5: the words as bytes; New. No condition.
  md5: a stream and what it holds; New, Write. Conditions: what is held is no longer than the model's memory.
  md5: the digest of a stream. Conditions: what is held is no longer than the model's memory.
  md5.Sum: the digest of bytes. Conditions: they are no longer than the model's memory.
  md5: what is told of blocks in a row, at once or one behind the other. No condition.
  md5: a stream that has taken so many bytes: Write and Sum over all of them. Conditions: the lists are no longer than the model's memory.
  The reference's leaves (md5): Ks, turns, Begin, word. No condition.
  md5: sixteen words out of 64 bytes, two ways. No condition.
  The reference's Block (md5). No condition.
  The reference's Told (md5). No condition.
  The reference's Sum (md5). Condition: what is held is no longer than the model's memory.
  md5.Response and the reference's. Conditions: word and challenge are together no longer than half the model's memory.
  md5.Equal, and that digests are bytes (as XMdM has them, without what law04 alone needs). Conditions: the lists are no longer than the model's memory.
-/
import Derived.Test.YtobddmpiljknpaaB1
import Derived.ArgAppend
import Derived.Lib.EndianBits
import Derived.Lib.ConvBytes
import Derived.Lib.AppendStr
import Derived.Lib.SlBytesConst
namespace Go.Proofs.Ytobddmpiljknpaa
open Go.RowKit
set_option linter.unusedVariables false
set_option linter.unusedSimpArgs false

def ksL : List Int := [0xd76aa478, 0xe8c7b756, 0x242070db, 0xc1bdceee, 0xf57c0faf, 0x4787c62a, 0xa8304613, 0xfd469501,
  0x698098d8, 0x8b44f7af, 0xffff5bb1, 0x895cd7be, 0x6b901122, 0xfd987193, 0xa679438e, 0x49b40821,
  0xf61e2562, 0xc040b340, 0x265e5a51, 0xe9b6c7aa, 0xd62f105d, 0x02441453, 0xd8a1e681, 0xe7d3fbc8,
  0x21e1cde6, 0xc33707d6, 0xf4d50d87, 0x455a14ed, 0xa9e3e905, 0xfcefa3f8, 0x676f02d9, 0x8d2a4c8a,
  0xfffa3942, 0x8771f681, 0x6d9d6122, 0xfde5380c, 0xa4beea44, 0x4bdecfa9, 0xf6bb4b60, 0xbebfbc70,
  0x289b7ec6, 0xeaa127fa, 0xd4ef3085, 0x04881d05, 0xd9d4d039, 0xe6db99e5, 0x1fa27cf8, 0xc4ac5665,
  0xf4292244, 0x432aff97, 0xab9423a7, 0xfc93a039, 0x655b59c3, 0x8f0ccc92, 0xffeff47d, 0x85845dd1,
  0x6fa87e4f, 0xfe2ce6e0, 0xa3014314, 0x4e0811a1, 0xf7537e82, 0xbd3af235, 0x2ad7d2bb, 0xeb86d391]
def turnsL : List Int := [7, 12, 17, 22, 5, 9, 14, 20, 4, 11, 16, 23, 6, 10, 15, 21]
def beginL : List Int := [0x67452301, 0xefcdab89, 0x98badcfe, 0x10325476]
abbrev zero64 : Obj := .cells (nums .u32 (List.replicate 64 0)).toArray 187
set_option maxRecDepth 100000 in
set_option maxHeartbeats 1000000 in
theorem ks4_any (w : World) : Calls Try.prog 126 #[] w fun e w' => e = .returned (.agg (nums .u32 ksL).toArray) ∧ Below w.heap.size w w' := by
  have HZ := Lib.hid (at_new w zero64)
  have HY : Hid (Ext w (w.alloc zero64)) := (inferInstance : Ext w _)
  go_enter Try.func126, Try.ntmps126
  go_wp2_with
    (refine wpList_store_row rfl 187 (.tmp 0) (.tmp 1) rfl w.heap.size (nums .u32 ksL).toArray rfl rfl 187 (nums .u32 (List.replicate 64 0)).toArray HZ.out (by kernel_rfl) rfl (one_all _ _) ?_)
  exact bodyPost_ret (results_cell_row Try.results126 _ _ w.heap.size 187 _ (0, 0) _ rfl (setRow_heap _ _ _ _ _ _ HZ.out) Try.underlying187 rfl (by kernel_rfl)) rfl ⟨rfl, (Ext.setRow_ HY.out (Nat.le_refl _) _).out⟩
set_option maxRecDepth 100000 in
set_option maxHeartbeats 1000000 in
theorem turns4_any (w : World) : Calls Try.prog 127 #[] w fun e w' => e = .returned (.agg (nums .i64 turnsL).toArray) ∧ Below w.heap.size w w' := by
  have HZ := Lib.hid (at_new w (.cells (nums .i64 (List.replicate 16 0)).toArray 190))
  have HY : Hid (Ext w (w.alloc (.cells (nums .i64 (List.replicate 16 0)).toArray 190))) := (inferInstance : Ext w _)
  go_enter Try.func127, Try.ntmps127
  go_wp2_with
    (refine wpList_store_row rfl 190 (.tmp 0) (.tmp 5) rfl w.heap.size (nums .i64 turnsL).toArray rfl rfl 190 (nums .i64 (List.replicate 16 0)).toArray HZ.out (by kernel_rfl) rfl (one_all _ _) ?_)
  exact bodyPost_ret (results_cell_row Try.results127 _ _ w.heap.size 190 _ (0, 0) _ rfl (setRow_heap _ _ _ _ _ _ HZ.out) Try.underlying190 rfl (by kernel_rfl)) rfl ⟨rfl, (Ext.setRow_ HY.out (Nat.le_refl _) _).out⟩
theorem begin4_any (w : World) : Calls Try.prog 109 #[] w fun e w' => e = .returned (.agg (nums .u32 beginL).toArray) ∧ Below w.heap.size w w' := by
  go_enter Try.func109, Try.ntmps109
  go_wp2
  exact bodyPost_ret (v := .agg (nums .u32 beginL).toArray) (by simp [results, Try.results109, go_sem, nums, beginL]) rfl ⟨rfl, Ext.out⟩
end Go.Proofs.Ytobddmpiljknpaa

namespace Go.Proofs.Ytobddmpiljknpaa
open Go.RowKit
set_option linter.unusedVariables false
set_option linter.unusedSimpArgs false

def ldStep (bs xs : List Int) (k : Nat) : List Int := xs.set (k / 4) (bits .or .u32 (xs.getD (k / 4) 0) (bs.getD k 0 * 2 ^ (8 * (k % 4)) % 4294967296))
def ldF (bs : List Int) : Nat → List Int
  | 0 => List.replicate 16 0
  | k + 1 => ldStep bs (ldF bs k) k
theorem ldF_len (bs : List Int) : ∀ k, (ldF bs k).length = 16
  | 0 => by simp [ldF]
  | k + 1 => by rw [ldF, ldStep, List.length_set]; exact ldF_len bs k
theorem turns_bd (j : Nat) : 0 ≤ turnsL.getD j 0 ∧ turnsL.getD j 0 ≤ 31 := by
  by_cases h : j < 16
  · have : ∀ j < 16, 0 ≤ turnsL.getD j 0 ∧ turnsL.getD j 0 ≤ 31 := by decide
    exact this j h
  · have e : turnsL.getD j 0 = 0 := by rw [List.getD_eq_getElem?_getD, List.getElem?_eq_none (by show 16 ≤ j; omega)]; rfl
    omega
def mdF (q : Nat) (b c d : Int) : Int := match q with
  | 0 => bits .or .u32 (bits .and .u32 b c) (bits .and .u32 (bits .xor .u32 IntKind.u32.max b) d)
  | 1 => bits .or .u32 (bits .and .u32 d b) (bits .and .u32 (bits .xor .u32 IntKind.u32.max d) c)
  | 2 => bits .xor .u32 (bits .xor .u32 b c) d
  | _ => bits .xor .u32 c (bits .or .u32 b (bits .xor .u32 IntKind.u32.max d))
def mdG (k : Nat) : Nat := match k / 16 with
  | 0 => k % 16
  | 1 => (5 * k + 1) % 16
  | 2 => (3 * k + 5) % 16
  | _ => 7 * k % 16
def mdU (b t n : Int) : Int := (b + bits .or .u32 (t * 2 ^ n.toNat % 4294967296) (t / 2 ^ (32 - n).toNat)) % 4294967296
/-- A step: the four words a, b, c, d. -/
def mdStep (X : List Int) (k : Nat) (s : Int × Int × Int × Int) : Int × Int × Int × Int :=
  (s.2.2.2, mdU s.2.1 ((s.1 + mdF (k / 16) s.2.1 s.2.2.1 s.2.2.2 + ksL.getD k 0 + X.getD (mdG k) 0) % 4294967296) (turnsL.getD (k / 16 * 4 + k % 4) 0), s.2.1, s.2.2.1)
def mdRun (X : List Int) (s : Int × Int × Int × Int) : Nat → Int × Int × Int × Int
  | 0 => s
  | k + 1 => mdStep X k (mdRun X s k)
def mdAdd (s t : Int × Int × Int × Int) : Int × Int × Int × Int := ((s.1 + t.1) % 4294967296, (s.2.1 + t.2.1) % 4294967296, (s.2.2.1 + t.2.2.1) % 4294967296, (s.2.2.2 + t.2.2.2) % 4294967296)
/-- The words behind 64 bytes. -/
def mdBlock (s : Int × Int × Int × Int) (bs : List Int) : Int × Int × Int × Int := mdAdd s (mdRun (ldF bs 64) s 64)
theorem md_q {k q : Nat} (h : k / 16 = q) : (k : Int) / 16 = (q : Int) := by omega
def WTells (s : Int × Int × Int × Int) (w : World) (e : Ending) (w' : World) : Prop := e = .returned (.agg #[.int .u32 s.1, .int .u32 s.2.1, .int .u32 s.2.2.1, .int .u32 s.2.2.2]) ∧ Below w.heap.size w w'
abbrev zW : Obj := .cells #[.int .u32 0, .int .u32 0, .int .u32 0, .int .u32 0] 168
set_option maxRecDepth 100000 in
set_option maxHeartbeats 4000000 in
theorem block4_any (a b c d : Int) (A : Option Addr) (n cc : Nat) (bs : List Int) (hn : bs.length = n) (h64 : 64 ≤ n) (hnc : n ≤ cc) (hb : Byt bs) (w : World) (hx : Cells w A (nums .u8 bs)) :
    Calls Try.prog 110 #[.agg #[.int .u32 a, .int .u32 b, .int .u32 c, .int .u32 d], .slice A n cc] w (WTells (mdBlock (a, b, c, d) bs) w) := by
  have Hn := Lib.hid hn
  have HB := Lib.hid hb
  have HX := Lib.hid hx
  have hcc : 64 ≤ cc := by omega
  have h64I : (64 : Int) ≤ (cc : Int) := by omega
  clear hn hb hx
  go_enter Try.func110, Try.ntmps110
  go_wp2
  go_step3
  go_wp2
  go_loopw [21] (fun i wr => ∃ (k : Nat), i = .int .i64 k ∧ k ≤ 64 ∧ Hid (wr.heap[w.heap.size + 1 + 1]? = some (.cells (nums .u32 (ldF bs k)).toArray 186 (0, 0))) ∧ Hid (Ext ((w.alloc (.cells #[.int .u32 a, .int .u32 b, .int .u32 c, .int .u32 d] 168)).alloc zW) wr)) (fun i _ => 64 - (intOf i).toNat)
  case atStart => exact ⟨0, rfl, by omega, at_new1 (by simp), (inferInstance : Ext _ (World.alloc _ _))⟩
  case round =>
    obtain ⟨k, rfl, hk, HR, HE⟩ := hrel
    have XE : Ext ((w.alloc (.cells #[.int .u32 a, .int .u32 b, .int .u32 c, .int .u32 d] 168)).alloc zW) wr := HE.out
    have YE : Ext w wr := Ext.trans_ inferInstance XE
    by_cases hlt : k < 64
    · obtain ⟨ad, rfl, hc⟩ := (HX.out.ext (w' := wr)).num (i := k) (by rw [Hn.out]; omega)
      have hk0 : (0 : Int) ≤ (k : Int) := by omega
      have hkI : (k : Int) < 64 := by omega
      have hc4 : wr.cell? ⟨w.heap.size + 1 + 1, k / 4, none⟩ = some (.int .u32 ((ldF bs k).getD (k / 4) 0)) := by
        rw [at_cell HR.out]
        simpa using nums_get .u32 (ldF bs k) (k / 4) (by rw [ldF_len]; omega)
      have hf := at_frozen HR.out (k / 4)
      have hb1 := HB.out.getD k
      obtain ⟨x, hx⟩ : ∃ x, bs.getD k 0 = x := ⟨_, rfl⟩
      obtain ⟨y, hy⟩ : ∃ y, (ldF bs k).getD (k / 4) 0 = y := ⟨_, rfl⟩
      have HLS : Hid (ldF bs (k + 1) = (ldF bs k).set (k / 4) (bits .or .u32 y (x * 2 ^ (8 * (k % 4)) % 4294967296))) := by
        unfold Hid
        rw [ldF, ldStep, hx, hy]
      rw [hx] at hc hb1
      rw [hy] at hc4
      clear hx hy
      go_wp2
      go_region
      all_goals go_wp2
      all_goals
        refine ⟨⟨k + 1, by go_num, by omega, ?_, Ext.drew_ _ _ (h := Ext.setg XE _ _ _ (by simp))⟩, by simp [intOf]; omega⟩
        have h1 := at_set HR.out (k / 4) (.int .u32 (bits .or .u32 y (x * 2 ^ (8 * (k % 4)) % 4294967296)))
        refine (show (wr.setCell _ _).heap[w.heap.size + 1 + 1]? = _ from ?_)
        rw [h1, HLS.out, nums_set]
        simp
    · obtain rfl : k = 64 := by omega
      go_wp2_with fail
      refine (ks4_any _).mono ?_
      rintro e w1 ⟨rfl, hb1⟩
      have S1 : Step w1 _ := ⟨hb1⟩
      clear hb1
      go_wp2_with fail
      refine (turns4_any _).mono ?_
      rintro e w2 ⟨rfl, hb2⟩
      have S2 : Step w2 _ := ⟨hb2⟩
      clear hb2
      have HX64 : Hid (w2.heap[w.heap.size + 1 + 1]? = some (.cells (nums .u32 (ldF bs 64)).toArray 186 (0, 0))) := at_ext HR.out
      have HW0 : Hid (w2.heap[w.heap.size]? = some (.cells #[.int .u32 a, .int .u32 b, .int .u32 c, .int .u32 d] 168 (0, 0))) := at_ext (w' := w2) (w := (w.alloc (.cells #[.int .u32 a, .int .u32 b, .int .u32 c, .int .u32 d] 168)).alloc zW) (at_ext (at_new w _))
      have HW1 : Hid (w2.heap[w.heap.size + 1]? = some (.cells #[.int .u32 0, .int .u32 0, .int .u32 0, .int .u32 0] 168 (0, 0))) := at_ext (w' := w2) (w := (w.alloc (.cells #[.int .u32 a, .int .u32 b, .int .u32 c, .int .u32 d] 168)).alloc zW) (at_new1 (by simp))
      have Y2 : Ext w w2 := inferInstance
      go_wp2_with
        (first
         | (refine wpList_store_row_o rfl 187 (.tmp 7) (.tmp 40) rfl w2.heap.size (nums .u32 ksL).toArray rfl rfl 187 (nums .u32 (List.replicate 64 0)).toArray (by exact at_new_then _ _) (by kernel_rfl) rfl (one_all _ _) ?_
            intro w3 h31 h32 h33 h34
            have HK3 := Lib.hid h31
            have HS3 : Hid (w3.heap[w2.heap.size + 1]? = some (.cells (nums .i64 (List.replicate 16 0)).toArray 190 (0, 0))) := (h32 _ (by omega)).trans (at_new1 (by simp))
            have X3 : Ext w2 w3 := ⟨h34 _ _ (Ext.out (w := w2)) (Nat.le_refl _)⟩
            clear h31 h32 h33 h34)
         | (refine wpList_store_row_o rfl 190 (.tmp 8) (.tmp 41) rfl (w2.heap.size + 1) (nums .i64 turnsL).toArray rfl rfl 190 (nums .i64 (List.replicate 16 0)).toArray HS3.out (by kernel_rfl) rfl (one_all _ _) ?_
            intro w4 h41 h42 h43 h44
            have HS4 := Lib.hid h41
            have HK4 : Hid (w4.heap[w2.heap.size]? = some (.cells (nums .u32 ksL).toArray 187 (0, 0))) := (h42 _ (by omega)).trans HK3.out
            have X4 : Ext w2 w4 := ⟨h44 _ _ X3.out (by omega)⟩
            have S4 : Step w4 w2 := ⟨X4.out⟩
            clear h41 h42 h43 h44 X3 HK3 HS3))
      have HX4 : Hid (w4.heap[w.heap.size + 1 + 1]? = some (.cells (nums .u32 (ldF bs 64)).toArray 186 (0, 0))) := at_ext HX64.out
      have p0 : w4.cell? ⟨w.heap.size, 0, none⟩ = some (.int .u32 a) := at_cell (at_ext HW0.out) 0
      have p1 : w4.cell? ⟨w.heap.size, 1, none⟩ = some (.int .u32 b) := at_cell (at_ext HW0.out) 1
      have p2 : w4.cell? ⟨w.heap.size, 2, none⟩ = some (.int .u32 c) := at_cell (at_ext HW0.out) 2
      have p3 : w4.cell? ⟨w.heap.size, 3, none⟩ = some (.int .u32 d) := at_cell (at_ext HW0.out) 3
      go_quiet (fail)
      go_wp2
      go_step3
      go_wp2
      go_loopw [9, 10, 11, 12, 13] (fun va vb vc vd i wr => ∃ (k : Nat) (A1 B1 C1 D1 : Int), i = .int .i64 k ∧ k ≤ 64 ∧ va = .int .u32 A1 ∧ vb = .int .u32 B1 ∧ vc = .int .u32 C1 ∧ vd = .int .u32 D1 ∧ Hid (mdRun (ldF bs 64) (a, b, c, d) k = (A1, B1, C1, D1)) ∧ Hid (Ext w4 wr)) (fun _ _ _ _ i _ => 64 - (intOf i).toNat)
      case atStart => exact ⟨0, a, b, c, d, rfl, by omega, rfl, rfl, rfl, rfl, rfl, (inferInstance : Ext w4 (World.drewN _ _))⟩
      case round =>
        obtain ⟨k, A1, B1, C1, D1, rfl, hk, rfl, rfl, rfl, rfl, HM, HE4⟩ := hrel
        have XE4 : Ext w4 wr := HE4.out
        clear p0 p1 p2 p3
        by_cases hlt : k < 64
        · have hk0 : (0 : Int) ≤ (k : Int) := by omega
          have hkI : (k : Int) < 64 := by omega
          have HMS : Hid (mdRun (ldF bs 64) (a, b, c, d) (k + 1) = mdStep (ldF bs 64) k (A1, B1, C1, D1)) := by
            unfold Hid
            rw [mdRun, HM.out]
          have cK : wr.cell? ⟨w2.heap.size, k, none⟩ = some (.int .u32 (ksL.getD k 0)) := by
            rw [at_cell (at_ext HK4.out)]
            simpa using nums_get .u32 ksL k (by show k < 64; omega)
          by_cases hq : k < 16
          · have hqN : k / 16 = 0 := by omega
            have hqI : (k : Int) / 16 = 0 := by omega
            have cX : wr.cell? ⟨w.heap.size + 1 + 1, k % 16, none⟩ = some (.int .u32 ((ldF bs 64).getD (k % 16) 0)) := by
              rw [at_cell (at_ext HX4.out)]
              simpa using nums_get .u32 (ldF bs 64) (k % 16) (by rw [ldF_len]; omega)
            have cS : wr.cell? ⟨w2.heap.size + 1, k % 4, none⟩ = some (.int .i64 (turnsL.getD (k % 4) 0)) := by
              rw [at_cell (at_ext HS4.out)]
              simpa using nums_get .i64 turnsL (k % 4) (by show k % 4 < 16; omega)
            have hn0 := (turns_bd (k % 4)).1
            have hn1 := (turns_bd (k % 4)).2
            have hgg : mdG k = k % 16 := by simp only [mdG, hqN]
            have hss : k / 16 * 4 + k % 4 = k % 4 := by omega
            unfold mdStep at HMS
            rw [hgg, hss, hqN] at HMS
            simp only [mdF, mdU] at HMS
            clear hgg hss hqN
            obtain ⟨kk, hkk⟩ : ∃ x, ksL.getD k 0 = x := ⟨_, rfl⟩
            obtain ⟨xx, hxx⟩ : ∃ x, (ldF bs 64).getD (k % 16) 0 = x := ⟨_, rfl⟩
            obtain ⟨nn, hnn⟩ : ∃ x, turnsL.getD (k % 4) 0 = x := ⟨_, rfl⟩
            rw [hkk] at cK HMS
            rw [hxx] at cX HMS
            rw [hnn] at cS hn0 hn1 HMS
            clear hkk hxx hnn
            have HMT := Lib.hid HMS.out
            clear HMS
            go_wp2
            go_quiet (fail)
            go_wp2
            go_quiet (fail)
            go_wp2
            refine ⟨⟨k + 1, _, _, _, _, by go_num, by omega, rfl, rfl, rfl, rfl, HMT.out, (inferInstance : Ext w4 (World.drewN _ _))⟩, by simp [intOf]; omega⟩
          by_cases hq1 : k < 32
          · have hqN : k / 16 = 1 := by omega
            have hqI : (k : Int) / 16 = 1 := by omega
            have cX : wr.cell? ⟨w.heap.size + 1 + 1, (5 * k + 1) % 16, none⟩ = some (.int .u32 ((ldF bs 64).getD ((5 * k + 1) % 16) 0)) := by
              rw [at_cell (at_ext HX4.out)]
              simpa using nums_get .u32 (ldF bs 64) ((5 * k + 1) % 16) (by rw [ldF_len]; omega)
            have cS : wr.cell? ⟨w2.heap.size + 1, 4 + k % 4, none⟩ = some (.int .i64 (turnsL.getD (4 + k % 4) 0)) := by
              rw [at_cell (at_ext HS4.out)]
              simpa using nums_get .i64 turnsL (4 + k % 4) (by show 4 + k % 4 < 16; omega)
            have hn0 := (turns_bd (4 + k % 4)).1
            have hn1 := (turns_bd (4 + k % 4)).2
            have hgg : mdG k = (5 * k + 1) % 16 := by simp only [mdG, hqN]
            have hss : k / 16 * 4 + k % 4 = 4 + k % 4 := by omega
            unfold mdStep at HMS
            rw [hgg, hss, hqN] at HMS
            simp only [mdF, mdU] at HMS
            clear hgg hss hqN
            obtain ⟨kk, hkk⟩ : ∃ x, ksL.getD k 0 = x := ⟨_, rfl⟩
            obtain ⟨xx, hxx⟩ : ∃ x, (ldF bs 64).getD ((5 * k + 1) % 16) 0 = x := ⟨_, rfl⟩
            obtain ⟨nn, hnn⟩ : ∃ x, turnsL.getD (4 + k % 4) 0 = x := ⟨_, rfl⟩
            rw [hkk] at cK HMS
            rw [hxx] at cX HMS
            rw [hnn] at cS hn0 hn1 HMS
            clear hkk hxx hnn
            have HMT := Lib.hid HMS.out
            clear HMS
            go_wp2
            go_quiet (fail)
            go_wp2
            go_quiet (fail)
            go_wp2
            refine ⟨⟨k + 1, _, _, _, _, by go_num, by omega, rfl, rfl, rfl, rfl, HMT.out, (inferInstance : Ext w4 (World.drewN _ _))⟩, by simp [intOf]; omega⟩
          by_cases hq2 : k < 48
          · have hqN : k / 16 = 2 := by omega
            have hqI : (k : Int) / 16 = 2 := by omega
            have cX : wr.cell? ⟨w.heap.size + 1 + 1, (3 * k + 5) % 16, none⟩ = some (.int .u32 ((ldF bs 64).getD ((3 * k + 5) % 16) 0)) := by
              rw [at_cell (at_ext HX4.out)]
              simpa using nums_get .u32 (ldF bs 64) ((3 * k + 5) % 16) (by rw [ldF_len]; omega)
            have cS : wr.cell? ⟨w2.heap.size + 1, 8 + k % 4, none⟩ = some (.int .i64 (turnsL.getD (8 + k % 4) 0)) := by
              rw [at_cell (at_ext HS4.out)]
              simpa using nums_get .i64 turnsL (8 + k % 4) (by show 8 + k % 4 < 16; omega)
            have hn0 := (turns_bd (8 + k % 4)).1
            have hn1 := (turns_bd (8 + k % 4)).2
            have hgg : mdG k = (3 * k + 5) % 16 := by simp only [mdG, hqN]
            have hss : k / 16 * 4 + k % 4 = 8 + k % 4 := by omega
            unfold mdStep at HMS
            rw [hgg, hss, hqN] at HMS
            simp only [mdF, mdU] at HMS
            clear hgg hss hqN
            obtain ⟨kk, hkk⟩ : ∃ x, ksL.getD k 0 = x := ⟨_, rfl⟩
            obtain ⟨xx, hxx⟩ : ∃ x, (ldF bs 64).getD ((3 * k + 5) % 16) 0 = x := ⟨_, rfl⟩
            obtain ⟨nn, hnn⟩ : ∃ x, turnsL.getD (8 + k % 4) 0 = x := ⟨_, rfl⟩
            rw [hkk] at cK HMS
            rw [hxx] at cX HMS
            rw [hnn] at cS hn0 hn1 HMS
            clear hkk hxx hnn
            have HMT := Lib.hid HMS.out
            clear HMS
            go_wp2
            go_quiet (fail)
            go_wp2
            go_quiet (fail)
            go_wp2
            refine ⟨⟨k + 1, _, _, _, _, by go_num, by omega, rfl, rfl, rfl, rfl, HMT.out, (inferInstance : Ext w4 (World.drewN _ _))⟩, by simp [intOf]; omega⟩
          · have hqN : k / 16 = 3 := by omega
            have hqI : (k : Int) / 16 = 3 := by omega
            have cX : wr.cell? ⟨w.heap.size + 1 + 1, 7 * k % 16, none⟩ = some (.int .u32 ((ldF bs 64).getD (7 * k % 16) 0)) := by
              rw [at_cell (at_ext HX4.out)]
              simpa using nums_get .u32 (ldF bs 64) (7 * k % 16) (by rw [ldF_len]; omega)
            have cS : wr.cell? ⟨w2.heap.size + 1, 12 + k % 4, none⟩ = some (.int .i64 (turnsL.getD (12 + k % 4) 0)) := by
              rw [at_cell (at_ext HS4.out)]
              simpa using nums_get .i64 turnsL (12 + k % 4) (by show 12 + k % 4 < 16; omega)
            have hn0 := (turns_bd (12 + k % 4)).1
            have hn1 := (turns_bd (12 + k % 4)).2
            have hgg : mdG k = 7 * k % 16 := by simp only [mdG, hqN]
            have hss : k / 16 * 4 + k % 4 = 12 + k % 4 := by omega
            unfold mdStep at HMS
            rw [hgg, hss, hqN] at HMS
            simp only [mdF, mdU] at HMS
            clear hgg hss hqN
            obtain ⟨kk, hkk⟩ : ∃ x, ksL.getD k 0 = x := ⟨_, rfl⟩
            obtain ⟨xx, hxx⟩ : ∃ x, (ldF bs 64).getD (7 * k % 16) 0 = x := ⟨_, rfl⟩
            obtain ⟨nn, hnn⟩ : ∃ x, turnsL.getD (12 + k % 4) 0 = x := ⟨_, rfl⟩
            rw [hkk] at cK HMS
            rw [hxx] at cX HMS
            rw [hnn] at cS hn0 hn1 HMS
            clear hkk hxx hnn
            have HMT := Lib.hid HMS.out
            clear HMS
            go_wp2
            go_quiet (fail)
            go_wp2
            go_quiet (fail)
            go_wp2
            refine ⟨⟨k + 1, _, _, _, _, by go_num, by omega, rfl, rfl, rfl, rfl, HMT.out, (inferInstance : Ext w4 (World.drewN _ _))⟩, by simp [intOf]; omega⟩
        · obtain rfl : k = 64 := by omega
          have HW4 := Lib.hid (at_ext (w' := wr) (w := w4) (at_ext HW0.out))
          have HZ4 := Lib.hid (at_ext (w' := wr) (w := w4) (at_ext HW1.out))
          have p0 : wr.cell? ⟨w.heap.size, 0, none⟩ = some (.int .u32 a) := at_cell HW4.out 0
          have p1 : wr.cell? ⟨w.heap.size, 1, none⟩ = some (.int .u32 b) := at_cell HW4.out 1
          have p2 : wr.cell? ⟨w.heap.size, 2, none⟩ = some (.int .u32 c) := at_cell HW4.out 2
          have p3 : wr.cell? ⟨w.heap.size, 3, none⟩ = some (.int .u32 d) := at_cell HW4.out 3
          have q0 : wr.cell? ⟨w.heap.size + 1, 0, none⟩ = some (.int .u32 0) := at_cell HZ4.out 0
          have q1 : wr.cell? ⟨w.heap.size + 1, 1, none⟩ = some (.int .u32 0) := at_cell HZ4.out 1
          have q2 : wr.cell? ⟨w.heap.size + 1, 2, none⟩ = some (.int .u32 0) := at_cell HZ4.out 2
          have q3 : wr.cell? ⟨w.heap.size + 1, 3, none⟩ = some (.int .u32 0) := at_cell HZ4.out 3
          have f0 := at_frozen HZ4.out 0
          have f1 := at_frozen HZ4.out 1
          have f2 := at_frozen HZ4.out 2
          have f3 := at_frozen HZ4.out 3
          have HMB : Hid (mdBlock (a, b, c, d) bs = ((a + A1) % 4294967296, (b + B1) % 4294967296, (c + C1) % 4294967296, (d + D1) % 4294967296)) := by
            unfold Hid mdBlock
            rw [HM.out]
            rfl
          go_wp2
          rw [Exit.noGoto_ret]
          have HR := at_set (at_set (at_set (at_set HZ4.out 0 (.int .u32 ((a + A1) % 4294967296))) 1 (.int .u32 ((b + B1) % 4294967296))) 2 (.int .u32 ((c + C1) % 4294967296))) 3 (.int .u32 ((d + D1) % 4294967296))
          have hd0 := at_cell HR 0
          have hd1 := at_cell HR 1
          have hd2 := at_cell HR 2
          have hd3 := at_cell HR 3
          simp only [List.setIfInBounds_toArray, List.set_cons_zero, List.set_cons_succ, List.getElem?_toArray, List.getElem?_cons_zero, List.getElem?_cons_succ] at hd0 hd1 hd2 hd3
          have Y4 : Ext w w4 := inferInstance
          have YR : Ext w wr := Ext.trans_ Y4 XE4
          exact bodyPost_ret (v := .agg #[.int .u32 ((a + A1) % 4294967296), .int .u32 ((b + B1) % 4294967296), .int .u32 ((c + C1) % 4294967296), .int .u32 ((d + D1) % 4294967296)]) (by simp [results, Try.results110, go_sem, hd0, hd1, hd2, hd3]) rfl (by rw [show WTells (mdBlock (a, b, c, d) bs) w = WTells ((a + A1) % 4294967296, (b + B1) % 4294967296, (c + C1) % 4294967296, (d + D1) % 4294967296) w from by rw [HMB.out]]; exact ⟨rfl, Ext.out⟩)
end Go.Proofs.Ytobddmpiljknpaa

namespace Go.Proofs.Ytobddmpiljknpaa
open Go.RowKit
set_option linter.unusedVariables false

def Tail (w : World) (base : Nat) (v : Value) (n : Nat) (xs : List Value) : Prop :=
  xs.length = n ∧ ((v = .slice none 0 0 ∧ n = 0) ∨ ∃ g off cap, v = .slice (some ⟨g, off, none⟩) n cap ∧ base ≤ g ∧ g < w.heap.size ∧ n ≤ cap ∧ cap ≤ maxLen ∧
    (∀ j u, xs[j]? = some u → w.cell? ⟨g, off + j, none⟩ = some u) ∧ ∀ j, j < cap → (w.cell? ⟨g, off + j, none⟩).isSome = true ∧ w.frozen? ⟨g, off + j, none⟩ = false)
section
variable {w w' : World} {base : Nat} {v : Value} {n : Nat} {xs : List Value}
theorem Tail.nil_ (w : World) (base : Nat) : Tail w base (.slice none 0 0) 0 [] := ⟨rfl, .inl ⟨rfl, rfl⟩⟩
theorem Tail.of_own {e : TypeId} (h : w.ownsRow base e 1 v n xs) : Tail w base v n xs := by
  refine ⟨own_len1 h, ?_⟩
  rcases h.2 with ⟨rfl, rfl⟩ | ⟨g, cap, cur, rfl, hb, hg, hc, hm, hs, ht⟩
  · exact .inl ⟨rfl, rfl⟩
  · refine .inr ⟨g, 0, cap, rfl, hb, at_lt hg, hc, hm, fun j u hu => ?_, fun j hj => ?_⟩
    · rw [Nat.zero_add, h.cellAt j (by have := (List.getElem?_eq_some_iff.1 hu).1; rw [own_len1 h] at this; omega)]
      exact hu
    · rw [Nat.zero_add, at_cell hg j]
      exact ⟨by rw [Array.getElem?_eq_getElem (by omega)]; rfl, at_frozen hg j⟩
theorem Tail.grown {row : Option Nat} (h : Tail w base v n xs) (hg : w.grownBy w' row) (hne : v.ownBlock = none ∨ v.ownBlock ≠ row) : Tail w' base v n xs := by
  refine ⟨h.1, h.2.imp id ?_⟩
  rintro ⟨g, off, cap, rfl, hb, hlt, hc, hm, h1, h2⟩
  have hk : w'.heap[g]? = w.heap[g]? := hg.block g hlt (fun he => by rcases hne with h | h; cases h; exact h he)
  refine ⟨g, off, cap, rfl, hb, Nat.lt_of_lt_of_le hlt hg.size, hc, hm, fun j u hu => ?_, fun j hj => ?_⟩
  · rw [World.cell?_of_block (a := ⟨g, off + j, none⟩) hk]
    exact h1 j u hu
  · rw [World.cell?_of_block (a := ⟨g, off + j, none⟩) hk, World.frozen?_of_block (a := ⟨g, off + j, none⟩) hk]
    exact h2 j hj
theorem Tail.ext [h : Ext w w'] (k : Tail w base v n xs) : Tail w' base v n xs := k.grown (row := none) (grown_of_below h.out none) (by cases v.ownBlock <;> simp)
theorem Tail.weaken {b' : Nat} (h : Tail w base v n xs) (hb : b' ≤ base) : Tail w b' v n xs := ⟨h.1, h.2.imp id fun ⟨g, off, cap, h1, h2, h3⟩ => ⟨g, off, cap, h1, Nat.le_trans hb h2, h3⟩⟩
theorem Tail.slice (h : Tail w base v n xs) : ∃ A c, v = .slice A n c ∧ n ≤ c := by
  rcases h.2 with ⟨rfl, rfl⟩ | ⟨g, off, cap, rfl, _, _, hc, _⟩
  · exact ⟨none, 0, rfl, Nat.le_refl _⟩
  · exact ⟨_, cap, rfl, hc⟩
theorem Tail.cells {A : Option Addr} {m c : Nat} (h : Tail w base (.slice A m c) n xs) : Cells w A xs := by
  intro hn
  rcases h.2 with ⟨hv, rfl⟩ | ⟨g, off, cap, hv, _, _, _, _, h1, _⟩
  · rw [h.1] at hn; omega
  · injection hv with hA _ _
    subst hA
    refine ⟨_, rfl, fun j u hu => ?_⟩
    rw [add_off _ _ rfl]
    exact h1 j u hu
theorem Tail.lt (h : Tail w base v n xs) (k : Nat) (hk : v.ownBlock = some k) : base ≤ k ∧ k < w.heap.size := by
  rcases h.2 with ⟨rfl, _⟩ | ⟨g, off, cap, rfl, hb, hlt, _⟩
  · cases hk
  · injection hk with hk
    subst hk
    exact ⟨hb, hlt⟩
theorem Tail.drop {A : Option Addr} {c : Nat} (h : Tail w base (.slice A n c) n xs) (i : Nat) (hi : i ≤ n) : Tail w base (.slice (if c = i then A else A.map (·.add i)) (n - i) (c - i)) (n - i) (xs.drop i) := by
  refine ⟨by rw [List.length_drop, h.1], ?_⟩
  rcases h.2 with ⟨hv, rfl⟩ | ⟨g, off, cap, hv, hb, hlt, hc, hm, h1, h2⟩
  · injection hv with hA _ hc
    subst hA hc
    obtain rfl : i = 0 := by omega
    exact .inl ⟨rfl, rfl⟩
  · injection hv with hA _ hc'
    subst hA hc'
    by_cases hci : c = i
    · rw [if_pos hci]
      subst hci
      refine .inr ⟨g, off, c - c, rfl, hb, hlt, by omega, by omega, fun j u hu => ?_, fun j hj => by omega⟩
      have := (List.getElem?_eq_some_iff.1 hu).1
      rw [List.length_drop, h.1] at this
      omega
    · rw [if_neg hci]
      refine .inr ⟨g, off + i, c - i, by rw [Option.map_some, add_off _ _ rfl], hb, hlt, by omega, by omega, fun j u hu => ?_, fun j hj => ?_⟩
      · rw [List.getElem?_drop] at hu
        rw [Nat.add_assoc]
        exact h1 _ u hu
      · rw [Nat.add_assoc]
        exact h2 (i + j) (by omega)
end
theorem grown_setCells (b : Nat) : ∀ (vs : List Value) (o : Nat) {w w1 : World} {row : Option Nat}, w.grownBy w1 row → (w.heap.size ≤ b ∨ some b = row) → w.grownBy (w1.setCells b o vs) row
  | [], _, _, _, _, h, _ => h
  | v :: vs, o, _, _, _, h, hp => grown_setCells b vs (o + 1) (grown_setCell (p := ⟨b, o, none⟩) h hp v) hp
section
variable {P : Program} {ops : Array Oper} {rest : List Oper} {o : Oper} {a : Act} {Q : Exit → Act → World → Prop}
theorem run_append_tail (W : World) (base : Nat) (t ty e : TypeId) (z : Value) (bytes : Nat)
    (ht : P.underlying t = some (.slice e)) (hinfo : (P.info? e).map (fun i => (i.zero, i.size, i.bytes)) = some (some z, 1, bytes)) (hz : z.cells.size = 1) (hb0 : 0 < bytes)
    (v : Value) (n : Nat) (cs : List Value) (A : Option Addr) (m c : Nat) (ds : List Value) (hl : ds.length = m) (h1 : ∀ u ∈ ds, u.oneCell' = true)
    (HO : Tail W base v n cs) (HC : Cells W A ds) (hbase : base ≤ W.heap.size) (hk : (n + m) * bytes ≤ 140737488355328) :
    ∃ v1 w1, (Builtin.append_ #[t, t] ty #[v, .slice A m c]).run P W = .ok v1 w1 ∧ Tail w1 base v1 (n + m) (cs ++ ds) ∧ W.grownBy w1 v.ownBlock ∧ (v1.ownBlock = v.ownBlock ∨ ∃ b, v1.ownBlock = some b ∧ W.heap.size ≤ b) := by
  obtain ⟨i0, hi, hzz⟩ := Option.map_eq_some_iff.1 hinfo
  simp only [Prod.mk.injEq] at hzz
  obtain ⟨hz0, hz1, hz2⟩ := hzz
  have hlen : n + m ≤ 140737488355328 := Nat.le_trans (Nat.le_mul_of_pos_right _ hb0) hk
  rcases HO.2 with ⟨rfl, rfl⟩ | ⟨g, off, cap, rfl, hb, hlt, hc, hm, h2, h3⟩
  · obtain rfl : cs = [] := List.eq_nil_of_length_eq_zero HO.1
    obtain ⟨v1, w1, hr, ho, hg, hat⟩ := run_append_cells (P := P) W base t ty e z 1 bytes ht hinfo hz (by decide) hb0 (.slice none 0 0) 0 [] A m c ds (by rw [hl, Nat.mul_one]) h1 (own_nil _ _ _ _) HC hbase hk
    exact ⟨v1, w1, hr, Tail.of_own ho, hg, hat.imp id fun h => ⟨_, h, Nat.le_refl _⟩⟩
  · rcases A with _ | ad
    · have hd : ds = [] := by
        rcases Nat.eq_zero_or_pos ds.length with h0 | h0
        · exact List.eq_nil_of_length_eq_zero h0
        · obtain ⟨ad, h, _⟩ := HC h0
          cases h
      subst hd
      obtain rfl : m = 0 := by simpa using hl.symm
      refine ⟨_, W, ?_, by simpa using HO, grown_refl _ _, .inl rfl⟩
      simp [Builtin.append_, run_underlying ht, sizeOf, typeInfo, hi, Builtin.lenOf, Builtin.firstCells, hc, storeCells]
    · have hcells : ∀ j u, ds[j]? = some u → W.cell? (ad.add j) = some u := by
        intro j u hu
        have hj : j < ds.length := (List.getElem?_eq_some_iff.1 hu).1
        obtain ⟨ad', h, hc⟩ := HC (by omega)
        injection h with h
        subst h
        exact hc j u hu
      by_cases hroom : n + m ≤ cap
      · have hr := run_append_room_cells (P := P) W t ty e i0 ht hi g off n cap ad m c ds (by rw [hl, hz1, Nat.mul_one]) hcells h1 hroom
          (fun j hj => by rw [hz1, Nat.mul_one, Nat.add_assoc]; exact (h3 (n + j) (by omega)).1) (fun j hj => by rw [hz1, Nat.mul_one, Nat.add_assoc]; exact (h3 (n + j) (by omega)).2)
        rw [hz1, Nat.mul_one] at hr
        have hgr : W.grownBy (W.setCells g (off + n) ds) (some g) := grown_setCells g ds _ (grown_refl _ _) (.inr rfl)
        refine ⟨_, _, hr, ⟨by rw [List.length_append, HO.1, hl], .inr ⟨g, off, cap, rfl, hb, Nat.lt_of_lt_of_le hlt hgr.size, hroom, hm, fun j u hu => ?_, fun j hj => ?_⟩⟩, hgr, .inl rfl⟩
        · by_cases hj : j < cs.length
          · rw [List.getElem?_append_left hj] at hu
            rw [World.cell?_setCells_out g _ _ _ _ (fun _ _ => Or.inl (by show off + j < off + n; have := HO.1; omega))]
            exact h2 j u hu
          · rw [List.getElem?_append_right (by omega)] at hu
            have hlt' : j - cs.length < ds.length := (List.getElem?_eq_some_iff.1 hu).1
            have hin := World.cell?_setCells_in g ds (off + n) W (fun j hj => by rw [Nat.add_assoc]; exact (h3 (n + j) (by omega)).1) (j - cs.length) hlt'
            rw [show off + n + (j - cs.length) = off + j by have := HO.1; omega] at hin
            rw [hin, ← hu, List.getElem?_eq_getElem hlt']
        · refine ⟨?_, by rw [World.frozen?_setCells]; exact (h3 j hj).2⟩
          by_cases hin : n ≤ j ∧ j < n + m
          · have h4 := World.cell?_setCells_in g ds (off + n) W (fun j hj => by rw [Nat.add_assoc]; exact (h3 (n + j) (by omega)).1) (j - n) (by omega)
            rw [show off + n + (j - n) = off + j by omega] at h4
            rw [h4]
            rfl
          · rw [World.cell?_setCells_out g _ _ _ _ (fun _ _ => by show off + j < off + n ∨ off + n + ds.length ≤ off + j; omega)]
            exact (h3 j hj).1
      · obtain ⟨v1, w1, hr, ho, hg⟩ := run_append_arg_grows (P := P) W t ty e i0 z 1 bytes ht hi hz0 hz1 hz2 hz (by decide) ⟨g, off, none⟩ n cap cs (by rw [HO.1, Nat.mul_one]) (fun j u hu => by rw [add_off _ _ rfl]; exact h2 j u hu) ad m c ds (by rw [hl, Nat.mul_one]) hcells (by omega) (by simp only [maxLen]; omega) hk
        refine ⟨v1, w1, hr, (Tail.of_own ho).weaken hbase, ⟨hg.os, hg.tape, hg.output, hg.size, fun k hk _ => hg.block k hk (by simp)⟩, .inr ?_⟩
        obtain ⟨g', c', rfl, hb', _⟩ := own_form ho (by omega)
        exact ⟨g', rfl, hb'⟩
/-- 'append(v, xs...)': v a slice of bytes of the call's own, wherever it begins. -/
theorem wp_append_tail {w0 W : World} (base : Nat) (hgd : o.guard = none) (s x : Operand) (t e : TypeId) (z : Value) (bytes : Nat)
    (ho : o.op = .call { callee := .builtin .append, args := #[s, x], argTypes := #[t, t] })
    (ht : P.underlying t = some (.slice e)) (hinfo : (P.info? e).map (fun i => (i.zero, i.size, i.bytes)) = some (some z, 1, bytes)) (hz : z.cells.size = 1) (hb0 : 0 < bytes)
    (v : Value) (n : Nat) (cs : List Value) (A : Option Addr) (m c : Nat) (ds : List Value) (hs : a.eval s = v) (hx : a.eval x = .slice A m c) (hl : ds.length = m) (h1 : ∀ u ∈ ds, u.oneCell' = true)
    (HO : Tail W base v n cs) (HC : Cells W A ds) (HB : Below base w0 W) (hbase : base ≤ W.heap.size) (hk : (n + m) * bytes ≤ 140737488355328)
    (h : ∀ v1 w1, Tail w1 base v1 (n + m) (cs ++ ds) → Below base w0 w1 → W.grownBy w1 v.ownBlock → (v1.ownBlock = v.ownBlock ∨ ∃ b, v1.ownBlock = some b ∧ W.heap.size ≤ b) → wpList P ops Q rest (a.put o.dst v1) w1) :
    wpList P ops Q (o :: rest) a W := by
  obtain ⟨v1, w1, hrun, h2, h3, h4⟩ := run_append_tail (P := P) W base t o.type e z bytes ht hinfo hz hb0 v n cs A m c ds hl h1 HO HC hbase hk
  refine wpList_plain hgd fun K hK => ?_
  unfold Oper.wp execOp
  simp only [ho, resolve, invoke, builtin, Sem.run_bind, Sem.run_pure, Result.andThen_ok, List.map_toArray, List.map_cons, List.map_nil, hs, hx, hrun]
  exact hK _ _ (h v1 w1 h2 (HB.grown h3 hbase (fun k hk => (HO.lt k hk).1)) h3 h4)
end
end Go.Proofs.Ytobddmpiljknpaa

namespace Go.Proofs.Ytobddmpiljknpaa
open Go.RowKit
set_option linter.unusedVariables false
set_option linter.unusedSimpArgs false

abbrev W4 := Int × Int × Int × Int
def wl (s : W4) : List Int := [s.1, s.2.1, s.2.2.1, s.2.2.2]
def byteAt (s : W4) (k : Nat) : Int := (wl s).getD (k / 4) 0 / 2 ^ (8 * (k % 4)) % 256
def toldS (s : W4) : Nat → List Int
  | 0 => List.replicate 16 0
  | k + 1 => (toldS s k).set k (byteAt s k)
theorem toldS_len (s : W4) : ∀ k, (toldS s k).length = 16
  | 0 => by simp [toldS]
  | k + 1 => by rw [toldS, List.length_set]; exact toldS_len s k
abbrev zB16 : Obj := .cells #[.int .u8 0, .int .u8 0, .int .u8 0, .int .u8 0, .int .u8 0, .int .u8 0, .int .u8 0, .int .u8 0, .int .u8 0, .int .u8 0, .int .u8 0, .int .u8 0, .int .u8 0, .int .u8 0, .int .u8 0, .int .u8 0] 47
def WOk (s : W4) : Prop := ∀ j, 0 ≤ (wl s).getD j 0
abbrev cW (s : W4) : Obj := .cells #[.int .u32 s.1, .int .u32 s.2.1, .int .u32 s.2.2.1, .int .u32 s.2.2.2] 168
set_option maxRecDepth 100000 in
set_option maxHeartbeats 4000000 in
theorem bytes4_any (s : W4) (hs : WOk s) (w : World) :
    Calls Try.prog 111 #[.agg #[.int .u32 s.1, .int .u32 s.2.1, .int .u32 s.2.2.1, .int .u32 s.2.2.2]] w fun e w' => e = .returned (.agg (nums .u8 (toldS s 16)).toArray) ∧ Below w.heap.size w w' := by
  have HS := Lib.hid hs
  clear hs
  have HW : Hid ((((w.alloc (cW s)).alloc zB16).alloc zB16).heap[w.heap.size]? = some (cW s)) := at_ext (at_new w _)
  have HZ : Hid ((((w.alloc (cW s)).alloc zB16).alloc zB16).heap[w.heap.size + 1]? = some zB16) := at_ext (w := (w.alloc (cW s)).alloc zB16) (at_new1 (by simp))
  go_enter Try.func111, Try.ntmps111
  go_wp2
  go_loopw [5] (fun i wr => ∃ k : Nat, i = .int .i64 k ∧ k ≤ 16 ∧ Hid (wr.heap[w.heap.size + 1 + 1]? = some (.cells (nums .u8 (toldS s k)).toArray 47 (0, 0))) ∧ Hid (Ext ((w.alloc (cW s)).alloc zB16) wr)) (fun i _ => 16 - (intOf i).toNat)
  case atStart => exact ⟨0, rfl, by omega, at_new1 (by simp), (inferInstance : Ext _ (World.alloc _ _))⟩
  case round =>
    obtain ⟨k, rfl, hk, HR, HE⟩ := hrel
    have XE : Ext ((w.alloc (cW s)).alloc zB16) wr := HE.out
    have YE : Ext w wr := Ext.trans_ inferInstance XE
    have HWr : Hid (wr.heap[w.heap.size]? = some (cW s)) := at_ext (w := (w.alloc (cW s)).alloc zB16) (at_ext (at_new w _))
    by_cases hlt : k < 16
    · have hk0 : (0 : Int) ≤ (k : Int) := by omega
      have hkI : (k : Int) < 16 := by omega
      have cw : wr.cell? ⟨w.heap.size, k / 4, none⟩ = some (.int .u32 ((wl s).getD (k / 4) 0)) := by
        rw [at_cell HWr.out]
        simpa [nums, wl] using nums_get .u32 (wl s) (k / 4) (by show k / 4 < 4; omega)
      have ck : wr.cell? ⟨w.heap.size + 1 + 1, k, none⟩ = some (.int .u8 ((toldS s k).getD k 0)) := by
        rw [at_cell HR.out]
        simpa using nums_get .u8 (toldS s k) k (by rw [toldS_len]; omega)
      have hf := at_frozen HR.out k
      have HT : Hid (toldS s (k + 1) = (toldS s k).set k (byteAt s k)) := rfl
      have hx0 := HS.out (k / 4)
      unfold byteAt at HT
      obtain ⟨x, hx⟩ : ∃ x, (wl s).getD (k / 4) 0 = x := ⟨_, rfl⟩
      rw [hx] at cw HT hx0
      clear hx
      go_wp2
      go_roundw
      case rel =>
        refine ⟨k + 1, by go_num, by omega, ?_, Ext.setg inferInstance _ _ _ (by simp)⟩
        have h1 := at_set HR.out k (.int .u8 (x / 2 ^ (8 * (k % 4)) % 256))
        refine (show (wr.setCell _ _).heap[w.heap.size + 1 + 1]? = _ from ?_)
        rw [h1, HT.out, nums_set]
        simp
      case measure => simp [intOf]; omega
    · obtain rfl : k = 16 := by omega
      have HZr : Hid (wr.heap[w.heap.size + 1]? = some zB16) := at_ext (w := (w.alloc (cW s)).alloc zB16) (at_new1 (by simp))
      have hl := toldS_len s 16
      obtain ⟨ts, hts⟩ : ∃ ts, toldS s 16 = ts := ⟨_, rfl⟩
      rw [hts] at HR hl
      have hi16 : (Try.prog.info? 47).map (·.size) = some (nums .u8 ts).toArray.size := by
        rw [List.size_toArray, nums_length, hl]
        kernel_rfl
      have hz16 : (nums .u8 (List.replicate 16 0)).toArray.size = (nums .u8 ts).toArray.size := by
        rw [List.size_toArray, List.size_toArray, nums_length, nums_length, hl]
        rfl
      have HTS := Lib.hid hts
      have HI16 := Lib.hid hi16
      have HZ16 := Lib.hid hz16
      clear hts hi16 hz16 hl
      go_wp2_with
        (first
         | (refine wpList_load_row rfl 47 (.tmp 3) rfl (w.heap.size + 1 + 1) rfl 47 (nums .u8 ts).toArray (0, 0) _ HR.out Try.underlying47 rfl HI16.out ?_)
         | (refine wpList_store_row rfl 47 (.tmp 2) (.tmp 20) rfl (w.heap.size + 1) (nums .u8 ts).toArray rfl rfl 47 (nums .u8 (List.replicate 16 0)).toArray HZr.out HI16.out HZ16.out (one_all _ _) ?_))
      exact bodyPost_ret (results_cell_row Try.results111 _ _ (w.heap.size + 1) 47 _ (0, 0) _ rfl (setRow_heap _ _ _ _ _ _ HZr.out) Try.underlying47 rfl HI16.out) rfl ⟨by rw [HTS.out], (Ext.setRow_ YE (by simp) _).out⟩
end Go.Proofs.Ytobddmpiljknpaa

namespace Go.Proofs.Ytobddmpiljknpaa
open Go.RowKit
set_option linter.unusedVariables false
set_option linter.unusedSimpArgs false

/-- Of the blocks that stood, those outside S stand as they stood. -/
structure Only (S : Nat → Prop) (w w' : World) : Prop where
  os : w'.os = w.os
  tape : w'.tape = w.tape
  output : w'.output = w.output
  size : w.heap.size ≤ w'.heap.size
  block : ∀ k, k < w.heap.size → ¬ S k → w'.heap[k]? = w.heap[k]?
section
variable {S : Nat → Prop} {w w1 w2 : World}
theorem Only.refl_ (S : Nat → Prop) (w : World) : Only S w w := ⟨rfl, rfl, rfl, Nat.le_refl _, fun _ _ _ => rfl⟩
theorem Only.ext (h : Only S w w1) (k : Ext w1 w2) : Only S w w2 := ⟨k.out.os.trans h.os, k.out.tape.trans h.tape, k.out.output.trans h.output, Nat.le_trans h.size k.out.size, fun i hi hs => (k.out.block i (Nat.lt_of_lt_of_le hi h.size)).trans (h.block i hi hs)⟩
theorem Only.grown {row : Option Nat} (h : Only S w w1) (k : w1.grownBy w2 row) (hr : ∀ b, row = some b → S b ∨ w.heap.size ≤ b) : Only S w w2 :=
  ⟨k.os.trans h.os, k.tape.trans h.tape, k.output.trans h.output, Nat.le_trans h.size k.size, fun i hi hs => (k.block i (Nat.lt_of_lt_of_le hi h.size) (fun he => by rcases hr i he.symm with h' | h'; exact hs h'; omega)).trans (h.block i hi hs)⟩
theorem Only.setCell {p : Addr} (h : Only S w w1) (hp : S p.block ∨ w.heap.size ≤ p.block) (u : Value) : Only S w (w1.setCell p u) :=
  h.grown (row := some p.block) (grown_setCell (grown_refl _ _) (.inr rfl) u) (fun b hb => by injection hb with hb; subst hb; exact hp)
theorem Only.below {B : Nat} (h : Only S w w1) (hS : ∀ k, S k → B ≤ k) (hB : B ≤ w.heap.size) : Below B w w1 := ⟨h.os, h.tape, h.output, h.size, fun k hk => h.block k (Nat.lt_of_lt_of_le hk hB) (fun hs => by have := hS k hs; omega)⟩
end
abbrev cS4 (s : W4) (pv lv : Value) (n : Int) : Obj := .cells #[.int .u32 s.1, .int .u32 s.2.1, .int .u32 s.2.2.1, .int .u32 s.2.2.2, pv, lv, .int .i64 n] 172
def beginW : W4 := (0x67452301, 0xefcdab89, 0x98badcfe, 0x10325476)
def w4cells (s : W4) : List Value := [.int .u32 s.1, .int .u32 s.2.1, .int .u32 s.2.2.1, .int .u32 s.2.2.2]
def flatW (ps : List W4) : List Value := ps.flatMap w4cells
theorem info_w4 : (Try.prog.info? 168).map (fun i => (i.zero, i.size, i.bytes)) = some (some (.agg #[.int .u32 0, .int .u32 0, .int .u32 0, .int .u32 0]), 4, 16) := by kernel_rfl
/-- What a stream holds: its words, the words behind each block, what is left, how many bytes it has taken. -/
structure StreamAt (w : World) (base g : Nat) (s : W4) (ps : List W4) (xs : List Int) (n : Int) (pv lv : Value) : Prop where
  at_ : w.heap[g]? = some (cS4 s pv lv n)
  base_ : base ≤ g
  left : Tail w base lv xs.length (nums .u8 xs)
  past : w.ownsRow base 168 4 pv ps.length (flatW ps)
  apL : lv.ownBlock ≠ some g
  apP : pv.ownBlock ≠ some g
  apLP : ∀ k, lv.ownBlock = some k → pv.ownBlock ≠ some k
/-- The blocks that a stream may write. -/
def StreamS (g : Nat) (pv lv : Value) (k : Nat) : Prop := k = g ∨ pv.ownBlock = some k ∨ lv.ownBlock = some k
def NewTells (w : World) (e : Ending) (w' : World) : Prop := ∃ g, e = .returned (.pointer (some ⟨g, 0, none⟩)) ∧ StreamAt w' w.heap.size g beginW [] [] 0 (.slice none 0 0) (.slice none 0 0) ∧ Below w.heap.size w w'
theorem new4_any (w : World) : Calls Try.prog 84 #[] w (NewTells w) := by
  go_enter Try.func84, Try.ntmps84
  go_wp2_with fail
  refine (begin4_any _).mono ?_
  rintro e w1 ⟨rfl, hb1⟩
  have S1 : Step w1 _ := ⟨hb1⟩
  simp only [nums, beginL, List.map_cons, List.map_nil]
  clear hb1
  go_wp2
  go_ret
  exact ⟨w1.heap.size, rfl, ⟨at_new w1 _, size_ext, Tail.nil_ _ _, own_nil _ _ _ _, by simp [Value.ownBlock], by simp [Value.ownBlock], fun k hk => by cases hk⟩, Ext.out⟩
def mdN (s : W4) (L : List Int) : Nat → W4
  | 0 => s
  | j + 1 => mdBlock (mdN s L j) (L.drop (64 * j))
def mdPast (s : W4) (L : List Int) (j : Nat) : List W4 := (List.range j).map fun i => mdN s L (i + 1)
theorem mdPast_succ (s : W4) (L : List Int) (j : Nat) : mdPast s L (j + 1) = mdPast s L j ++ [mdN s L (j + 1)] := by simp [mdPast, List.range_succ]
/-- How long the rest of a stream is, off the heap. -/
def leftLen (w : World) (g : Nat) : Nat := match w.heap[g]? with
  | some (Obj.cells cs _ _) => (match cs[5]? with
    | some (Value.slice _ n _) => n
    | _ => 0)
  | _ => 0
theorem leftLen_at {w : World} {base g : Nat} {s : W4} {ps : List W4} {xs : List Int} {n : Int} {pv lv : Value} (h : StreamAt w base g s ps xs n pv lv) : leftLen w g = xs.length := by
  obtain ⟨A, c, rfl, _⟩ := h.left.slice
  unfold leftLen
  rw [h.at_]
  rfl
theorem Cells.setOther {w : World} {A : Option Addr} {cs : List Value} {p : Addr} (h : Cells w A cs) (hne : ∀ ad, A = some ad → ad.block ≠ p.block) (u : Value) : Cells (w.setCell p u) A cs :=
  h.grown (row := some p.block) (grown_setCell (grown_refl _ _) (.inr rfl) u) (fun ad ha he => by injection he with he; exact hne ad ha he)
theorem Tail.setOther {w : World} {base n : Nat} {v : Value} {xs : List Value} {p : Addr} (h : Tail w base v n xs) (hne : v.ownBlock ≠ some p.block) (u : Value) : Tail (w.setCell p u) base v n xs :=
  h.grown (row := some p.block) (grown_setCell (grown_refl _ _) (.inr rfl) u) (.inr hne)
section
variable {w w' w1 w3 : World} {base g : Nat} {s : W4} {ps : List W4} {xs : List Int} {n : Int} {pv lv pv3 : Value}
theorem StreamAt.ext [h : Ext w w'] (k : StreamAt w base g s ps xs n pv lv) : StreamAt w' base g s ps xs n pv lv := ⟨at_ext k.at_, k.base_, k.left.ext, own_ext k.past, k.apL, k.apP, k.apLP⟩
theorem StreamAt.words (k : StreamAt w base g s ps xs n pv lv) (t : W4) : StreamAt ((((w.setCell ⟨g, 0, none⟩ (.int .u32 t.1)).setCell ⟨g, 1, none⟩ (.int .u32 t.2.1)).setCell ⟨g, 2, none⟩ (.int .u32 t.2.2.1)).setCell ⟨g, 3, none⟩ (.int .u32 t.2.2.2)) base g t ps xs n pv lv :=
  ⟨at_set (at_set (at_set (at_set k.at_ 0 _) 1 _) 2 _) 3 _, k.base_, (((k.left.setOther k.apL _).setOther k.apL _).setOther k.apL _).setOther k.apL _, own_setCell (own_setCell (own_setCell (own_setCell k.past k.apP _) k.apP _) k.apP _) k.apP _, k.apL, k.apP, k.apLP⟩
theorem StreamAt.push (k : StreamAt w base g s ps xs n pv lv) (X : Ext w w1) (ho3 : w3.ownsRow base 168 4 pv3 (ps.length + 1) (flatW ps ++ w4cells s)) (hg3 : w1.grownBy w3 pv.ownBlock) (hat3 : pv3.ownBlock = pv.ownBlock ∨ ∃ b, pv3.ownBlock = some b ∧ w1.heap.size ≤ b) :
    StreamAt (w3.setCell ⟨g, 4, none⟩ pv3) base g s (ps ++ [s]) xs n pv3 lv := by
  have hlg : g < w1.heap.size := Nat.lt_of_lt_of_le (at_lt k.at_) X.out.size
  have hne : pv3.ownBlock ≠ some g := by
    rcases hat3 with h | ⟨b, h, hb⟩
    · rw [h]; exact k.apP
    · rw [h]
      intro he
      injection he with he
      omega
  have hk3 : w3.heap[g]? = some (cS4 s pv lv n) := (hg3.block g hlg (fun he => k.apP he.symm)).trans (at_ext k.at_)
  refine ⟨at_set hk3 4 _, k.base_, ((k.left.ext (w' := w1)).grown hg3 (by
    rcases hl : lv.ownBlock with _ | b
    · exact .inl rfl
    · exact .inr fun he => k.apLP b hl he.symm)).setOther k.apL _, ?_, k.apL, hne, ?_⟩
  · rw [List.length_append, List.length_singleton, flatW, List.flatMap_append]
    have := own_setCell (p := ⟨g, 4, none⟩) ho3 hne pv3
    simpa [flatW] using this
  · intro b hl hp
    rcases hat3 with h | ⟨b', h, hb'⟩
    · rw [h] at hp
      exact k.apLP b hl hp
    · rw [h] at hp
      injection hp with hp
      have h1 := (k.left.lt b hl).2
      have h2 := X.out.size
      omega
theorem StreamAt.cut {A : Option Addr} {nl c : Nat} (k : StreamAt w base g s ps xs n pv (.slice A nl c)) (hnl : xs.length = nl) (i : Nat) (hi : i ≤ nl) {A' : Option Addr} (hA : (if c = i then A else A.map (·.add i)) = A') : StreamAt (w.setCell ⟨g, 5, none⟩ (.slice A' (nl - i) (c - i))) base g s ps (xs.drop i) n pv (.slice A' (nl - i) (c - i)) := by
  have hb : (Value.slice A' (nl - i) (c - i)).ownBlock = (Value.slice A nl c).ownBlock := by
    rw [← hA]
    split
    · cases A <;> rfl
    · cases A with
      | none => rfl
      | some ad => simp [Value.ownBlock, block_of_add]
  have ht := k.left
  rw [hnl] at ht
  have ht := ht.drop i hi
  rw [hA] at ht
  refine ⟨at_set k.at_ 5 _, k.base_, ?_, own_setCell k.past k.apP _, by rw [hb]; exact k.apL, k.apP, by rw [hb]; exact k.apLP⟩
  rw [List.length_drop, hnl, nums_drop]
  exact ht.setOther (by rw [hb]; exact k.apL) _
end
def WriteTells (g base : Nat) (s : W4) (ps : List W4) (L : List Int) (n : Int) (S : Nat → Prop) (w : World) (e : Ending) (w' : World) : Prop :=
  ∃ pv lv, e = .returned (.int .i64 0) ∧ StreamAt w' base g (mdN s L (L.length / 64)) (ps ++ mdPast s L (L.length / 64)) (L.drop (64 * (L.length / 64))) n pv lv ∧ Only S w w' ∧ ∀ k, StreamS g pv lv k → S k ∨ w.heap.size ≤ k
set_option maxRecDepth 100000 in
set_option maxHeartbeats 8000000 in
theorem write4_any (g base : Nat) (s : W4) (ps : List W4) (xs ys : List Int) (n : Int) (pv lv : Value) (A : Option Addr) (m c : Nat) (w : World) (hm : ys.length = m) (hbx : Byt xs) (hby : Byt ys) (hA : 0 < m → ∀ ad, A = some ad → ad.block ≠ g)
    (hn0 : 0 ≤ n) (hn1 : n + m ≤ 140737488355328) (hlen : xs.length + m ≤ 140737488355328) (hps : ps.length + (xs.length + m) / 64 ≤ 8796093022207) (hs : StreamAt w base g s ps xs n pv lv) (hbw : base ≤ w.heap.size) (hy : Cells w A (nums .u8 ys)) :
    Calls Try.prog 85 #[.pointer (some ⟨g, 0, none⟩), .slice A m c] w (WriteTells g base s ps (xs ++ ys) (n + m) (StreamS g pv lv) w) := by
  have HS := Lib.hid hs
  have Hm := Lib.hid hm
  have HY := Lib.hid hy
  have HA := Lib.hid hA
  have HBL : Hid (Byt (xs ++ ys)) := hbx.append hby
  obtain ⟨a, b, cc, d⟩ := s
  have HAT := Lib.hid hs.at_
  have HG := Lib.hid (at_lt hs.at_)
  obtain ⟨LA, lc, rfl, hlc⟩ := hs.left.slice
  have hn63 : (n : Int) + (m : Int) < 9223372036854775808 := by omega
  have h1 := at_set HAT.out 6 (.int .i64 (n + m))
  have HW1 : Hid ((w.setCell ⟨g, 6, none⟩ (.int .i64 (n + m))).heap[g]? = some (cS4 (a, b, cc, d) pv (.slice LA xs.length lc) (n + m))) := h1
  have HT1 : Hid (Tail (w.setCell ⟨g, 6, none⟩ (.int .i64 (n + m))) base (.slice LA xs.length lc) xs.length (nums .u8 xs)) := hs.left.setOther hs.apL _
  have HY1 : Hid (Cells (w.setCell ⟨g, 6, none⟩ (.int .i64 (n + m))) A (nums .u8 ys)) := by
    rcases Nat.eq_zero_or_pos m with h0 | h0
    · have : ys = [] := List.eq_nil_of_length_eq_zero (by rw [hm, h0])
      rw [this]
      exact Cells.nil_ _ _
    · exact hy.setOther (hA h0) _
  have HB1 : Hid (base ≤ (w.setCell ⟨g, 6, none⟩ (.int .i64 (n + m))).heap.size) := by unfold Hid; rw [World.size_setCell]; exact hbw
  have HON1 : Hid (Only (StreamS g pv (.slice LA xs.length lc)) w (w.setCell ⟨g, 6, none⟩ (.int .i64 (n + m)))) := (Only.refl_ _ _).setCell (p := ⟨g, 6, none⟩) (.inl (.inl rfl)) _
  have c0 : w.cell? ⟨g, 0, none⟩ = some (.int .u32 a) := at_cell HAT.out 0
  have c1 : w.cell? ⟨g, 1, none⟩ = some (.int .u32 b) := at_cell HAT.out 1
  have c2 : w.cell? ⟨g, 2, none⟩ = some (.int .u32 cc) := at_cell HAT.out 2
  have c3 : w.cell? ⟨g, 3, none⟩ = some (.int .u32 d) := at_cell HAT.out 3
  have c4 : w.cell? ⟨g, 4, none⟩ = some pv := at_cell HAT.out 4
  have c5 : w.cell? ⟨g, 5, none⟩ = some (.slice LA xs.length lc) := at_cell HAT.out 5
  have c6 : w.cell? ⟨g, 6, none⟩ = some (.int .i64 n) := at_cell HAT.out 6
  have f0 := at_frozen HAT.out 0
  have f1 := at_frozen HAT.out 1
  have f2 := at_frozen HAT.out 2
  have f3 := at_frozen HAT.out 3
  have f4 := at_frozen HAT.out 4
  have f5 := at_frozen HAT.out 5
  have f6 := at_frozen HAT.out 6
  have d5 : (w.setCell ⟨g, 6, none⟩ (.int .i64 (n + m))).cell? ⟨g, 5, none⟩ = some (.slice LA xs.length lc) := at_cell HW1.out 5
  clear hs hm hbx hby hA hy h1
  go_enter Try.func85, Try.ntmps85
  go_wp2_with
    (at_builtin
     refine wp_append_tail (w0 := w.setCell ⟨g, 6, none⟩ (.int .i64 (n + m))) base rfl (.tmp 20) (.tmp 21) 22 5 (.int .u8 0) 1 rfl Try.underlying22 info_u8 rfl (by decide) (.slice LA xs.length lc) xs.length (nums .u8 xs) A m c (nums .u8 ys) rfl rfl (by rw [nums_length, Hm.out]) (nums_one _ _) HT1.out HY1.out (Below.refl _ _) HB1.out (by omega) ?_
     intro v2 w2 ht2 hb2 hg2 hat2
     rw [← nums_append] at ht2
     obtain ⟨LB, lb, rfl, hlb⟩ := ht2.slice
     have hk2 : w2.heap[g]? = some (cS4 (a, b, cc, d) pv (.slice LA xs.length lc) (n + m)) := (hg2.block g (at_lt HW1.out) (fun he => HS.out.apL he.symm)).trans HW1.out
     have HK2 := Lib.hid hk2
     have HT2 := Lib.hid ht2
     have HON2 := Lib.hid (HON1.out.grown hg2 (fun k hk => .inl (.inr (.inr hk))))
     have HAT2 := Lib.hid hat2
     have HG2 := Lib.hid hg2
     have e5 := at_cell hk2 5
     have k5 := at_frozen hk2 5
     clear hb2 hat2 hg2 ht2 hk2)
  have hLL : (xs ++ ys).length = xs.length + m := by rw [List.length_append, Hm.out]
  obtain ⟨L, hL⟩ : ∃ L, xs ++ ys = L := ⟨_, rfl⟩
  rw [hL] at HBL hLL
  have HL := Lib.hid hL
  have HLL := Lib.hid hLL
  have h5 := at_set HK2.out 5 (.slice LB (xs.length + m) lb)
  have HS5 : Hid (StreamAt (w2.setCell ⟨g, 5, none⟩ (.slice LB (xs.length + m) lb)) base g (a, b, cc, d) ps L (n + m) pv (.slice LB (xs.length + m) lb)) := by
    have hne : (Value.slice LB (xs.length + m) lb).ownBlock ≠ some g := by
      rcases HAT2.out with h | ⟨b', h, hb'⟩
      · rw [h]; exact HS.out.apL
      · rw [h]
        intro he
        injection he with he
        have := at_lt HW1.out
        omega
    have ht := HT2.out
    rw [hL] at ht
    refine ⟨h5, HS.out.base_, ?_, ?_, hne, HS.out.apP, ?_⟩
    · rw [hLL]
      exact ht.setOther hne _
    · exact own_setCell (own_grown (own_setCell HS.out.past HS.out.apP _) HG2.out (by
        rcases hp : pv.ownBlock with _ | k
        · exact .inl rfl
        · exact .inr fun he => HS.out.apLP k he.symm hp)) HS.out.apP _
    · intro k hk hp
      rcases HAT2.out with h | ⟨b', h, hb'⟩
      · rw [h] at hk
        exact HS.out.apLP k hk hp
      · rw [h] at hk
        injection hk with hk
        subst hk
        have := own_lt HS.out.past _ hp
        rw [World.size_setCell] at hb'
        omega
  have HON5 : Hid (Only (StreamS g pv (.slice LA xs.length lc)) w (w2.setCell ⟨g, 5, none⟩ (.slice LB (xs.length + m) lb))) := HON2.out.setCell (p := ⟨g, 5, none⟩) (.inl (.inl rfl)) _
  have HOS5 : Hid (∀ k, StreamS g pv (.slice LB (xs.length + m) lb) k → StreamS g pv (.slice LA xs.length lc) k ∨ w.heap.size ≤ k) := by
    rintro k (h | h | h)
    · exact .inl (.inl h)
    · exact .inl (.inr (.inl h))
    · rcases HAT2.out with h' | ⟨b', h', hb'⟩
      · rw [h'] at h
        exact .inl (.inr (.inr h))
      · rw [h'] at h
        injection h with h
        subst h
        rw [World.size_setCell] at hb'
        exact .inr hb'
  clear c0 c1 c2 c3 c4 c5 c6 f0 f1 f2 f3 f4 f5 f6
  clear d5 e5 k5 h5 hL hLL HK2 HT2 HON2 HAT2 HG2 HW1 HT1 HY1 HB1 HON1 HAT
  go_wp2
  go_loopw [] (fun wr => ∃ (j : Nat) (lv' pv' : Value) (ps' : List W4), 64 * j ≤ L.length ∧ ps'.length = ps.length + j ∧ Hid (ps' = ps ++ mdPast (a, b, cc, d) L j) ∧ Hid (StreamAt wr base g (mdN (a, b, cc, d) L j) ps' (L.drop (64 * j)) (n + m) pv' lv') ∧ Hid (Only (StreamS g pv (.slice LA xs.length lc)) w wr) ∧ Hid (∀ k, StreamS g pv' lv' k → StreamS g pv (.slice LA xs.length lc) k ∨ w.heap.size ≤ k)) (fun wr => leftLen wr g)
  case atStart => exact ⟨0, _, pv, ps, by omega, by omega, (show ps = ps ++ mdPast (a, b, cc, d) L 0 by simp [mdPast]), HS5.out, HON5.out, HOS5.out⟩
  case round =>
    obtain ⟨j, lv', pv', ps', hj, hpl, HP, HST, HON, HOS⟩ := hrel
    have HPL := Lib.hid hpl
    clear hpl
    obtain ⟨B1, nl, hnl⟩ : ∃ (bs : List Int) (nl : Nat), L.drop (64 * j) = bs ∧ bs.length = nl := ⟨_, _, rfl, rfl⟩
    have HDR := Lib.hid hnl.1
    have HNL := Lib.hid hnl.2
    have hnl3 : nl = L.length - 64 * j := by rw [← hnl.2, ← hnl.1, List.length_drop]
    have HNL3 := Lib.hid hnl3
    rw [hnl.1] at HST
    have HBB : Hid (Byt B1) := by unfold Hid; rw [← hnl.1]; exact HBL.out.drop _
    obtain ⟨⟨a1, b1, c1', d1⟩, hq⟩ : ∃ q, mdN (a, b, cc, d) L j = q := ⟨_, rfl⟩
    have HQ := Lib.hid hq
    rw [hq] at HST
    obtain ⟨LC, lcc, rfl, hlcc⟩ := HST.out.left.slice
    have hll := leftLen_at HST.out
    rw [hnl.2] at hlcc hll HST HOS
    have HLEN := Lib.hid hll
    have HAT := Lib.hid HST.out.at_
    have HTL := HST.out.left
    rw [hnl.2] at HTL
    have HTL := Lib.hid HTL
    clear hnl hnl3 hq hll
    have c0 : wr.cell? ⟨g, 0, none⟩ = some (.int .u32 a1) := at_cell HAT.out 0
    have c1 : wr.cell? ⟨g, 1, none⟩ = some (.int .u32 b1) := at_cell HAT.out 1
    have c2 : wr.cell? ⟨g, 2, none⟩ = some (.int .u32 c1') := at_cell HAT.out 2
    have c3 : wr.cell? ⟨g, 3, none⟩ = some (.int .u32 d1) := at_cell HAT.out 3
    have c4 : wr.cell? ⟨g, 4, none⟩ = some pv' := at_cell HAT.out 4
    have c5 : wr.cell? ⟨g, 5, none⟩ = some (.slice LC nl lcc) := at_cell HAT.out 5
    have c6 : wr.cell? ⟨g, 6, none⟩ = some (.int .i64 (n + m)) := at_cell HAT.out 6
    have f0 := at_frozen HAT.out 0
    have f1 := at_frozen HAT.out 1
    have f2 := at_frozen HAT.out 2
    have f3 := at_frozen HAT.out 3
    have f4 := at_frozen HAT.out 4
    have f5 := at_frozen HAT.out 5
    have f6 := at_frozen HAT.out 6
    by_cases hlt : 64 ≤ nl
    · have hltI : (64 : Int) ≤ (nl : Int) := by omega
      have HB4 : Hid ((ps'.length + 1) * 16 ≤ 140737488355328) := by
        have h1 := HPL.out
        have h2 := HLL.out
        have h3 := HNL3.out
        unfold Hid
        omega
      obtain ⟨⟨a2, b2, c2', d2⟩, hq2⟩ : ∃ q, mdBlock (a1, b1, c1', d1) B1 = q := ⟨_, rfl⟩
      have HQ2 := Lib.hid hq2
      obtain ⟨ad, rfl, _⟩ := Tail.cells HTL.out (by rw [nums_length, HNL.out]; omega)
      have HNX : Hid (mdN (a, b, cc, d) L (j + 1) = (a2, b2, c2', d2)) := by
        unfold Hid
        rw [mdN, HQ.out, HDR.out]
        exact hq2
      clear hq2
      go_wp2
      go_region_law
        (refine step_call ?hg Try.func110 (by kernel_rfl) (by kernel_rfl) #[.tmp 35, .tmp 39] #[168, 22] ?ho #[.agg #[.int .u32 a1, .int .u32 b1, .int .u32 c1', .int .u32 d1], .slice (some ad) nl lcc] ?hv (block4_any a1 b1 c1' d1 (some ad) nl lcc B1 ?l1 ?l2 ?l3 ?l4 _ ?x1) ?_
         (case hg => rfl)
         (case ho => rfl)
         (case hv => go_simp)
         (case l1 => exact HNL.out)
         (case l2 => exact hlt)
         (case l3 => exact hlcc)
         (case l4 => exact HBB.out)
         (case x1 => exact (Tail.cells HTL.out).ext)
         rintro e w1 ⟨rfl, hb1⟩
         refine ⟨_, rfl, ?_⟩
         rw [HQ2.out]
         simp only
         have S1 : Step w1 _ := ⟨hb1⟩
         have HK1 := Lib.hid (at_ext (w' := w1) HAT.out)
         have X1 : Ext wr w1 := inferInstance
         have HX1 := Lib.hid X1
         clear c0 c1 c2 c3 c4 c5 c6 f0 f1 f2 f3 f4 f5 f6
         clear hb1
         have c0 : w1.cell? ⟨g, 0, none⟩ = some (.int .u32 a1) := at_cell HK1.out 0
         have c1 : w1.cell? ⟨g, 1, none⟩ = some (.int .u32 b1) := at_cell HK1.out 1
         have c2 : w1.cell? ⟨g, 2, none⟩ = some (.int .u32 c1') := at_cell HK1.out 2
         have c3 : w1.cell? ⟨g, 3, none⟩ = some (.int .u32 d1) := at_cell HK1.out 3
         have c4 : w1.cell? ⟨g, 4, none⟩ = some pv' := at_cell HK1.out 4
         have c5 : w1.cell? ⟨g, 5, none⟩ = some (.slice (some ad) nl lcc) := at_cell HK1.out 5
         have c6 : w1.cell? ⟨g, 6, none⟩ = some (.int .i64 (n + m)) := at_cell HK1.out 6
         have f0 := at_frozen HK1.out 0
         have f1 := at_frozen HK1.out 1
         have f2 := at_frozen HK1.out 2
         have f3 := at_frozen HK1.out 3
         have f4 := at_frozen HK1.out 4
         have f5 := at_frozen HK1.out 5
         have f6 := at_frozen HK1.out 6
         skip)
      all_goals
        clear c0 c1 c2 c3 c4 c5 c6 f0 f1 f2 f3 f4 f5 f6
        obtain ⟨w3, hw3⟩ : ∃ w3, (((w1.setCell ⟨g, 0, none⟩ (.int .u32 a2)).setCell ⟨g, 1, none⟩ (.int .u32 b2)).setCell ⟨g, 2, none⟩ (.int .u32 c2')).setCell ⟨g, 3, none⟩ (.int .u32 d2) = w3 := ⟨_, rfl⟩
        rw [hw3]
        have X1 : Ext wr w1 := HX1.out
        have HST3 := Lib.hid ((HST.out.ext (w' := w1)).words (a2, b2, c2', d2))
        have HON3 : Hid (Only (StreamS g pv (.slice LA xs.length lc)) w w3) := by
          unfold Hid
          rw [← hw3]
          exact ((((HON.out.ext X1).setCell (p := ⟨g, 0, none⟩) (.inl (.inl rfl)) _).setCell (p := ⟨g, 1, none⟩) (.inl (.inl rfl)) _).setCell (p := ⟨g, 2, none⟩) (.inl (.inl rfl)) _).setCell (p := ⟨g, 3, none⟩) (.inl (.inl rfl)) _
        simp only at HST3
        rw [hw3] at HST3
        have HK3 : Hid (w3.heap[g]? = some (cS4 (a2, b2, c2', d2) pv' (.slice (some ad) nl lcc) (n + m))) := HST3.out.at_
        have z3 : w.heap.size ≤ w3.heap.size := HON3.out.size
        clear hw3
        have c0 : w3.cell? ⟨g, 0, none⟩ = some (.int .u32 a2) := at_cell HK3.out 0
        have c1 : w3.cell? ⟨g, 1, none⟩ = some (.int .u32 b2) := at_cell HK3.out 1
        have c2 : w3.cell? ⟨g, 2, none⟩ = some (.int .u32 c2') := at_cell HK3.out 2
        have c3 : w3.cell? ⟨g, 3, none⟩ = some (.int .u32 d2) := at_cell HK3.out 3
        have c4 : w3.cell? ⟨g, 4, none⟩ = some pv' := at_cell HK3.out 4
        have c5 : w3.cell? ⟨g, 5, none⟩ = some (.slice (some ad) nl lcc) := at_cell HK3.out 5
        have c6 : w3.cell? ⟨g, 6, none⟩ = some (.int .i64 (n + m)) := at_cell HK3.out 6
        have f0 := at_frozen HK3.out 0
        have f1 := at_frozen HK3.out 1
        have f2 := at_frozen HK3.out 2
        have f3 := at_frozen HK3.out 3
        have f4 := at_frozen HK3.out 4
        have f5 := at_frozen HK3.out 5
        have f6 := at_frozen HK3.out 6
        have c4a : ∀ o, (w3.alloc o).cell? ⟨g, 4, none⟩ = some pv' := fun o => at_cell (at_ext HK3.out) 4
        go_wp2
        go_region_law
          (refine step_append base rfl (.tmp 47) (.tmp 52) 170 168 (.agg #[.int .u32 0, .int .u32 0, .int .u32 0, .int .u32 0]) 4 16 rfl Try.underlying170 info_w4 rfl (by decide) (by decide) pv' ps'.length (flatW ps') _ 1 1 (w4cells (a2, b2, c2', d2)) rfl rfl rfl ?e1 ?e0 ?e2 ?e3 ?e4 ?_
           (case e1 => intro u hu; simp [w4cells] at hu; rcases hu with rfl | rfl | rfl | rfl <;> rfl)
           (case e0 => exact own_ext (w := w3) HST3.out.past)
           (case e2 => exact cells_box _ _ (by simp) (w4cells (a2, b2, c2', d2)) _)
           (case e3 => simp; omega)
           (case e4 => exact HB4.out)
           intro v4 w4 ho4 hg4 hat4
           obtain ⟨LP, lp, rfl, hlp⟩ := own_slice ho4
           have hk4 : w4.heap[g]? = some (cS4 (a2, b2, c2', d2) pv' (.slice (some ad) nl lcc) (n + m)) := (hg4.block g (at_lt (at_ext HK3.out)) (fun he => HST3.out.apP he.symm)).trans (at_ext HK3.out)
           have HP4 := Lib.hid (StreamAt.push HST3.out (by exact inferInstance) ho4 hg4 (hat4.imp_right fun h => ⟨_, h, Nat.le_refl _⟩))
           have HON4 := Lib.hid ((HON3.out.ext (by exact inferInstance)).grown hg4 (fun k hk => HOS.out k (.inr (.inl hk))))
           have HAT4 := Lib.hid hat4
           clear c0 c1 c2 c3 c4 c5 c6 f0 f1 f2 f3 f4 f5 f6
           clear c4a
           have c4 := at_cell hk4 4
           have f4 := at_frozen hk4 4
           clear hk4 ho4 hg4 hat4
           skip)
        all_goals
          obtain ⟨w5, hw5⟩ : ∃ w5, w4.setCell ⟨g, 4, none⟩ (.slice LP (ps'.length + 1) lp) = w5 := ⟨_, rfl⟩
          rw [hw5]
          have HP5 := HP4
          rw [hw5] at HP5
          have HON5 : Hid (Only (StreamS g pv (.slice LA xs.length lc)) w w5) := by
            unfold Hid
            rw [← hw5]
            exact HON4.out.setCell (p := ⟨g, 4, none⟩) (.inl (.inl rfl)) _
          have HOS5 : Hid (∀ k, StreamS g (.slice LP (ps'.length + 1) lp) (.slice (some ad) nl lcc) k → StreamS g pv (.slice LA xs.length lc) k ∨ w.heap.size ≤ k) := by
            rintro k (h | h | h)
            · exact .inl (.inl h)
            · rcases HAT4.out with h' | h'
              · rw [h'] at h
                exact HOS.out k (.inr (.inl h))
              · rw [h'] at h
                injection h with h
                subst h
                refine .inr ?_
                simp
                omega
            · exact HOS.out k (.inr (.inr h))
          clear hw5 c4 f4
          have c5 : w5.cell? ⟨g, 5, none⟩ = some (.slice (some ad) nl lcc) := at_cell HP5.out.at_ 5
          have f5 := at_frozen HP5.out.at_ 5
          have hdr : L.drop (64 * (j + 1)) = B1.drop 64 := by
            rw [show 64 * (j + 1) = 64 * j + 64 by omega, ← List.drop_drop, HDR.out]
          have HDR2 := Lib.hid hdr
          clear hdr
          by_cases hck : lcc = 64
          · have hn64 : nl = 64 := by omega
            subst hck
            subst hn64
            have HC6 := Lib.hid (StreamAt.cut HP5.out HNL.out 64 (Nat.le_refl _) (A' := some ad) (by rw [if_pos rfl]))
            go_wp2
            refine ⟨⟨j + 1, .slice (some ad) (64 - 64) (64 - 64), .slice LP (ps'.length + 1) lp, ps' ++ [(a2, b2, c2', d2)], ?_, ?_, ?_, ?_, ?_, ?_⟩, ?_⟩
            · have := HNL3.out
              omega
            · rw [List.length_append, HPL.out]
              rfl
            · show _ = _
              rw [HP.out, mdPast_succ, HNX.out, List.append_assoc]
            · rw [HNX.out, HDR2.out]
              exact HC6.out
            · exact HON5.out.setCell (p := ⟨g, 5, none⟩) (.inl (.inl rfl)) _
            · rintro k (h | h | h)
              · exact HOS5.out k (.inl h)
              · exact HOS5.out k (.inr (.inl h))
              · exact HOS5.out k (.inr (.inr (by rw [← h]; first | rfl | simp [Value.ownBlock, block_of_add])))
            · have hl := leftLen_at HC6.out
              rw [List.length_drop, HNL.out] at hl
              rw [HLEN.out]
              refine Nat.lt_of_le_of_lt (Nat.le_of_eq hl) ?_
              omega
          · have hck' : ¬ (lcc : Int) = 64 := by omega
            have hcc1 : 64 ≤ lcc := by omega
            have hcc2 : (64 : Int) ≤ (lcc : Int) := by omega
            have HC6 := Lib.hid (StreamAt.cut HP5.out HNL.out 64 hlt (A' := some (ad.add 64)) (by rw [if_neg hck]; rfl))
            go_wp2
            refine ⟨⟨j + 1, .slice (some (ad.add 64)) (nl - 64) (lcc - 64), .slice LP (ps'.length + 1) lp, ps' ++ [(a2, b2, c2', d2)], ?_, ?_, ?_, ?_, ?_, ?_⟩, ?_⟩
            · have := HNL3.out
              omega
            · rw [List.length_append, HPL.out]
              rfl
            · show _ = _
              rw [HP.out, mdPast_succ, HNX.out, List.append_assoc]
            · rw [HNX.out, HDR2.out]
              exact HC6.out
            · exact HON5.out.setCell (p := ⟨g, 5, none⟩) (.inl (.inl rfl)) _
            · rintro k (h | h | h)
              · exact HOS5.out k (.inl h)
              · exact HOS5.out k (.inr (.inl h))
              · exact HOS5.out k (.inr (.inr (by rw [← h]; first | rfl | simp [Value.ownBlock, block_of_add])))
            · have hl := leftLen_at HC6.out
              rw [List.length_drop, HNL.out] at hl
              rw [HLEN.out]
              refine Nat.lt_of_le_of_lt (Nat.le_of_eq hl) ?_
              omega
    · have hltI : ¬ (64 : Int) ≤ (nl : Int) := by omega
      have hjq : L.length / 64 = j := by have := HNL3.out; omega
      go_wp2
      go_ret
      refine ⟨pv', _, rfl, ?_, HON.out, HOS.out⟩
      rw [HL.out, hjq, HDR.out, HQ.out, ← HP.out]
      exact HST.out
end Go.Proofs.Ytobddmpiljknpaa

namespace Go.Proofs.Ytobddmpiljknpaa
open Go.RowKit
set_option linter.unusedVariables false
set_option linter.unusedSimpArgs false

/-- How many zeros are put behind so many bytes and the 0x80. -/
def padZ (l : Nat) : Nat := (119 - l % 64) % 64
theorem padZ_ok (l : Nat) : (l + 1 + padZ l) % 64 = 56 ∧ padZ l ≤ 63 := by unfold padZ; omega
theorem padZ_no {l k : Nat} (h : k < padZ l) : (l + 1 + k) % 64 ≠ 56 := by unfold padZ at h; omega
def le8 (v : Int) (k : Nat) : List Int := (List.range k).map fun i => v / 2 ^ (8 * i) % 256
theorem le8_succ (v : Int) (k : Nat) : le8 v (k + 1) = le8 v k ++ [v / 2 ^ (8 * k) % 256] := by simp [le8, List.range_succ]
def padL (xs : List Int) (n : Int) : List Int := xs ++ [128] ++ List.replicate (padZ xs.length) 0 ++ le8 (n * 8) 8
theorem padL_len (xs : List Int) (n : Int) : (padL xs n).length = xs.length + 1 + padZ xs.length + 8 := by simp [padL, le8]; omega
theorem padL_mod (xs : List Int) (n : Int) : (padL xs n).length % 64 = 0 := by
  rw [padL_len]
  have := padZ_ok xs.length
  omega
def sumS (s : W4) (xs : List Int) (n : Int) : List Int := toldS (mdN s (padL xs n) ((padL xs n).length / 64)) 16
theorem padL_byt {xs : List Int} {n : Int} (h : Byt xs) : Byt (padL xs n) := by
  unfold padL
  refine Byt.append (Byt.append (Byt.append h (Byt.one (by omega) (by omega))) ?_) ?_
  · intro x hx
    rw [List.eq_of_mem_replicate hx]
    omega
  · intro x hx
    simp only [le8, List.mem_map] at hx
    obtain ⟨i, _, rfl⟩ := hx
    have h0 := Int.emod_nonneg (n * 8 / 2 ^ (8 * i)) (show (256 : Int) ≠ 0 by decide)
    have h1 := Int.emod_lt_of_pos (n * 8 / 2 ^ (8 * i)) (show (0 : Int) < 256 by decide)
    omega
set_option maxRecDepth 100000 in
set_option maxHeartbeats 8000000 in
theorem ssum4_any (g base : Nat) (s : W4) (ps : List W4) (xs : List Int) (n : Int) (pv lv : Value) (w : World) (hbx : Byt xs) (hn0 : 0 ≤ n) (hn1 : n ≤ 140737488355328) (hlen : xs.length ≤ 63) (hs : StreamAt w base g s ps xs n pv lv) (hw : ∀ L j, WOk (mdN s L j)) :
    Calls Try.prog 86 #[.pointer (some ⟨g, 0, none⟩)] w fun e w' => e = .returned (.agg (nums .u8 (sumS s xs n)).toArray) ∧ Below w.heap.size w w' := by
  have HS := Lib.hid hs
  have HBX := Lib.hid hbx
  have HWO := Lib.hid hw
  have HAT := Lib.hid (at_ext (w' := w.alloc zB16) hs.at_)
  obtain ⟨a, b, cc, d⟩ := s
  obtain ⟨LA, lc, rfl, hlc⟩ := hs.left.slice
  have HCL := Lib.hid (Tail.cells hs.left)
  obtain ⟨xl, hxl⟩ : ∃ xl, xs.length = xl := ⟨_, rfl⟩
  have HXL := Lib.hid hxl
  rw [hxl] at hlc hlen HAT HS
  have c5 : (w.alloc zB16).cell? ⟨g, 5, none⟩ = some (.slice LA xl lc) := at_cell HAT.out 5
  clear hs hbx hw hxl
  go_enter Try.func86, Try.ntmps86
  go_wp2_with
    (first
     | (at_builtin
        refine wp_append_cells (w0 := w.alloc zB16) (w.alloc zB16).heap.size rfl (.const (.slice none 0 0)) (.tmp 13) 22 5 (.int .u8 0) 1 1 rfl Try.underlying22 info_u8 rfl (by decide) (by decide) (.slice none 0 0) 0 [] LA xl lc (nums .u8 xs) rfl rfl (by rw [nums_length, HXL.out, Nat.mul_one]) (nums_one _ _) (own_nil _ _ _ _) (by exact HCL.out.ext) (Below.refl _ _) (Nat.le_refl _) (by omega) ?_
        intro v2 w2 ho2 hb2 hg2 hat2
        rw [List.nil_append, Nat.zero_add] at ho2
        obtain ⟨L2, l2, rfl, hl2⟩ := own_slice ho2
        have HO2 := Lib.hid ho2
        have X2 : Ext (w.alloc zB16) w2 := ⟨hb2⟩
        have HX2 := Lib.hid X2
        clear ho2 hb2 hg2 hat2)
     | (at_builtin
        refine wp_append_box (w0 := w.alloc zB16) (w.alloc zB16).heap.size rfl (.tmp 14) (.tmp 15) 22 5 (.int .u8 0) 1 1 1 rfl Try.underlying22 info_u8 rfl (by decide) (by decide) (.slice L2 xl l2) xl (nums .u8 xs) [.int .u8 128] rfl rfl rfl (one_int _ _) HO2.out HX2.out.out size_ext (by omega) ?_
        intro v3 w3 ho3 hb3 hg3 hat3
        obtain ⟨L3, l3, rfl, hl3⟩ := own_slice ho3
        have HO3 := Lib.hid ho3
        have HX3 : Hid (Ext (w.alloc zB16) w3) := ⟨hb3⟩
        clear ho3 hb3 hg3 hat3))
  clear c5
  go_loopw [3] (fun v wr => ∃ (k : Nat) (A : Option Addr) (c : Nat), k ≤ padZ xl ∧ v = .slice A (xl + 1 + k) c ∧ Hid (wr.ownsRow (w.alloc zB16).heap.size 5 1 (.slice A (xl + 1 + k) c) (xl + 1 + k) (nums .u8 (xs ++ [128] ++ List.replicate k 0))) ∧ Hid (Ext (w.alloc zB16) wr)) (fun v _ => match v with | .slice _ n _ => 200 - n | _ => 0)
  case atStart => exact ⟨0, L3, l3, by omega, rfl, (show World.ownsRow _ _ _ _ _ _ _ by simpa [nums] using HO3.out), HX3.out⟩
  case round =>
    obtain ⟨k, A3, c3, hk, rfl, HO, HX⟩ := hrel
    have hpz := padZ_ok xl
    have XR : Ext (w.alloc zB16) wr := HX.out
    by_cases hlt : k < padZ xl
    · have hne := padZ_no hlt
      have hk63 : k ≤ 63 := by omega
      have hneI : (((xl : Int) + 1 + (k : Int)) % 64 != 56) = true := by rw [bne_iff_ne]; omega
      clear hpz hne
      go_wp2_with
        (at_builtin
         refine wp_append_box (w0 := w.alloc zB16) (w.alloc zB16).heap.size rfl (.tmp 21) (.tmp 22) 22 5 (.int .u8 0) 1 1 1 rfl Try.underlying22 info_u8 rfl (by decide) (by decide) (.slice A3 (xl + 1 + k) c3) (xl + 1 + k) (nums .u8 (xs ++ [128] ++ List.replicate k 0)) [.int .u8 0] rfl rfl rfl (one_int _ _) HO.out HX.out.out size_ext (by omega) ?_
         intro v4 w4 ho4 hb4 hg4 hat4
         obtain ⟨L4, l4, rfl, hl4⟩ := own_slice ho4
         have HO4 := Lib.hid ho4
         have HX4 : Hid (Ext (w.alloc zB16) w4) := ⟨hb4⟩
         clear ho4 hb4 hg4 hat4)
      go_roundw
      case rel =>
        refine ⟨k + 1, L4, l4, by omega, rfl, ?_, HX4.out⟩
        show World.ownsRow _ _ _ _ _ _ _
        rw [List.replicate_succ', ← List.append_assoc, nums_append (ys := [0])]
        exact HO4.out
      case measure => show 200 - (xl + 1 + k + 1) < 200 - (xl + 1 + k); omega
    · obtain rfl : k = padZ xl := by omega
      obtain ⟨z, hz⟩ : ∃ z, padZ xl = z := ⟨_, rfl⟩
      have HPZ := Lib.hid hz
      rw [hz] at hpz HO hk
      have heq : (((xl : Int) + 1 + (z : Int)) % 64 != 56) = false := by rw [bne_eq_false_iff_eq]; omega
      have c6 : wr.cell? ⟨g, 6, none⟩ = some (.int .i64 n) := at_cell (at_ext HAT.out) 6
      rw [hz]
      clear hlt hz
      obtain ⟨zs, hzs⟩ : ∃ zs, xs ++ [128] ++ List.replicate z 0 = zs := ⟨_, rfl⟩
      have HZS := Lib.hid hzs
      rw [hzs] at HO
      clear hzs
      go_wp2
      have hzl : zs.length = xl + 1 + z := by rw [← HZS.out]; simp [HXL.out]; try omega
      have HZL := Lib.hid hzl
      clear hzl heq c6 hpz
      have hz63 : z ≤ 63 := by have := padZ_ok xl; have := HPZ.out; omega
      go_loopw [3, 30] (fun v i wr => ∃ (k : Nat) (A : Option Addr) (c : Nat), i = .int .i64 k ∧ k ≤ 8 ∧ v = .slice A (xl + 1 + z + k) c ∧ Hid (wr.ownsRow (w.alloc zB16).heap.size 5 1 (.slice A (xl + 1 + z + k) c) (xl + 1 + z + k) (nums .u8 (zs ++ le8 (n * 8) k))) ∧ Hid (Ext (w.alloc zB16) wr)) (fun _ i _ => 8 - (intOf i).toNat)
      case atStart => exact ⟨0, A3, c3, rfl, by omega, rfl, (show World.ownsRow _ _ _ _ _ _ _ by simpa [le8] using HO.out), HX.out⟩
      case round =>
        obtain ⟨k, A5, c5, rfl, hk8, rfl, HO5, HX5⟩ := hrel
        have XR5 : Ext (w.alloc zB16) wr := HX5.out
        by_cases hlt8 : k < 8
        · have hk0 : (0 : Int) ≤ (k : Int) := by omega
          have hkI : (k : Int) < 8 := by omega
          have hn8 : 0 ≤ n * 8 := by omega
          have hn9 : n * 8 < 18446744073709551616 := by omega
          go_wp2_with
            (at_builtin
             refine wp_append_box (w0 := w.alloc zB16) (w.alloc zB16).heap.size rfl (.tmp 33) (.tmp 39) 22 5 (.int .u8 0) 1 1 1 rfl Try.underlying22 info_u8 rfl (by decide) (by decide) (.slice A5 (xl + 1 + z + k) c5) (xl + 1 + z + k) (nums .u8 (zs ++ le8 (n * 8) k)) [.int .u8 (n * 8 / 2 ^ (8 * k) % 256)] rfl rfl rfl (one_int _ _) HO5.out HX5.out.out size_ext (by omega) ?_
             intro v4 w4 ho4 hb4 hg4 hat4
             obtain ⟨L4, l4, rfl, hl4⟩ := own_slice ho4
             have HO4 := Lib.hid ho4
             have HX4 : Hid (Ext (w.alloc zB16) w4) := ⟨hb4⟩
             clear ho4 hb4 hg4 hat4)
          go_roundw
          case rel =>
            refine ⟨k + 1, L4, l4, by go_num, by omega, rfl, ?_, HX4.out⟩
            show World.ownsRow _ _ _ _ _ _ _
            rw [le8_succ, ← List.append_assoc, nums_append (ys := [_])]
            exact HO4.out
          case measure => simp [intOf]; omega
        · obtain rfl : k = 8 := by omega
          have HPL : Hid (padL xs n = zs ++ le8 (n * 8) 8) := by
            unfold Hid padL
            rw [HXL.out, HPZ.out, HZS.out]
          obtain ⟨P, hP⟩ : ∃ P, padL xs n = P := ⟨_, rfl⟩
          have HPP := Lib.hid hP
          have hpm := padL_mod xs n
          rw [hP] at HPL hpm
          rw [← HPL.out] at HO5
          have hpl : P.length = xl + 1 + z + 8 := by rw [← hP, padL_len, HXL.out, HPZ.out]
          have HPLN := Lib.hid hpl
          have HPM := Lib.hid hpm
          have HW0 := Lib.hid (at_ext (w' := wr) HAT.out)
          have c0 : wr.cell? ⟨g, 0, none⟩ = some (.int .u32 a) := at_cell HW0.out 0
          have c1 : wr.cell? ⟨g, 1, none⟩ = some (.int .u32 b) := at_cell HW0.out 1
          have c2 : wr.cell? ⟨g, 2, none⟩ = some (.int .u32 cc) := at_cell HW0.out 2
          have c3' : wr.cell? ⟨g, 3, none⟩ = some (.int .u32 d) := at_cell HW0.out 3
          clear hP hpm hpl
          have HBP : Hid (Byt P) := by
            unfold Hid
            rw [← HPP.out]
            exact padL_byt HBX.out
          have HCP := Lib.hid (own_cells HO5.out)
          have hc5 : xl + 1 + z + 8 ≤ c5 := by
            obtain ⟨_, _, he, h⟩ := own_slice HO5.out
            injection he with _ _ he
            omega
          rw [← HPLN.out] at hc5
          have hgoalN : xl + 1 + z + 8 = P.length := HPLN.out.symm
          go_wp2
          rw [hgoalN]
          have HNEW := Lib.hid (at_new wr (cW (a, b, cc, d)))
          have HXW : Hid (Ext w wr) := Ext.trans_ inferInstance XR5
          have HZ0 : Hid ((w.alloc zB16).heap[w.heap.size]? = some zB16) := at_new w _
          have HZR := Lib.hid (at_ext (w' := wr) HZ0.out)
          clear c0 c1 c2 c3' hgoalN
          have HBK : Hid (∀ ad, A5 = some ad → ad.block < wr.heap.size) := fun ad ha => own_lt HO5.out ad.block (by rw [ha]; rfl)
          obtain ⟨w9, rfl⟩ : ∃ w9, w9 = wr := ⟨wr, rfl⟩
          go_loopw [3] (fun v wr' => ∃ (j : Nat) (A : Option Addr) (c : Nat), 64 * j ≤ P.length ∧ v = .slice A (P.length - 64 * j) c ∧ P.length - 64 * j ≤ c ∧ Hid (Cells wr' A (nums .u8 (P.drop (64 * j)))) ∧ Hid (∀ ad, A = some ad → ad.block < w9.heap.size) ∧ Hid (wr'.heap[w9.heap.size]? = some (cW (mdN (a, b, cc, d) P j))) ∧ Hid (Ext w9 wr')) (fun v _ => match v with | .slice _ n _ => n | _ => 0)
          case atStart => exact ⟨0, A5, c5, by omega, rfl, hc5, (show Cells _ _ _ by rw [Nat.mul_zero, List.drop_zero]; exact HCP.out.ext), HBK.out, HNEW.out, (inferInstance : Ext w9 (World.alloc _ _))⟩
          case round =>
            obtain ⟨j, A6, c6, hj, rfl, hc6, HC6, HA6, HK6, HX6⟩ := hrel
            have XW9 : Ext w w9 := HXW.out
            have X9 : Ext w9 wr := HX6.out
            have YW : Ext w wr := Ext.trans_ XW9 X9
            obtain ⟨N, hN⟩ : ∃ N, P.length - 64 * j = N := ⟨_, rfl⟩
            rw [hN] at hc6 ⊢
            obtain ⟨bs, hbs⟩ : ∃ bs, P.drop (64 * j) = bs := ⟨_, rfl⟩
            rw [hbs] at HC6
            have hbl : bs.length = N := by rw [← hbs, List.length_drop, hN]
            have hbb : Byt bs := by rw [← hbs]; exact HBP.out.drop _
            have hmod : N % 64 = 0 := by have := HPM.out; omega
            obtain ⟨⟨a1, b1, c1, d1⟩, hq⟩ : ∃ q, mdN (a, b, cc, d) P j = q := ⟨_, rfl⟩
            rw [hq] at HK6
            have c0 : wr.cell? ⟨w9.heap.size, 0, none⟩ = some (.int .u32 a1) := at_cell HK6.out 0
            have c1' : wr.cell? ⟨w9.heap.size, 1, none⟩ = some (.int .u32 b1) := at_cell HK6.out 1
            have c2 : wr.cell? ⟨w9.heap.size, 2, none⟩ = some (.int .u32 c1) := at_cell HK6.out 2
            have c3' : wr.cell? ⟨w9.heap.size, 3, none⟩ = some (.int .u32 d1) := at_cell HK6.out 3
            have z9 : w9.heap.size < wr.heap.size := at_lt HK6.out
            by_cases hpos : 0 < N
            · have h64 : 64 ≤ N := by omega
              have hposI : (0 : Int) < (N : Int) := by omega
              obtain ⟨⟨a2, b2, c2', d2⟩, hq2⟩ : ∃ q, mdBlock (a1, b1, c1, d1) bs = q := ⟨_, rfl⟩
              have HQ2 := Lib.hid hq2
              have HNX : Hid (mdN (a, b, cc, d) P (j + 1) = (a2, b2, c2', d2)) := by
                unfold Hid
                rw [mdN, hq, hbs]
                exact hq2
              have HBL := Lib.hid hbl
              have HBB := Lib.hid hbb
              have HND : Hid (N = P.length - 64 * j) := hN.symm
              have HDR : Hid (P.drop (64 * (j + 1)) = bs.drop 64) := by
                unfold Hid
                rw [show 64 * (j + 1) = 64 * j + 64 by omega, ← List.drop_drop, hbs]
              obtain ⟨ad, rfl, _⟩ := HC6.out (by rw [nums_length, hbl]; exact hpos)
              clear hq hq2 hbl hbb hmod hN hbs
              go_wp2_with fail
              refine (block4_any a1 b1 c1 d1 (some ad) N c6 bs HBL.out h64 hc6 HBB.out _ (by exact HC6.out.ext)).mono ?_
              rintro e w5 ⟨rfl, hb5⟩
              rw [HQ2.out]
              simp only
              have S5 : Step w5 _ := ⟨hb5⟩
              have HK5 := Lib.hid (at_ext (w' := w5) HK6.out)
              clear hb5 c0 c1' c2 c3'
              have c0 : w5.cell? ⟨w9.heap.size, 0, none⟩ = some (.int .u32 a1) := at_cell HK5.out 0
              have c1' : w5.cell? ⟨w9.heap.size, 1, none⟩ = some (.int .u32 b1) := at_cell HK5.out 1
              have c2 : w5.cell? ⟨w9.heap.size, 2, none⟩ = some (.int .u32 c1) := at_cell HK5.out 2
              have c3' : w5.cell? ⟨w9.heap.size, 3, none⟩ = some (.int .u32 d1) := at_cell HK5.out 3
              have f0 := at_frozen HK5.out 0
              have f1 := at_frozen HK5.out 1
              have f2 := at_frozen HK5.out 2
              have f3 := at_frozen HK5.out 3
              have hS6 := at_set (at_set (at_set (at_set HK5.out 0 (.int .u32 a2)) 1 (.int .u32 b2)) 2 (.int .u32 c2')) 3 (.int .u32 d2)
              have HS6 := Lib.hid hS6
              clear hS6
              have X5 : Ext w9 w5 := inferInstance
              by_cases hck : c6 = 64
              · have hN64 : N = 64 := by omega
                subst hck
                subst hN64
                go_wp2
                go_roundw
                case rel =>
                  refine ⟨j + 1, some ad, 64 - 64, by have := HND.out; omega, by have := HND.out; rw [show P.length - 64 * (j + 1) = 64 - 64 by omega], by have := HND.out; omega, ?_, ?_, ?_, Ext.setg (Ext.setg (Ext.setg (Ext.setg X5 _ _ _ (Nat.le_refl _)) _ _ _ (Nat.le_refl _)) _ _ _ (Nat.le_refl _)) _ _ _ (Nat.le_refl _)⟩
                  · show Cells _ _ _
                    rw [HDR.out, List.drop_of_length_le (by rw [HBL.out]; exact Nat.le_refl _)]
                    exact Cells.nil_ _ _
                  · exact HA6.out
                  · show _ = _
                    rw [HNX.out]
                    exact HS6.out
                case measure => exact Nat.zero_lt_succ _
              · have hck' : ¬ (c6 : Int) = 64 := by omega
                have hcc1 : 64 ≤ c6 := by omega
                have hcc2 : (64 : Int) ≤ (c6 : Int) := by omega
                have h64I : (64 : Int) ≤ (N : Int) := by omega
                have HC7 : Hid (Cells wr (some (ad.add 64)) (nums .u8 (bs.drop 64))) := by
                  have h1 := HC6.out.drop (n := N) (c := c6) (size := 1) (by rw [nums_length, HBL.out, Nat.mul_one]) hc6 64 h64
                  rw [if_neg hck, Nat.mul_one, ← nums_drop] at h1
                  exact h1
                have hne : ∀ x, some (ad.add 64) = some x → x.block ≠ w9.heap.size := by
                  intro x hx
                  injection hx with hx
                  rw [← hx, block_of_add]
                  exact Nat.ne_of_lt (HA6.out ad rfl)
                go_wp2
                go_roundw
                case rel =>
                  refine ⟨j + 1, some (ad.add 64), c6 - 64, by have := HND.out; omega, by have := HND.out; rw [show P.length - 64 * (j + 1) = N - 64 by omega]; first | rfl | simp [Addr.add], by have := HND.out; omega, ?_, ?_, ?_, Ext.setg (Ext.setg (Ext.setg (Ext.setg X5 _ _ _ (Nat.le_refl _)) _ _ _ (Nat.le_refl _)) _ _ _ (Nat.le_refl _)) _ _ _ (Nat.le_refl _)⟩
                  · show Cells _ _ _
                    rw [HDR.out]
                    exact (((HC7.out.ext (w' := w5)).setOther hne _).setOther hne _ |>.setOther hne _).setOther hne _
                  · intro x hx
                    injection hx with hx
                    rw [← hx, block_of_add]
                    exact HA6.out ad rfl
                  · show _ = _
                    rw [HNX.out]
                    exact HS6.out
                case measure => show N - 64 < N; omega
            · have hN0 : ¬ (0 : Int) < (N : Int) := by omega
              have hjq : j = P.length / 64 := by omega
              have HSS : Hid (sumS (a, b, cc, d) xs n = toldS (a1, b1, c1, d1) 16) := by
                unfold Hid sumS
                rw [HPP.out, ← hjq, hq]
              have HWK : Hid (WOk (a1, b1, c1, d1)) := by
                unfold Hid
                rw [← hq]
                exact HWO.out P j
              have HZW := Lib.hid (at_ext (w' := wr) HZR.out)
              clear hN hbs hbl hbb hmod hq hjq
              go_wp2_with fail
              refine (bytes4_any (a1, b1, c1, d1) HWK.out _).mono ?_
              rintro e w5 ⟨rfl, hb5⟩
              have S5 : Step w5 _ := ⟨hb5⟩
              have HZ5 := Lib.hid (at_ext (w' := w5) HZW.out)
              have hl := toldS_len (a1, b1, c1, d1) 16
              obtain ⟨ts, hts⟩ : ∃ ts, toldS (a1, b1, c1, d1) 16 = ts := ⟨_, rfl⟩
              rw [hts] at hl HSS ⊢
              have HI16 : Hid ((Try.prog.info? 47).map (·.size) = some (nums .u8 ts).toArray.size) := by
                unfold Hid
                rw [List.size_toArray, nums_length, hl]
                kernel_rfl
              have HZ16 : Hid ((nums .u8 (List.replicate 16 0)).toArray.size = (nums .u8 ts).toArray.size) := by
                unfold Hid
                rw [List.size_toArray, List.size_toArray, nums_length, nums_length, hl]
                rfl
              clear hts hl hb5
              go_wp2_with
                (refine wpList_store_row rfl 47 (.tmp 2) (.tmp 55) rfl w.heap.size (nums .u8 ts).toArray rfl rfl 47 (nums .u8 (List.replicate 16 0)).toArray HZ5.out HI16.out HZ16.out (one_all _ _) ?_)
              exact bodyPost_ret (results_cell_row Try.results86 _ _ w.heap.size 47 _ (0, 0) _ rfl (setRow_heap _ _ _ _ _ _ HZ5.out) Try.underlying47 rfl HI16.out) rfl ⟨by rw [HSS.out], (Ext.setRow_ (inferInstance : Ext w w5) (Nat.le_refl _) _).out⟩
end Go.Proofs.Ytobddmpiljknpaa

namespace Go.Proofs.Ytobddmpiljknpaa
open Go.RowKit
set_option linter.unusedVariables false
set_option linter.unusedSimpArgs false

theorem wok_begin : WOk beginW := by
  intro j
  match j with
  | 0 => decide
  | 1 => decide
  | 2 => decide
  | 3 => decide
  | j + 4 => simp [wl]
theorem wok_block (s : W4) (bs : List Int) : WOk (mdBlock s bs) := by
  have h : ∀ x : Int, 0 ≤ x % 4294967296 := fun x => Int.emod_nonneg _ (by decide)
  intro j
  match j with
  | 0 => exact h _
  | 1 => exact h _
  | 2 => exact h _
  | 3 => exact h _
  | j + 4 => simp [wl]
theorem wok_run {s : W4} (hs : WOk s) (L : List Int) : ∀ j, WOk (mdN s L j)
  | 0 => hs
  | j + 1 => wok_block _ _
/-- The digest of bytes. -/
def digest (ys : List Int) : List Int := sumS (mdN beginW ys (ys.length / 64)) (ys.drop (64 * (ys.length / 64))) ys.length
theorem digest_len (ys : List Int) : (digest ys).length = 16 := toldS_len _ _
end Go.Proofs.Ytobddmpiljknpaa

namespace Go.Proofs.Ytobddmpiljknpaa
open Go.RowKit
set_option linter.unusedVariables false

theorem ldF_ext {as' bs : List Int} (h : ∀ k < 64, as'.getD k 0 = bs.getD k 0) : ∀ k, k ≤ 64 → ldF as' k = ldF bs k
  | 0, _ => rfl
  | k + 1, hk => by rw [ldF, ldF, ldStep, ldStep, ldF_ext h k (by omega), h k (by omega)]
theorem mdBlock_ext {as' bs : List Int} (s : W4) (h : ∀ k < 64, as'.getD k 0 = bs.getD k 0) : mdBlock s as' = mdBlock s bs := by
  unfold mdBlock
  rw [ldF_ext h 64 (Nat.le_refl _)]
/-- What stands behind the whole blocks makes no difference. -/
theorem mdN_append (s : W4) (A B : List Int) : ∀ j, 64 * j ≤ A.length → mdN s (A ++ B) j = mdN s A j
  | 0, _ => rfl
  | j + 1, hj => by
    rw [mdN, mdN, mdN_append s A B j (by omega)]
    refine mdBlock_ext _ fun k hk => ?_
    rw [List.drop_append_of_le_length (by omega)]
    simp only [List.getD_eq_getElem?_getD]
    rw [List.getElem?_append_left (by rw [List.length_drop]; omega)]
/-- Blocks one behind the other. -/
theorem mdN_split (s : W4) (L : List Int) (i : Nat) : ∀ j, mdN s L (i + j) = mdN (mdN s L i) (L.drop (64 * i)) j
  | 0 => rfl
  | j + 1 => by
    rw [← Nat.add_assoc, mdN, mdN, mdN_split s L i j, List.drop_drop, Nat.mul_add]
theorem padL_drop (ys : List Int) (n : Int) (q : Nat) (hq : 64 * q ≤ ys.length) : (padL ys n).drop (64 * q) = padL (ys.drop (64 * q)) n := by
  have hz : padZ (ys.drop (64 * q)).length = padZ ys.length := by
    rw [List.length_drop]
    unfold padZ
    omega
  unfold padL
  rw [hz, List.append_assoc, List.append_assoc, List.drop_append_of_le_length hq, List.append_assoc, List.append_assoc]
/-- The digest, all bytes at once. -/
theorem digest_eq (ys : List Int) : digest ys = toldS (mdN beginW (padL ys ys.length) ((padL ys ys.length).length / 64)) 16 := by
  have hq : 64 * (ys.length / 64) ≤ ys.length := by omega
  have hd := padL_drop ys ys.length _ hq
  have hl : (padL ys ys.length).length / 64 = ys.length / 64 + (padL (ys.drop (64 * (ys.length / 64))) ys.length).length / 64 := by
    rw [← hd, List.length_drop, padL_len]
    omega
  unfold digest sumS
  rw [hl, mdN_split, hd]
  congr 2
  unfold padL
  rw [List.append_assoc, List.append_assoc, mdN_append _ _ _ _ hq]
end Go.Proofs.Ytobddmpiljknpaa

namespace Go.Proofs.Ytobddmpiljknpaa
open Go.RowKit
set_option linter.unusedVariables false
set_option linter.unusedSimpArgs false

theorem mdPast_len (s : W4) (L : List Int) (j : Nat) : (mdPast s L j).length = j := by simp [mdPast]
theorem mdPast_append (s : W4) (A B : List Int) (j : Nat) (hj : 64 * j ≤ A.length) : mdPast s (A ++ B) j = mdPast s A j := by
  unfold mdPast
  refine List.map_congr_left fun i hi => ?_
  rw [List.mem_range] at hi
  exact mdN_append s A B (i + 1) (by omega)
theorem mdPast_split (s : W4) (L : List Int) (i : Nat) : ∀ j, mdPast s L (i + j) = mdPast s L i ++ mdPast (mdN s L i) (L.drop (64 * i)) j
  | 0 => by simp [mdPast]
  | j + 1 => by
    rw [← Nat.add_assoc, mdPast_succ, mdPast_succ, mdPast_split s L i j, List.append_assoc, Nat.add_assoc, mdN_split s L i (j + 1)]
/-- A stream that has taken ys. -/
def StreamOf (w : World) (base g : Nat) (ys : List Int) (pv lv : Value) : Prop :=
  StreamAt w base g (mdN beginW ys (ys.length / 64)) (mdPast beginW ys (ys.length / 64)) (ys.drop (64 * (ys.length / 64))) ys.length pv lv
theorem StreamOf.ext {w w' : World} {base g : Nat} {ys : List Int} {pv lv : Value} [h : Ext w w'] (k : StreamOf w base g ys pv lv) : StreamOf w' base g ys pv lv := StreamAt.ext k
theorem StreamOf.new {w : World} {base g : Nat} (h : StreamAt w base g beginW [] [] 0 (.slice none 0 0) (.slice none 0 0)) : StreamOf w base g [] (.slice none 0 0) (.slice none 0 0) := h
def WroteAll (g base : Nat) (zs : List Int) (S : Nat → Prop) (w : World) (e : Ending) (w' : World) : Prop :=
  ∃ pv lv, e = .returned (.int .i64 0) ∧ StreamOf w' base g zs pv lv ∧ Only S w w' ∧ ∀ k, StreamS g pv lv k → S k ∨ w.heap.size ≤ k
theorem writeAll4_any (g base : Nat) (ys zs : List Int) (pv lv : Value) (A : Option Addr) (m c : Nat) (w : World) (hm : zs.length = m) (hby : Byt ys) (hbz : Byt zs) (hA : 0 < m → ∀ ad, A = some ad → ad.block ≠ g)
    (hlen : ys.length + m ≤ 140737488355328) (hs : StreamOf w base g ys pv lv) (hbw : base ≤ w.heap.size) (hz : Cells w A (nums .u8 zs)) :
    Calls Try.prog 85 #[.pointer (some ⟨g, 0, none⟩), .slice A m c] w (WroteAll g base (ys ++ zs) (StreamS g pv lv) w) := by
  have hq : 64 * (ys.length / 64) ≤ ys.length := by omega
  have hdl : (ys.drop (64 * (ys.length / 64))).length = ys.length - 64 * (ys.length / 64) := List.length_drop
  have hd : (ys ++ zs).drop (64 * (ys.length / 64)) = ys.drop (64 * (ys.length / 64)) ++ zs := List.drop_append_of_le_length hq
  refine (write4_any g base (mdN beginW ys (ys.length / 64)) (mdPast beginW ys (ys.length / 64)) (ys.drop (64 * (ys.length / 64))) zs ys.length pv lv A m c w hm (hby.drop _) hbz hA (by omega) (by omega) (by omega) (by rw [mdPast_len]; omega) hs hbw hz).mono ?_
  rintro e w' ⟨pv', lv', rfl, hst, hon, hos⟩
  refine ⟨pv', lv', rfl, ?_, hon, hos⟩
  have hl : (ys ++ zs).length / 64 = ys.length / 64 + (ys.drop (64 * (ys.length / 64)) ++ zs).length / 64 := by
    rw [List.length_append, List.length_append, hdl]
    omega
  have h1 : mdN beginW (ys ++ zs) ((ys ++ zs).length / 64) = mdN (mdN beginW ys (ys.length / 64)) (ys.drop (64 * (ys.length / 64)) ++ zs) ((ys.drop (64 * (ys.length / 64)) ++ zs).length / 64) := by
    rw [hl, mdN_split, hd, mdN_append _ _ _ _ hq]
  have h2 : mdPast beginW (ys ++ zs) ((ys ++ zs).length / 64) = mdPast beginW ys (ys.length / 64) ++ mdPast (mdN beginW ys (ys.length / 64)) (ys.drop (64 * (ys.length / 64)) ++ zs) ((ys.drop (64 * (ys.length / 64)) ++ zs).length / 64) := by
    rw [hl, mdPast_split, hd, mdN_append _ _ _ _ hq, mdPast_append _ _ _ _ hq]
  have h3 : (ys ++ zs).drop (64 * ((ys ++ zs).length / 64)) = (ys.drop (64 * (ys.length / 64)) ++ zs).drop (64 * ((ys.drop (64 * (ys.length / 64)) ++ zs).length / 64)) := by
    rw [← hd, List.drop_drop, hl]
    congr 1
    rw [hd]
    omega
  have h4 : ((ys ++ zs).length : Int) = (ys.length : Int) + (m : Int) := by rw [List.length_append, hm]; omega
  unfold StreamOf
  rw [h1, h2, h3, h4]
  exact hst
theorem sumAll4_any (g base : Nat) (ys : List Int) (pv lv : Value) (w : World) (hby : Byt ys) (hlen : ys.length ≤ 140737488355328) (hs : StreamOf w base g ys pv lv) :
    Calls Try.prog 86 #[.pointer (some ⟨g, 0, none⟩)] w fun e w' => e = .returned (.agg (nums .u8 (digest ys)).toArray) ∧ Below w.heap.size w w' :=
  ssum4_any g base _ _ _ _ pv lv w (hby.drop _) (by omega) (by omega) (by rw [List.length_drop]; omega) hs (fun L j => wok_run (wok_run wok_begin _ _) _ _)
end Go.Proofs.Ytobddmpiljknpaa

namespace Go.Proofs.Ytobddmpiljknpaa
open Go.RowKit
set_option linter.unusedVariables false
set_option linter.unusedSimpArgs false

set_option maxRecDepth 100000 in
set_option maxHeartbeats 1000000 in
theorem rks4_any (w : World) : Calls Try.prog 122 #[] w fun e w' => ∃ A, e = .returned (.slice A 64 64) ∧ Cells w' A (nums .u32 ksL) ∧ Below w.heap.size w w' := by
  go_enter Try.func122, Try.ntmps122
  go_wp2
  go_ret
  exact ⟨_, rfl, cells_box w w.heap.size rfl (nums .u32 ksL) _, Ext.out⟩
theorem rbegin4_any (w : World) : Calls Try.prog 103 #[] w fun e w' => e = .returned (.agg (nums .u32 beginL).toArray) ∧ Below w.heap.size w w' := by
  go_enter Try.func103, Try.ntmps103
  go_wp2
  exact bodyPost_ret (v := .agg (nums .u32 beginL).toArray) (by simp [results, Try.results103, go_sem, nums, beginL]) rfl ⟨rfl, Ext.out⟩
set_option maxRecDepth 100000 in
theorem rturns4_any (k : Nat) (hk : k < 64) (w : World) : Calls Try.prog 124 #[.int .i64 k] w fun e w' => e = .returned (.int .u64 (turnsL.getD (k / 16 * 4 + k % 4) 0)) ∧ Below w.heap.size w w' := by
  have hk0 : (0 : Int) ≤ (k : Int) := by omega
  have hkI : (k : Int) < 64 := by omega
  have hq : k / 16 * 4 + k % 4 < 16 := by omega
  have hc : (w.alloc (.cells (nums .u64 turnsL).toArray 158)).cell? ⟨w.heap.size, k / 16 * 4 + k % 4, none⟩ = some (.int .u64 (turnsL.getD (k / 16 * 4 + k % 4) 0)) := by
    rw [at_cell (at_new w _)]
    simpa using nums_get .u64 turnsL (k / 16 * 4 + k % 4) (by show _ < 16; omega)
  have HC := Lib.hid hc
  have HT : Hid (∃ x, turnsL.getD (k / 16 * 4 + k % 4) 0 = x) := ⟨_, rfl⟩
  obtain ⟨x, hx⟩ := HT.out
  rw [hx] at HC ⊢
  have hc2 : (w.alloc (.cells #[.int .u64 7, .int .u64 12, .int .u64 17, .int .u64 22, .int .u64 5, .int .u64 9, .int .u64 14, .int .u64 20, .int .u64 4, .int .u64 11, .int .u64 16, .int .u64 23, .int .u64 6, .int .u64 10, .int .u64 15, .int .u64 21] 158)).cell? ⟨w.heap.size, k / 16 * 4 + k % 4, none⟩ = some (.int .u64 x) := HC.out
  clear hc hx
  go_enter Try.func124, Try.ntmps124
  go_wp2
  go_ret
  exact ⟨rfl, Ext.out⟩
def wordF (a b c d : Int) : Int := a + b * 256 + c * 65536 + d * 16777216
set_option maxRecDepth 100000 in
set_option maxHeartbeats 1000000 in
theorem rword4_any (ad : Addr) (n c : Nat) (x0 x1 x2 x3 : Int) (hn : 4 ≤ n) (w : World) (h0 : w.cell? ad = some (.int .u8 x0)) (h1 : w.cell? ⟨ad.block, ad.off + 1, none⟩ = some (.int .u8 x1)) (h2 : w.cell? ⟨ad.block, ad.off + 2, none⟩ = some (.int .u8 x2)) (h3 : w.cell? ⟨ad.block, ad.off + 3, none⟩ = some (.int .u8 x3))
    (b0 : 0 ≤ x0 ∧ x0 < 256) (b1 : 0 ≤ x1 ∧ x1 < 256) (b2 : 0 ≤ x2 ∧ x2 < 256) (b3 : 0 ≤ x3 ∧ x3 < 256) :
    Calls Try.prog 123 #[.slice (some ad) n c] w fun e w' => e = .returned (.int .u32 (wordF x0 x1 x2 x3)) ∧ Below w.heap.size w w' := by
  have hnI : (4 : Int) ≤ (n : Int) := by omega
  have hn0 : 0 < n := by omega
  have hn1 : 1 < n := by omega
  have hn2 : 2 < n := by omega
  have hn3 : 3 < n := by omega
  have hn0I : (0 : Int) < (n : Int) := by omega
  have hn1I : (1 : Int) < (n : Int) := by omega
  have hn2I : (2 : Int) < (n : Int) := by omega
  have hn3I : (3 : Int) < (n : Int) := by omega
  obtain ⟨b00, b01⟩ := b0
  obtain ⟨b10, b11⟩ := b1
  obtain ⟨b20, b21⟩ := b2
  obtain ⟨b30, b31⟩ := b3
  go_enter Try.func123, Try.ntmps123
  go_wp2
  go_quiet (fail)
  go_wp2
  go_ret
  exact ⟨rfl, Ext.out⟩
end Go.Proofs.Ytobddmpiljknpaa

namespace Go.Proofs.Ytobddmpiljknpaa
open Go.RowKit
set_option linter.unusedVariables false
set_option linter.unusedSimpArgs false

def partF (bs : List Int) (j : Nat) : Nat → Int
  | 0 => 0
  | m + 1 => partF bs j m + bs.getD (4 * j + m) 0 * 256 ^ m
theorem partF_bd {bs : List Int} (hb : Byt bs) (j : Nat) : ∀ m, 0 ≤ partF bs j m ∧ partF bs j m < 256 ^ m
  | 0 => by simp [partF]
  | m + 1 => by
    have h := partF_bd hb j m
    have hx := hb.getD (4 * j + m)
    obtain ⟨x, hxe⟩ : ∃ x, bs.getD (4 * j + m) 0 = x := ⟨_, rfl⟩
    obtain ⟨p, hp⟩ : ∃ p : Int, (256 : Int) ^ m = p := ⟨_, rfl⟩
    rw [partF, Int.pow_succ, hxe, hp]
    rw [hxe] at hx
    rw [hp] at h
    have h1 : 0 ≤ x * p := Int.mul_nonneg hx.1 (by omega)
    have h2 : x * p ≤ 255 * p := Int.mul_le_mul_of_nonneg_right (by omega) (by omega)
    omega
theorem u32_wrap (n : Int) (h₀ : 0 ≤ n) (h₁ : n < 2 ^ 32) : IntKind.u32.wrap n = n := by rw [IntKind.wrap_u32']; omega
theorem or_0 {y x : Int} (hy0 : 0 ≤ y) (hy : y < 1) (hx0 : 0 ≤ x) (hx : x < 256) : bits .or .u32 y (x * 1 % 4294967296) = y + x := by
  rw [bits_join_low .u32 32 (by decide) u32_wrap 0 y (x * 1 % 4294967296) hy0 (by omega) (by omega) (by omega) (by omega) (by omega)]
  omega
theorem or_1 {y x : Int} (hy0 : 0 ≤ y) (hy : y < 256) (hx0 : 0 ≤ x) (hx : x < 256) : bits .or .u32 y (x * 256 % 4294967296) = y + x * 256 := by
  rw [bits_join_low .u32 32 (by decide) u32_wrap 8 y (x * 256 % 4294967296) hy0 (by omega) (by omega) (by omega) (by omega) (by omega)]
  omega
theorem or_2 {y x : Int} (hy0 : 0 ≤ y) (hy : y < 65536) (hx0 : 0 ≤ x) (hx : x < 256) : bits .or .u32 y (x * 65536 % 4294967296) = y + x * 65536 := by
  rw [bits_join_low .u32 32 (by decide) u32_wrap 16 y (x * 65536 % 4294967296) hy0 (by omega) (by omega) (by omega) (by omega) (by omega)]
  omega
theorem or_3 {y x : Int} (hy0 : 0 ≤ y) (hy : y < 16777216) (hx0 : 0 ≤ x) (hx : x < 256) : bits .or .u32 y (x * 16777216 % 4294967296) = y + x * 16777216 := by
  rw [bits_join_low .u32 32 (by decide) u32_wrap 24 y (x * 16777216 % 4294967296) hy0 (by omega) (by omega) (by omega) (by omega) (by omega)]
  omega
theorem or_part {y x : Int} {r : Nat} (hr : r < 4) (hy0 : 0 ≤ y) (hy : y < 256 ^ r) (hx0 : 0 ≤ x) (hx : x < 256) : bits .or .u32 y (x * 2 ^ (8 * r) % 4294967296) = y + x * 256 ^ r := by
  have e0 : (2 : Int) ^ (8 * 0) = 1 := by decide
  have e1 : (2 : Int) ^ (8 * 1) = 256 := by decide
  have e2 : (2 : Int) ^ (8 * 2) = 65536 := by decide
  have e3 : (2 : Int) ^ (8 * 3) = 16777216 := by decide
  have f0 : (256 : Int) ^ 0 = 1 := by decide
  have f1 : (256 : Int) ^ 1 = 256 := by decide
  have f2 : (256 : Int) ^ 2 = 65536 := by decide
  have f3 : (256 : Int) ^ 3 = 16777216 := by decide
  have hd : r = 0 ∨ r = 1 ∨ r = 2 ∨ r = 3 := by omega
  rcases hd with h | h | h | h
  · rw [h, f0] at hy
    rw [h, e0, f0, or_0 hy0 hy hx0 hx, Int.mul_one]
  · rw [h, f1] at hy
    rw [h, e1, f1, or_1 hy0 hy hx0 hx]
  · rw [h, f2] at hy
    rw [h, e2, f2, or_2 hy0 hy hx0 hx]
  · rw [h, f3] at hy
    rw [h, e3, f3, or_3 hy0 hy hx0 hx]
theorem ldF_part {bs : List Int} (hb : Byt bs) : ∀ (k : Nat), k ≤ 64 → ∀ j < 16, (ldF bs k).getD j 0 = partF bs j (min 4 (k - 4 * j))
  | 0, _, j, hj => by
    rw [ldF, show min 4 (0 - 4 * j) = 0 by omega, partF]
    rw [List.getD_eq_getElem?_getD, List.getElem?_replicate]
    split <;> rfl
  | k + 1, hk, j, hj => by
    have ih := ldF_part hb k (by omega)
    rw [ldF, ldStep]
    by_cases hjq : j = k / 4
    · subst hjq
      have hold := ih (k / 4) hj
      rw [show min 4 (k - 4 * (k / 4)) = k % 4 by omega] at hold
      rw [show min 4 (k + 1 - 4 * (k / 4)) = k % 4 + 1 by omega, partF, show 4 * (k / 4) + k % 4 = k by omega]
      have hbd := partF_bd hb (k / 4) (k % 4)
      have hx := hb.getD k
      rw [hold, or_part (by omega) hbd.1 hbd.2 hx.1 hx.2]
      rw [List.getD_eq_getElem?_getD, List.getElem?_set_self (by rw [ldF_len]; exact hj)]
      rfl
    · have hu : (((ldF bs k).set (k / 4) (bits .or .u32 ((ldF bs k).getD (k / 4) 0) (bs.getD k 0 * 2 ^ (8 * (k % 4)) % 4294967296))).getD j 0) = (ldF bs k).getD j 0 := by
        simp only [List.getD_eq_getElem?_getD]
        rw [List.getElem?_set_ne (by omega)]
      rw [hu, ih j hj]
      congr 1
      omega
/-- The sixteen words. -/
theorem ldF_word {bs : List Int} (hb : Byt bs) {j : Nat} (hj : j < 16) : (ldF bs 64).getD j 0 = wordF (bs.getD (4 * j) 0) (bs.getD (4 * j + 1) 0) (bs.getD (4 * j + 2) 0) (bs.getD (4 * j + 3) 0) := by
  rw [ldF_part hb 64 (by omega) j hj, show min 4 (64 - 4 * j) = 4 by omega]
  simp only [partF, wordF, Nat.add_zero]
  simp only [show (256 : Int) ^ 0 = 1 by decide, show (256 : Int) ^ 1 = 256 by decide, show (256 : Int) ^ 2 = 65536 by decide, show (256 : Int) ^ 3 = 16777216 by decide]
  omega
end Go.Proofs.Ytobddmpiljknpaa

namespace Go.Proofs.Ytobddmpiljknpaa
open Go.RowKit
set_option linter.unusedVariables false
set_option linter.unusedSimpArgs false

abbrev cV (s : Int × Int × Int × Int) : Obj := .cells #[.int .u32 s.1, .int .u32 s.2.1, .int .u32 s.2.2.1, .int .u32 s.2.2.2] 161
theorem u32_max : IntKind.u32.max = 4294967295 := by decide
theorem mdG_lt (k : Nat) : mdG k < 16 := by
  unfold mdG
  split <;> omega
theorem rb_cell {w w' : World} [h : Ext w w'] {xd : Addr} {bs : List Int} {n j : Nat} (hc : ∀ i u, (nums .u8 bs)[i]? = some u → w.cell? (xd.add i) = some u) (hn : bs.length = n) (hj : j < n) : w'.cell? (xd.add j) = some (.int .u8 (bs.getD j 0)) :=
  cell_ext (hc j _ (nums_get _ _ _ (by omega)))
theorem rb_cell1 {w w' : World} [h : Ext w w'] {xd : Addr} {bs : List Int} {n j i : Nat} (hc : ∀ i u, (nums .u8 bs)[i]? = some u → w.cell? (xd.add i) = some u) (hn : bs.length = n) (hj : j + i < n ∧ 0 < i) : w'.cell? ⟨(xd.add j).block, (xd.add j).off + i, none⟩ = some (.int .u8 (bs.getD (j + i) 0)) := by
  have h1 := rb_cell (w' := w') hc hn hj.1
  rw [← add_of_add] at h1
  have : (xd.add j).add i = ⟨(xd.add j).block, (xd.add j).off + i, none⟩ := by unfold Addr.add; rw [if_neg (by omega)]
  rw [this] at h1
  exact h1
set_option maxRecDepth 100000 in
set_option maxHeartbeats 4000000 in
theorem rblock4_any (a b c d : Int) (A : Option Addr) (n cc : Nat) (bs : List Int) (hn : bs.length = n) (h64 : 64 ≤ n) (hnc : n ≤ cc) (hb : Byt bs) (w : World) (hx : Cells w A (nums .u8 bs)) :
    Calls Try.prog 104 #[.agg #[.int .u32 a, .int .u32 b, .int .u32 c, .int .u32 d], .slice A n cc] w (WTells (mdBlock (a, b, c, d) bs) w) := by
  have Hn := Lib.hid hn
  have HB := Lib.hid hb
  have HX := Lib.hid hx
  have h64I : (64 : Int) ≤ (cc : Int) := by omega
  have HX2 : Hid (((w.alloc (cV (a, b, c, d))).alloc (cV (0, 0, 0, 0))).heap[w.heap.size]? = some (cV (a, b, c, d))) := at_ext (at_new w _)
  have HX3 : Hid (((w.alloc (cV (a, b, c, d))).alloc (cV (0, 0, 0, 0))).heap[w.heap.size + 1]? = some (cV (0, 0, 0, 0))) := at_new1 (by simp)
  clear hn hb hx
  go_enter Try.func104, Try.ntmps104
  go_wp2_with fail
  refine (rks4_any _).mono ?_
  rintro e w1 ⟨KA, rfl, hk1, hb1⟩
  have S1 : Step w1 _ := ⟨hb1⟩
  obtain ⟨kd, rfl, _⟩ := hk1 (by decide)
  have HK1 := Lib.hid hk1
  have HV1 : Hid (w1.heap[w.heap.size]? = some (cV (a, b, c, d))) := at_ext (w := (w.alloc (cV (a, b, c, d))).alloc (cV (0, 0, 0, 0))) HX2.out
  have HZ1 : Hid (w1.heap[w.heap.size + 1]? = some (cV (0, 0, 0, 0))) := at_ext (w := (w.alloc (cV (a, b, c, d))).alloc (cV (0, 0, 0, 0))) HX3.out
  have Y1 : Ext w w1 := inferInstance
  have p0 : w1.cell? ⟨w.heap.size, 0, none⟩ = some (.int .u32 a) := at_cell HV1.out 0
  have p1 : w1.cell? ⟨w.heap.size, 1, none⟩ = some (.int .u32 b) := at_cell HV1.out 1
  have p2 : w1.cell? ⟨w.heap.size, 2, none⟩ = some (.int .u32 c) := at_cell HV1.out 2
  have p3 : w1.cell? ⟨w.heap.size, 3, none⟩ = some (.int .u32 d) := at_cell HV1.out 3
  clear hk1 hb1
  go_wp2
  clear p0 p1 p2 p3
  go_loopw [7] (fun i wr => ∃ (k : Nat), i = .int .i64 k ∧ k ≤ 64 ∧ Hid (wr.heap[w1.heap.size]? = some (cV (mdRun (ldF bs 64) (a, b, c, d) k))) ∧ Hid (Ext w1 wr)) (fun i _ => 64 - (intOf i).toNat)
  case atStart => exact ⟨0, rfl, by omega, at_new w1 _, (inferInstance : Ext w1 (World.alloc _ _))⟩
  case round =>
    obtain ⟨k, rfl, hk, HM, HE⟩ := hrel
    have XE : Ext w1 wr := HE.out
    have YE : Ext w wr := Ext.trans_ Y1 XE
    by_cases hlt : k < 64
    · have hk0 : (0 : Int) ≤ (k : Int) := by omega
      have hkI : (k : Int) < 64 := by omega
      obtain ⟨⟨A1, B1, C1, D1⟩, hq⟩ : ∃ q, mdRun (ldF bs 64) (a, b, c, d) k = q := ⟨_, rfl⟩
      have HQ := Lib.hid hq
      rw [hq] at HM
      clear hq
      have v0 : wr.cell? ⟨w1.heap.size, 0, none⟩ = some (.int .u32 A1) := at_cell HM.out 0
      have v1 : wr.cell? ⟨w1.heap.size, 1, none⟩ = some (.int .u32 B1) := at_cell HM.out 1
      have v2 : wr.cell? ⟨w1.heap.size, 2, none⟩ = some (.int .u32 C1) := at_cell HM.out 2
      have v3 : wr.cell? ⟨w1.heap.size, 3, none⟩ = some (.int .u32 D1) := at_cell HM.out 3
      have cK : wr.cell? (kd.add k) = some (.int .u32 (ksL.getD k 0)) := by
        obtain ⟨kd', he, hc⟩ := (HK1.out.ext (w' := wr)).num (i := k) (by show k < 64; omega)
        injection he with he
        subst he
        exact hc
      obtain ⟨kk, hkk⟩ : ∃ x, ksL.getD k 0 = x := ⟨_, rfl⟩
      have HKK := Lib.hid hkk
      rw [hkk] at cK
      clear hkk
      by_cases hq : k < 16
      · have hqN : k / 16 = 0 := by omega
        have hqI : (k : Int) / 16 = 0 := by omega
        have HQN := Lib.hid hqN
        have HGK : Hid (mdG k = k) := by unfold Hid; simp only [mdG, hqN]; omega
        clear hqN
        obtain ⟨xd, rfl, hxc⟩ := HX.out (by rw [nums_length, Hn.out]; omega)
        have HXC := Lib.hid hxc
        clear hxc
        have hg16 : k < 16 := by omega
        have w1' : IntKind.i64.wrap (4 * (k : Int)) = 4 * (k : Int) := by rw [IntKind.wrap_i64]; omega
        have w2' : IntKind.i64.wrap (4 * (k : Int) + 4) = 4 * (k : Int) + 4 := by rw [IntKind.wrap_i64]; omega
        have g0 : (0 : Int) ≤ 4 * (k : Int) := by omega
        have g1 : 4 * (k : Int) ≤ 4 * (k : Int) + 4 := by omega
        have g2 : 4 * (k : Int) + 4 ≤ (cc : Int) := by omega
        have g3 : (4 * (k : Int)).toNat = 4 * k := by omega
        have g4 : (4 * (k : Int) + 4).toNat = 4 * k + 4 := by omega
        have g5 : ¬ cc = 4 * k := by omega
        have g6 : 4 * k + 4 - 4 * k = 4 := by omega
        go_wp2
        refine wp_region_held_drew (S := fun W => Ext wr W) (by kernel_rfl) (by exact inferInstance) (fun hHeld => ?_)
        refine wpAnyH_take (i := 0) (v := ?_) rfl (by kernel_rfl) (by kernel_rfl) (by kernel_rfl) (fun _ _ _ h => h) (Yields.yieldsIf (Or.inl ⟨by rfl, ?_⟩)) hHeld ?_
        rotate_left
        · intro W
          go_simp
          try with_reducible rfl
        simp only [List.getElem_toArray, List.getElem_cons_succ, List.getElem_cons_zero, Act.put, List.setIfInBounds_toArray, List.set_cons_zero, List.set_cons_succ]
        refine wpAnyH_take (i := 1) (v := ?_) rfl (by kernel_rfl) (by kernel_rfl) (by kernel_rfl) (fun _ _ _ h => h) (Or.inl ⟨by rfl, ?_⟩) hHeld ?_
        rotate_left
        · intro W hW
          have hcl := (cell_ext (h := hW) v0)
          go_simp
          try with_reducible rfl
        simp only [List.getElem_toArray, List.getElem_cons_succ, List.getElem_cons_zero, Act.put, List.setIfInBounds_toArray, List.set_cons_zero, List.set_cons_succ]
        refine wpAnyH_take (i := 2) (v := ?_) rfl (by kernel_rfl) (by kernel_rfl) (by kernel_rfl) (fun _ _ _ h => h) (Yields.yieldsIf (Or.inl ⟨by rfl, ?_⟩)) hHeld ?_
        rotate_left
        · intro W
          go_simp
          try with_reducible rfl
        simp only [List.getElem_toArray, List.getElem_cons_succ, List.getElem_cons_zero, Act.put, List.setIfInBounds_toArray, List.set_cons_zero, List.set_cons_succ]
        refine wpAnyH_take (i := 3) (v := ?_) rfl (by kernel_rfl) (by kernel_rfl) (by kernel_rfl) (fun _ _ _ h => h) (Yields.yieldsIf (Or.inl ⟨by rfl, ?_⟩)) hHeld ?_
        rotate_left
        · intro W
          go_simp
          try with_reducible rfl
        simp only [List.getElem_toArray, List.getElem_cons_succ, List.getElem_cons_zero, Act.put, List.setIfInBounds_toArray, List.set_cons_zero, List.set_cons_succ]
        refine wpAnyH_take (i := 4) (v := ?_) rfl (by kernel_rfl) (by kernel_rfl) (by kernel_rfl) (fun _ _ _ h => h) (Yields.yieldsIf (Or.inl ⟨by rfl, ?_⟩)) hHeld ?_
        rotate_left
        · intro W
          go_simp
          try with_reducible rfl
        simp only [List.getElem_toArray, List.getElem_cons_succ, List.getElem_cons_zero, Act.put, List.setIfInBounds_toArray, List.set_cons_zero, List.set_cons_succ]
        refine wpAnyH_take (i := 5) (v := ?_) rfl (by kernel_rfl) (by kernel_rfl) (by kernel_rfl) (fun _ _ _ h => h) (Yields.yieldsIf (Or.inl ⟨by rfl, ?_⟩)) hHeld ?_
        rotate_left
        · intro W
          go_simp
          try with_reducible rfl
        simp only [List.getElem_toArray, List.getElem_cons_succ, List.getElem_cons_zero, Act.put, List.setIfInBounds_toArray, List.set_cons_zero, List.set_cons_succ]
        refine wpAnyH_take (i := 6) (v := ?_) rfl (by kernel_rfl) (by kernel_rfl) (by kernel_rfl) (fun _ _ _ h => h) (Yields.yieldsIf (Or.inl ⟨by rfl, ?_⟩)) hHeld ?_
        rotate_left
        · intro W
          go_simp
          try with_reducible rfl
        simp only [List.getElem_toArray, List.getElem_cons_succ, List.getElem_cons_zero, Act.put, List.setIfInBounds_toArray, List.set_cons_zero, List.set_cons_succ]
        refine wpAnyH_take (i := 7) (v := ?_) rfl (by kernel_rfl) (by kernel_rfl) (by kernel_rfl) (fun _ _ _ h => h) (Or.inl ⟨by rfl, ?_⟩) hHeld ?_
        rotate_left
        · intro W hW
          have hcl := (cell_ext (h := hW) cK)
          go_simp
          try with_reducible rfl
        simp only [List.getElem_toArray, List.getElem_cons_succ, List.getElem_cons_zero, Act.put, List.setIfInBounds_toArray, List.set_cons_zero, List.set_cons_succ]
        refine wpAnyH_take (i := 8) (v := ?_) rfl (by kernel_rfl) (by kernel_rfl) (by kernel_rfl) (fun _ _ _ h => h) (Yields.yieldsIf (Or.inl ⟨by rfl, ?_⟩)) hHeld ?_
        rotate_left
        · intro W
          go_simp
          try with_reducible rfl
        simp only [List.getElem_toArray, List.getElem_cons_succ, List.getElem_cons_zero, Act.put, List.setIfInBounds_toArray, List.set_cons_zero, List.set_cons_succ]
        refine wpAnyH_take (i := 9) (v := ?_) rfl (by kernel_rfl) (by kernel_rfl) (by kernel_rfl) (fun _ _ _ h => h) (Yields.yieldsIf (Or.inl ⟨by rfl, ?_⟩)) hHeld ?_
        rotate_left
        · intro W
          go_simp
          try with_reducible rfl
        simp only [List.getElem_toArray, List.getElem_cons_succ, List.getElem_cons_zero, Act.put, List.setIfInBounds_toArray, List.set_cons_zero, List.set_cons_succ]
        refine wpAnyH_take (i := 10) (v := ?_) rfl (by kernel_rfl) (by kernel_rfl) (by kernel_rfl) (fun _ _ _ h => h) (Yields.yieldsIf (Or.inl ⟨by rfl, ?_⟩)) hHeld ?_
        rotate_left
        · intro W
          go_simp
          try with_reducible rfl
        simp only [List.getElem_toArray, List.getElem_cons_succ, List.getElem_cons_zero, Act.put, List.setIfInBounds_toArray, List.set_cons_zero, List.set_cons_succ]
        refine wpAnyH_take (i := 11) (v := ?_) rfl (by kernel_rfl) (by kernel_rfl) (by kernel_rfl) (fun _ _ _ h => h) (Yields.yieldsIf (Or.inl ⟨by rfl, ?_⟩)) hHeld ?_
        rotate_left
        · intro W
          go_simp
          try with_reducible rfl
        simp only [List.getElem_toArray, List.getElem_cons_succ, List.getElem_cons_zero, Act.put, List.setIfInBounds_toArray, List.set_cons_zero, List.set_cons_succ]
        refine wpAnyH_take (i := 12) (v := ?_) rfl (by kernel_rfl) (by kernel_rfl) (by kernel_rfl) (fun _ _ _ h => h) (Yields.yieldsIf (Or.inl ⟨by rfl, ?_⟩)) hHeld ?_
        rotate_left
        · intro W
          go_simp
          try with_reducible rfl
        simp only [List.getElem_toArray, List.getElem_cons_succ, List.getElem_cons_zero, Act.put, List.setIfInBounds_toArray, List.set_cons_zero, List.set_cons_succ]
        refine wpAnyH_take (i := 13) (v := ?_) rfl (by kernel_rfl) (by kernel_rfl) (by kernel_rfl) (fun _ _ _ h => h) (Yields.yieldsIf (Or.inl ⟨by rfl, ?_⟩)) hHeld ?_
        rotate_left
        · intro W
          go_simp
          try with_reducible rfl
        simp only [List.getElem_toArray, List.getElem_cons_succ, List.getElem_cons_zero, Act.put, List.setIfInBounds_toArray, List.set_cons_zero, List.set_cons_succ]
        refine wpAnyH_take (i := 14) (v := ?_) rfl (by kernel_rfl) (by kernel_rfl) (by kernel_rfl) (fun _ _ _ h => h) (Yields.yieldsIf (Or.inl ⟨by rfl, ?_⟩)) hHeld ?_
        rotate_left
        · intro W
          go_simp
          try with_reducible rfl
        simp only [List.getElem_toArray, List.getElem_cons_succ, List.getElem_cons_zero, Act.put, List.setIfInBounds_toArray, List.set_cons_zero, List.set_cons_succ]
        refine wpAnyH_take (i := 15) (v := ?_) rfl (by kernel_rfl) (by kernel_rfl) (by kernel_rfl) (fun _ _ _ h => h) (Yields.yieldsIf (Or.inl ⟨by rfl, ?_⟩)) hHeld ?_
        rotate_left
        · intro W
          go_simp
          try with_reducible rfl
        simp only [List.getElem_toArray, List.getElem_cons_succ, List.getElem_cons_zero, Act.put, List.setIfInBounds_toArray, List.set_cons_zero, List.set_cons_succ]
        refine wpAnyH_ready (rs := [16]) (by kernel_rfl) (by simp) ?_
        refine AllReadyH.cons rfl (fun K hK => ?_) AllReadyH.nil
        refine step_call_w (by rfl) Try.func123 (by kernel_rfl) (by kernel_rfl) #[.tmp 94] #[22] rfl #[.slice (some (xd.add (4 * k))) 4 (cc - 4 * k)] ?hv (rword4_any (xd.add (4 * k)) 4 (cc - 4 * k) (bs.getD (4 * k) 0) (bs.getD (4 * k + 1) 0) (bs.getD (4 * k + 2) 0) (bs.getD (4 * k + 3) 0) (by omega) _ (rb_cell HXC.out Hn.out (by omega)) (rb_cell1 HXC.out Hn.out (by omega)) (rb_cell1 HXC.out Hn.out (by omega)) (rb_cell1 HXC.out Hn.out (by omega)) (HB.out.getD _) (HB.out.getD _) (HB.out.getD _) (HB.out.getD _)) ?_
        case hv => go_simp
        rintro e w2 ⟨rfl, hb2⟩
        refine ⟨_, rfl, ?_⟩
        rw [← ldF_word HB.out hg16]
        obtain ⟨xx, hxx⟩ : ∃ x, (ldF bs 64).getD k 0 = x := ⟨_, rfl⟩
        have HXX := Lib.hid hxx
        rw [hxx]
        clear hxx
        have S2 : Step w2 _ := ⟨hb2⟩
        have HM2 := Lib.hid (at_ext (w' := w2) HM.out)
        clear hb2 v0 v1 v2 v3 hHeld
        refine hK.out _ _ (by exact inferInstance) (fun hHeld => ?_)
        clear hK K
        simp only [List.getElem_toArray, List.getElem_cons_succ, List.getElem_cons_zero, Act.put, List.setIfInBounds_toArray, List.set_cons_zero, List.set_cons_succ]
        refine wpAnyH_take (i := 17) (v := ?_) rfl (by kernel_rfl) (by kernel_rfl) (by kernel_rfl) (fun _ _ _ h => h) (Yields.yieldsIf (Or.inl ⟨by rfl, ?_⟩)) hHeld ?_
        rotate_left
        · intro W
          go_simp
          try with_reducible rfl
        simp only [List.getElem_toArray, List.getElem_cons_succ, List.getElem_cons_zero, Act.put, List.setIfInBounds_toArray, List.set_cons_zero, List.set_cons_succ]
        refine wpAnyH_take (i := 18) (v := ?_) rfl (by kernel_rfl) (by kernel_rfl) (by kernel_rfl) (fun _ _ _ h => h) (Yields.yieldsIf (Or.inl ⟨by rfl, ?_⟩)) hHeld ?_
        rotate_left
        · intro W
          go_simp
          try with_reducible rfl
        simp only [List.getElem_toArray, List.getElem_cons_succ, List.getElem_cons_zero, Act.put, List.setIfInBounds_toArray, List.set_cons_zero, List.set_cons_succ]
        refine wpAnyH_done (by kernel_rfl) ?_ _
        clear hHeld
        go_wp2_with fail
        refine (rturns4_any k hlt _).mono ?_
        rintro e w3 ⟨rfl, hb3⟩
        have S3 : Step w3 _ := ⟨hb3⟩
        have HM3 := Lib.hid (at_ext (w' := w3) HM2.out)
        have t0 := (turns_bd (k / 16 * 4 + k % 4)).1
        have t1 := (turns_bd (k / 16 * 4 + k % 4)).2
        obtain ⟨nn, hnn⟩ : ∃ x, turnsL.getD (k / 16 * 4 + k % 4) 0 = x := ⟨_, rfl⟩
        have HNN := Lib.hid hnn
        rw [hnn] at t0 t1 ⊢
        clear hnn hb3
        have v0 : w3.cell? ⟨w1.heap.size, 0, none⟩ = some (.int .u32 A1) := at_cell HM3.out 0
        have v1 : w3.cell? ⟨w1.heap.size, 1, none⟩ = some (.int .u32 B1) := at_cell HM3.out 1
        have v2 : w3.cell? ⟨w1.heap.size, 2, none⟩ = some (.int .u32 C1) := at_cell HM3.out 2
        have v3 : w3.cell? ⟨w1.heap.size, 3, none⟩ = some (.int .u32 D1) := at_cell HM3.out 3
        have f0 := at_frozen HM3.out 0
        have f1 := at_frozen HM3.out 1
        have f2 := at_frozen HM3.out 2
        have f3 := at_frozen HM3.out 3
        go_wp2
        refine ⟨⟨k + 1, by go_num, by omega, ?_, Ext.setg (Ext.setg (Ext.setg (Ext.setg (inferInstance : Ext w1 w3) _ _ _ (Nat.le_refl _)) _ _ _ (Nat.le_refl _)) _ _ _ (Nat.le_refl _)) _ _ _ (Nat.le_refl _)⟩, by simp [intOf]; omega⟩
        show _ = _
        rw [mdRun, HQ.out]
        unfold mdStep
        rw [HGK.out, HNN.out, HQN.out, HKK.out, HXX.out]
        simp only [mdF, mdU, u32_max]
        exact at_set (at_set (at_set (at_set HM3.out 0 _) 1 _) 2 _) 3 _
      by_cases hq1 : k < 32
      · skip
        have hqI : (k : Int) / 16 = 1 := by omega
        have HQN : Hid (k / 16 = 1) := by unfold Hid; omega
        obtain ⟨gg, hgg⟩ : ∃ gg, (5 * k + 1) % 16 = gg := ⟨_, rfl⟩
        have hgl : gg < 16 := by omega
        have hgI : (5 * (k : Int) + 1) % 16 = (gg : Int) := by omega
        have HGK : Hid (mdG k = gg) := by unfold Hid; have := HQN.out; simp only [mdG, this]; exact hgg
        clear hgg
        obtain ⟨xd, rfl, hxc⟩ := HX.out (by rw [nums_length, Hn.out]; omega)
        have HXC := Lib.hid hxc
        clear hxc
        have hg16 : gg < 16 := by omega
        have w1' : IntKind.i64.wrap (4 * (gg : Int)) = 4 * (gg : Int) := by rw [IntKind.wrap_i64]; omega
        have w2' : IntKind.i64.wrap (4 * (gg : Int) + 4) = 4 * (gg : Int) + 4 := by rw [IntKind.wrap_i64]; omega
        have g0 : (0 : Int) ≤ 4 * (gg : Int) := by omega
        have g1 : 4 * (gg : Int) ≤ 4 * (gg : Int) + 4 := by omega
        have g2 : 4 * (gg : Int) + 4 ≤ (cc : Int) := by omega
        have g3 : (4 * (gg : Int)).toNat = 4 * gg := by omega
        have g4 : (4 * (gg : Int) + 4).toNat = 4 * gg + 4 := by omega
        have g5 : ¬ cc = 4 * gg := by omega
        have g6 : 4 * gg + 4 - 4 * gg = 4 := by omega
        go_wp2
        refine wp_region_held_drew (S := fun W => Ext wr W) (by kernel_rfl) (by exact inferInstance) (fun hHeld => ?_)
        refine wpAnyH_take (i := 0) (v := ?_) rfl (by kernel_rfl) (by kernel_rfl) (by kernel_rfl) (fun _ _ _ h => h) (Yields.yieldsIf (Or.inl ⟨by rfl, ?_⟩)) hHeld ?_
        rotate_left
        · intro W
          go_simp
          try with_reducible rfl
        simp only [List.getElem_toArray, List.getElem_cons_succ, List.getElem_cons_zero, Act.put, List.setIfInBounds_toArray, List.set_cons_zero, List.set_cons_succ]
        refine wpAnyH_take (i := 1) (v := ?_) rfl (by kernel_rfl) (by kernel_rfl) (by kernel_rfl) (fun _ _ _ h => h) (Or.inl ⟨by rfl, ?_⟩) hHeld ?_
        rotate_left
        · intro W hW
          have hcl := (cell_ext (h := hW) v0)
          go_simp
          try with_reducible rfl
        simp only [List.getElem_toArray, List.getElem_cons_succ, List.getElem_cons_zero, Act.put, List.setIfInBounds_toArray, List.set_cons_zero, List.set_cons_succ]
        refine wpAnyH_take (i := 2) (v := ?_) rfl (by kernel_rfl) (by kernel_rfl) (by kernel_rfl) (fun _ _ _ h => h) (Yields.yieldsIf (Or.inl ⟨by rfl, ?_⟩)) hHeld ?_
        rotate_left
        · intro W
          go_simp
          try with_reducible rfl
        simp only [List.getElem_toArray, List.getElem_cons_succ, List.getElem_cons_zero, Act.put, List.setIfInBounds_toArray, List.set_cons_zero, List.set_cons_succ]
        refine wpAnyH_take (i := 3) (v := ?_) rfl (by kernel_rfl) (by kernel_rfl) (by kernel_rfl) (fun _ _ _ h => h) (Yields.yieldsIf (Or.inl ⟨by rfl, ?_⟩)) hHeld ?_
        rotate_left
        · intro W
          go_simp
          try with_reducible rfl
        simp only [List.getElem_toArray, List.getElem_cons_succ, List.getElem_cons_zero, Act.put, List.setIfInBounds_toArray, List.set_cons_zero, List.set_cons_succ]
        refine wpAnyH_take (i := 4) (v := ?_) rfl (by kernel_rfl) (by kernel_rfl) (by kernel_rfl) (fun _ _ _ h => h) (Yields.yieldsIf (Or.inl ⟨by rfl, ?_⟩)) hHeld ?_
        rotate_left
        · intro W
          go_simp
          try with_reducible rfl
        simp only [List.getElem_toArray, List.getElem_cons_succ, List.getElem_cons_zero, Act.put, List.setIfInBounds_toArray, List.set_cons_zero, List.set_cons_succ]
        refine wpAnyH_take (i := 5) (v := ?_) rfl (by kernel_rfl) (by kernel_rfl) (by kernel_rfl) (fun _ _ _ h => h) (Yields.yieldsIf (Or.inl ⟨by rfl, ?_⟩)) hHeld ?_
        rotate_left
        · intro W
          go_simp
          try with_reducible rfl
        simp only [List.getElem_toArray, List.getElem_cons_succ, List.getElem_cons_zero, Act.put, List.setIfInBounds_toArray, List.set_cons_zero, List.set_cons_succ]
        refine wpAnyH_take (i := 6) (v := ?_) rfl (by kernel_rfl) (by kernel_rfl) (by kernel_rfl) (fun _ _ _ h => h) (Yields.yieldsIf (Or.inl ⟨by rfl, ?_⟩)) hHeld ?_
        rotate_left
        · intro W
          go_simp
          try with_reducible rfl
        simp only [List.getElem_toArray, List.getElem_cons_succ, List.getElem_cons_zero, Act.put, List.setIfInBounds_toArray, List.set_cons_zero, List.set_cons_succ]
        refine wpAnyH_take (i := 7) (v := ?_) rfl (by kernel_rfl) (by kernel_rfl) (by kernel_rfl) (fun _ _ _ h => h) (Or.inl ⟨by rfl, ?_⟩) hHeld ?_
        rotate_left
        · intro W hW
          have hcl := (cell_ext (h := hW) cK)
          go_simp
          try with_reducible rfl
        simp only [List.getElem_toArray, List.getElem_cons_succ, List.getElem_cons_zero, Act.put, List.setIfInBounds_toArray, List.set_cons_zero, List.set_cons_succ]
        refine wpAnyH_take (i := 8) (v := ?_) rfl (by kernel_rfl) (by kernel_rfl) (by kernel_rfl) (fun _ _ _ h => h) (Yields.yieldsIf (Or.inl ⟨by rfl, ?_⟩)) hHeld ?_
        rotate_left
        · intro W
          go_simp
          try with_reducible rfl
        simp only [List.getElem_toArray, List.getElem_cons_succ, List.getElem_cons_zero, Act.put, List.setIfInBounds_toArray, List.set_cons_zero, List.set_cons_succ]
        refine wpAnyH_take (i := 9) (v := ?_) rfl (by kernel_rfl) (by kernel_rfl) (by kernel_rfl) (fun _ _ _ h => h) (Yields.yieldsIf (Or.inl ⟨by rfl, ?_⟩)) hHeld ?_
        rotate_left
        · intro W
          go_simp
          try with_reducible rfl
        simp only [List.getElem_toArray, List.getElem_cons_succ, List.getElem_cons_zero, Act.put, List.setIfInBounds_toArray, List.set_cons_zero, List.set_cons_succ]
        refine wpAnyH_take (i := 10) (v := ?_) rfl (by kernel_rfl) (by kernel_rfl) (by kernel_rfl) (fun _ _ _ h => h) (Yields.yieldsIf (Or.inl ⟨by rfl, ?_⟩)) hHeld ?_
        rotate_left
        · intro W
          go_simp
          try with_reducible rfl
        simp only [List.getElem_toArray, List.getElem_cons_succ, List.getElem_cons_zero, Act.put, List.setIfInBounds_toArray, List.set_cons_zero, List.set_cons_succ]
        refine wpAnyH_take (i := 11) (v := ?_) rfl (by kernel_rfl) (by kernel_rfl) (by kernel_rfl) (fun _ _ _ h => h) (Yields.yieldsIf (Or.inl ⟨by rfl, ?_⟩)) hHeld ?_
        rotate_left
        · intro W
          go_simp
          try with_reducible rfl
        simp only [List.getElem_toArray, List.getElem_cons_succ, List.getElem_cons_zero, Act.put, List.setIfInBounds_toArray, List.set_cons_zero, List.set_cons_succ]
        refine wpAnyH_take (i := 12) (v := ?_) rfl (by kernel_rfl) (by kernel_rfl) (by kernel_rfl) (fun _ _ _ h => h) (Yields.yieldsIf (Or.inl ⟨by rfl, ?_⟩)) hHeld ?_
        rotate_left
        · intro W
          go_simp
          try with_reducible rfl
        simp only [List.getElem_toArray, List.getElem_cons_succ, List.getElem_cons_zero, Act.put, List.setIfInBounds_toArray, List.set_cons_zero, List.set_cons_succ]
        refine wpAnyH_take (i := 13) (v := ?_) rfl (by kernel_rfl) (by kernel_rfl) (by kernel_rfl) (fun _ _ _ h => h) (Yields.yieldsIf (Or.inl ⟨by rfl, ?_⟩)) hHeld ?_
        rotate_left
        · intro W
          go_simp
          try with_reducible rfl
        simp only [List.getElem_toArray, List.getElem_cons_succ, List.getElem_cons_zero, Act.put, List.setIfInBounds_toArray, List.set_cons_zero, List.set_cons_succ]
        refine wpAnyH_take (i := 14) (v := ?_) rfl (by kernel_rfl) (by kernel_rfl) (by kernel_rfl) (fun _ _ _ h => h) (Yields.yieldsIf (Or.inl ⟨by rfl, ?_⟩)) hHeld ?_
        rotate_left
        · intro W
          go_simp
          try with_reducible rfl
        simp only [List.getElem_toArray, List.getElem_cons_succ, List.getElem_cons_zero, Act.put, List.setIfInBounds_toArray, List.set_cons_zero, List.set_cons_succ]
        refine wpAnyH_take (i := 15) (v := ?_) rfl (by kernel_rfl) (by kernel_rfl) (by kernel_rfl) (fun _ _ _ h => h) (Yields.yieldsIf (Or.inl ⟨by rfl, ?_⟩)) hHeld ?_
        rotate_left
        · intro W
          go_simp
          try with_reducible rfl
        simp only [List.getElem_toArray, List.getElem_cons_succ, List.getElem_cons_zero, Act.put, List.setIfInBounds_toArray, List.set_cons_zero, List.set_cons_succ]
        refine wpAnyH_ready (rs := [16]) (by kernel_rfl) (by simp) ?_
        refine AllReadyH.cons rfl (fun K hK => ?_) AllReadyH.nil
        refine step_call_w (by rfl) Try.func123 (by kernel_rfl) (by kernel_rfl) #[.tmp 94] #[22] rfl #[.slice (some (xd.add (4 * gg))) 4 (cc - 4 * gg)] ?hv (rword4_any (xd.add (4 * gg)) 4 (cc - 4 * gg) (bs.getD (4 * gg) 0) (bs.getD (4 * gg + 1) 0) (bs.getD (4 * gg + 2) 0) (bs.getD (4 * gg + 3) 0) (by omega) _ (rb_cell HXC.out Hn.out (by omega)) (rb_cell1 HXC.out Hn.out (by omega)) (rb_cell1 HXC.out Hn.out (by omega)) (rb_cell1 HXC.out Hn.out (by omega)) (HB.out.getD _) (HB.out.getD _) (HB.out.getD _) (HB.out.getD _)) ?_
        case hv => go_simp
        rintro e w2 ⟨rfl, hb2⟩
        refine ⟨_, rfl, ?_⟩
        rw [← ldF_word HB.out hg16]
        obtain ⟨xx, hxx⟩ : ∃ x, (ldF bs 64).getD gg 0 = x := ⟨_, rfl⟩
        have HXX := Lib.hid hxx
        rw [hxx]
        clear hxx
        have S2 : Step w2 _ := ⟨hb2⟩
        have HM2 := Lib.hid (at_ext (w' := w2) HM.out)
        clear hb2 v0 v1 v2 v3 hHeld
        refine hK.out _ _ (by exact inferInstance) (fun hHeld => ?_)
        clear hK K
        simp only [List.getElem_toArray, List.getElem_cons_succ, List.getElem_cons_zero, Act.put, List.setIfInBounds_toArray, List.set_cons_zero, List.set_cons_succ]
        refine wpAnyH_take (i := 17) (v := ?_) rfl (by kernel_rfl) (by kernel_rfl) (by kernel_rfl) (fun _ _ _ h => h) (Yields.yieldsIf (Or.inl ⟨by rfl, ?_⟩)) hHeld ?_
        rotate_left
        · intro W
          go_simp
          try with_reducible rfl
        simp only [List.getElem_toArray, List.getElem_cons_succ, List.getElem_cons_zero, Act.put, List.setIfInBounds_toArray, List.set_cons_zero, List.set_cons_succ]
        refine wpAnyH_take (i := 18) (v := ?_) rfl (by kernel_rfl) (by kernel_rfl) (by kernel_rfl) (fun _ _ _ h => h) (Yields.yieldsIf (Or.inl ⟨by rfl, ?_⟩)) hHeld ?_
        rotate_left
        · intro W
          go_simp
          try with_reducible rfl
        simp only [List.getElem_toArray, List.getElem_cons_succ, List.getElem_cons_zero, Act.put, List.setIfInBounds_toArray, List.set_cons_zero, List.set_cons_succ]
        refine wpAnyH_done (by kernel_rfl) ?_ _
        clear hHeld
        go_wp2_with fail
        refine (rturns4_any k hlt _).mono ?_
        rintro e w3 ⟨rfl, hb3⟩
        have S3 : Step w3 _ := ⟨hb3⟩
        have HM3 := Lib.hid (at_ext (w' := w3) HM2.out)
        have t0 := (turns_bd (k / 16 * 4 + k % 4)).1
        have t1 := (turns_bd (k / 16 * 4 + k % 4)).2
        obtain ⟨nn, hnn⟩ : ∃ x, turnsL.getD (k / 16 * 4 + k % 4) 0 = x := ⟨_, rfl⟩
        have HNN := Lib.hid hnn
        rw [hnn] at t0 t1 ⊢
        clear hnn hb3
        have v0 : w3.cell? ⟨w1.heap.size, 0, none⟩ = some (.int .u32 A1) := at_cell HM3.out 0
        have v1 : w3.cell? ⟨w1.heap.size, 1, none⟩ = some (.int .u32 B1) := at_cell HM3.out 1
        have v2 : w3.cell? ⟨w1.heap.size, 2, none⟩ = some (.int .u32 C1) := at_cell HM3.out 2
        have v3 : w3.cell? ⟨w1.heap.size, 3, none⟩ = some (.int .u32 D1) := at_cell HM3.out 3
        have f0 := at_frozen HM3.out 0
        have f1 := at_frozen HM3.out 1
        have f2 := at_frozen HM3.out 2
        have f3 := at_frozen HM3.out 3
        go_wp2
        refine ⟨⟨k + 1, by go_num, by omega, ?_, Ext.setg (Ext.setg (Ext.setg (Ext.setg (inferInstance : Ext w1 w3) _ _ _ (Nat.le_refl _)) _ _ _ (Nat.le_refl _)) _ _ _ (Nat.le_refl _)) _ _ _ (Nat.le_refl _)⟩, by simp [intOf]; omega⟩
        show _ = _
        rw [mdRun, HQ.out]
        unfold mdStep
        rw [HGK.out, HNN.out, HQN.out, HKK.out, HXX.out]
        simp only [mdF, mdU, u32_max]
        exact at_set (at_set (at_set (at_set HM3.out 0 _) 1 _) 2 _) 3 _
      by_cases hq2 : k < 48
      · skip
        have hqI : (k : Int) / 16 = 2 := by omega
        have HQN : Hid (k / 16 = 2) := by unfold Hid; omega
        obtain ⟨gg, hgg⟩ : ∃ gg, (3 * k + 5) % 16 = gg := ⟨_, rfl⟩
        have hgl : gg < 16 := by omega
        have hgI : (3 * (k : Int) + 5) % 16 = (gg : Int) := by omega
        have HGK : Hid (mdG k = gg) := by unfold Hid; have := HQN.out; simp only [mdG, this]; exact hgg
        clear hgg
        obtain ⟨xd, rfl, hxc⟩ := HX.out (by rw [nums_length, Hn.out]; omega)
        have HXC := Lib.hid hxc
        clear hxc
        have hg16 : gg < 16 := by omega
        have w1' : IntKind.i64.wrap (4 * (gg : Int)) = 4 * (gg : Int) := by rw [IntKind.wrap_i64]; omega
        have w2' : IntKind.i64.wrap (4 * (gg : Int) + 4) = 4 * (gg : Int) + 4 := by rw [IntKind.wrap_i64]; omega
        have g0 : (0 : Int) ≤ 4 * (gg : Int) := by omega
        have g1 : 4 * (gg : Int) ≤ 4 * (gg : Int) + 4 := by omega
        have g2 : 4 * (gg : Int) + 4 ≤ (cc : Int) := by omega
        have g3 : (4 * (gg : Int)).toNat = 4 * gg := by omega
        have g4 : (4 * (gg : Int) + 4).toNat = 4 * gg + 4 := by omega
        have g5 : ¬ cc = 4 * gg := by omega
        have g6 : 4 * gg + 4 - 4 * gg = 4 := by omega
        go_wp2
        refine wp_region_held_drew (S := fun W => Ext wr W) (by kernel_rfl) (by exact inferInstance) (fun hHeld => ?_)
        refine wpAnyH_take (i := 0) (v := ?_) rfl (by kernel_rfl) (by kernel_rfl) (by kernel_rfl) (fun _ _ _ h => h) (Yields.yieldsIf (Or.inl ⟨by rfl, ?_⟩)) hHeld ?_
        rotate_left
        · intro W
          go_simp
          try with_reducible rfl
        simp only [List.getElem_toArray, List.getElem_cons_succ, List.getElem_cons_zero, Act.put, List.setIfInBounds_toArray, List.set_cons_zero, List.set_cons_succ]
        refine wpAnyH_take (i := 1) (v := ?_) rfl (by kernel_rfl) (by kernel_rfl) (by kernel_rfl) (fun _ _ _ h => h) (Or.inl ⟨by rfl, ?_⟩) hHeld ?_
        rotate_left
        · intro W hW
          have hcl := (cell_ext (h := hW) v0)
          go_simp
          try with_reducible rfl
        simp only [List.getElem_toArray, List.getElem_cons_succ, List.getElem_cons_zero, Act.put, List.setIfInBounds_toArray, List.set_cons_zero, List.set_cons_succ]
        refine wpAnyH_take (i := 2) (v := ?_) rfl (by kernel_rfl) (by kernel_rfl) (by kernel_rfl) (fun _ _ _ h => h) (Yields.yieldsIf (Or.inl ⟨by rfl, ?_⟩)) hHeld ?_
        rotate_left
        · intro W
          go_simp
          try with_reducible rfl
        simp only [List.getElem_toArray, List.getElem_cons_succ, List.getElem_cons_zero, Act.put, List.setIfInBounds_toArray, List.set_cons_zero, List.set_cons_succ]
        refine wpAnyH_take (i := 3) (v := ?_) rfl (by kernel_rfl) (by kernel_rfl) (by kernel_rfl) (fun _ _ _ h => h) (Yields.yieldsIf (Or.inl ⟨by rfl, ?_⟩)) hHeld ?_
        rotate_left
        · intro W
          go_simp
          try with_reducible rfl
        simp only [List.getElem_toArray, List.getElem_cons_succ, List.getElem_cons_zero, Act.put, List.setIfInBounds_toArray, List.set_cons_zero, List.set_cons_succ]
        refine wpAnyH_take (i := 4) (v := ?_) rfl (by kernel_rfl) (by kernel_rfl) (by kernel_rfl) (fun _ _ _ h => h) (Yields.yieldsIf (Or.inl ⟨by rfl, ?_⟩)) hHeld ?_
        rotate_left
        · intro W
          go_simp
          try with_reducible rfl
        simp only [List.getElem_toArray, List.getElem_cons_succ, List.getElem_cons_zero, Act.put, List.setIfInBounds_toArray, List.set_cons_zero, List.set_cons_succ]
        refine wpAnyH_take (i := 5) (v := ?_) rfl (by kernel_rfl) (by kernel_rfl) (by kernel_rfl) (fun _ _ _ h => h) (Yields.yieldsIf (Or.inl ⟨by rfl, ?_⟩)) hHeld ?_
        rotate_left
        · intro W
          go_simp
          try with_reducible rfl
        simp only [List.getElem_toArray, List.getElem_cons_succ, List.getElem_cons_zero, Act.put, List.setIfInBounds_toArray, List.set_cons_zero, List.set_cons_succ]
        refine wpAnyH_take (i := 6) (v := ?_) rfl (by kernel_rfl) (by kernel_rfl) (by kernel_rfl) (fun _ _ _ h => h) (Yields.yieldsIf (Or.inl ⟨by rfl, ?_⟩)) hHeld ?_
        rotate_left
        · intro W
          go_simp
          try with_reducible rfl
        simp only [List.getElem_toArray, List.getElem_cons_succ, List.getElem_cons_zero, Act.put, List.setIfInBounds_toArray, List.set_cons_zero, List.set_cons_succ]
        refine wpAnyH_take (i := 7) (v := ?_) rfl (by kernel_rfl) (by kernel_rfl) (by kernel_rfl) (fun _ _ _ h => h) (Or.inl ⟨by rfl, ?_⟩) hHeld ?_
        rotate_left
        · intro W hW
          have hcl := (cell_ext (h := hW) cK)
          go_simp
          try with_reducible rfl
        simp only [List.getElem_toArray, List.getElem_cons_succ, List.getElem_cons_zero, Act.put, List.setIfInBounds_toArray, List.set_cons_zero, List.set_cons_succ]
        refine wpAnyH_take (i := 8) (v := ?_) rfl (by kernel_rfl) (by kernel_rfl) (by kernel_rfl) (fun _ _ _ h => h) (Yields.yieldsIf (Or.inl ⟨by rfl, ?_⟩)) hHeld ?_
        rotate_left
        · intro W
          go_simp
          try with_reducible rfl
        simp only [List.getElem_toArray, List.getElem_cons_succ, List.getElem_cons_zero, Act.put, List.setIfInBounds_toArray, List.set_cons_zero, List.set_cons_succ]
        refine wpAnyH_take (i := 9) (v := ?_) rfl (by kernel_rfl) (by kernel_rfl) (by kernel_rfl) (fun _ _ _ h => h) (Yields.yieldsIf (Or.inl ⟨by rfl, ?_⟩)) hHeld ?_
        rotate_left
        · intro W
          go_simp
          try with_reducible rfl
        simp only [List.getElem_toArray, List.getElem_cons_succ, List.getElem_cons_zero, Act.put, List.setIfInBounds_toArray, List.set_cons_zero, List.set_cons_succ]
        refine wpAnyH_take (i := 10) (v := ?_) rfl (by kernel_rfl) (by kernel_rfl) (by kernel_rfl) (fun _ _ _ h => h) (Yields.yieldsIf (Or.inl ⟨by rfl, ?_⟩)) hHeld ?_
        rotate_left
        · intro W
          go_simp
          try with_reducible rfl
        simp only [List.getElem_toArray, List.getElem_cons_succ, List.getElem_cons_zero, Act.put, List.setIfInBounds_toArray, List.set_cons_zero, List.set_cons_succ]
        refine wpAnyH_take (i := 11) (v := ?_) rfl (by kernel_rfl) (by kernel_rfl) (by kernel_rfl) (fun _ _ _ h => h) (Yields.yieldsIf (Or.inl ⟨by rfl, ?_⟩)) hHeld ?_
        rotate_left
        · intro W
          go_simp
          try with_reducible rfl
        simp only [List.getElem_toArray, List.getElem_cons_succ, List.getElem_cons_zero, Act.put, List.setIfInBounds_toArray, List.set_cons_zero, List.set_cons_succ]
        refine wpAnyH_take (i := 12) (v := ?_) rfl (by kernel_rfl) (by kernel_rfl) (by kernel_rfl) (fun _ _ _ h => h) (Yields.yieldsIf (Or.inl ⟨by rfl, ?_⟩)) hHeld ?_
        rotate_left
        · intro W
          go_simp
          try with_reducible rfl
        simp only [List.getElem_toArray, List.getElem_cons_succ, List.getElem_cons_zero, Act.put, List.setIfInBounds_toArray, List.set_cons_zero, List.set_cons_succ]
        refine wpAnyH_take (i := 13) (v := ?_) rfl (by kernel_rfl) (by kernel_rfl) (by kernel_rfl) (fun _ _ _ h => h) (Yields.yieldsIf (Or.inl ⟨by rfl, ?_⟩)) hHeld ?_
        rotate_left
        · intro W
          go_simp
          try with_reducible rfl
        simp only [List.getElem_toArray, List.getElem_cons_succ, List.getElem_cons_zero, Act.put, List.setIfInBounds_toArray, List.set_cons_zero, List.set_cons_succ]
        refine wpAnyH_take (i := 14) (v := ?_) rfl (by kernel_rfl) (by kernel_rfl) (by kernel_rfl) (fun _ _ _ h => h) (Yields.yieldsIf (Or.inl ⟨by rfl, ?_⟩)) hHeld ?_
        rotate_left
        · intro W
          go_simp
          try with_reducible rfl
        simp only [List.getElem_toArray, List.getElem_cons_succ, List.getElem_cons_zero, Act.put, List.setIfInBounds_toArray, List.set_cons_zero, List.set_cons_succ]
        refine wpAnyH_take (i := 15) (v := ?_) rfl (by kernel_rfl) (by kernel_rfl) (by kernel_rfl) (fun _ _ _ h => h) (Yields.yieldsIf (Or.inl ⟨by rfl, ?_⟩)) hHeld ?_
        rotate_left
        · intro W
          go_simp
          try with_reducible rfl
        simp only [List.getElem_toArray, List.getElem_cons_succ, List.getElem_cons_zero, Act.put, List.setIfInBounds_toArray, List.set_cons_zero, List.set_cons_succ]
        refine wpAnyH_ready (rs := [16]) (by kernel_rfl) (by simp) ?_
        refine AllReadyH.cons rfl (fun K hK => ?_) AllReadyH.nil
        refine step_call_w (by rfl) Try.func123 (by kernel_rfl) (by kernel_rfl) #[.tmp 94] #[22] rfl #[.slice (some (xd.add (4 * gg))) 4 (cc - 4 * gg)] ?hv (rword4_any (xd.add (4 * gg)) 4 (cc - 4 * gg) (bs.getD (4 * gg) 0) (bs.getD (4 * gg + 1) 0) (bs.getD (4 * gg + 2) 0) (bs.getD (4 * gg + 3) 0) (by omega) _ (rb_cell HXC.out Hn.out (by omega)) (rb_cell1 HXC.out Hn.out (by omega)) (rb_cell1 HXC.out Hn.out (by omega)) (rb_cell1 HXC.out Hn.out (by omega)) (HB.out.getD _) (HB.out.getD _) (HB.out.getD _) (HB.out.getD _)) ?_
        case hv => go_simp
        rintro e w2 ⟨rfl, hb2⟩
        refine ⟨_, rfl, ?_⟩
        rw [← ldF_word HB.out hg16]
        obtain ⟨xx, hxx⟩ : ∃ x, (ldF bs 64).getD gg 0 = x := ⟨_, rfl⟩
        have HXX := Lib.hid hxx
        rw [hxx]
        clear hxx
        have S2 : Step w2 _ := ⟨hb2⟩
        have HM2 := Lib.hid (at_ext (w' := w2) HM.out)
        clear hb2 v0 v1 v2 v3 hHeld
        refine hK.out _ _ (by exact inferInstance) (fun hHeld => ?_)
        clear hK K
        simp only [List.getElem_toArray, List.getElem_cons_succ, List.getElem_cons_zero, Act.put, List.setIfInBounds_toArray, List.set_cons_zero, List.set_cons_succ]
        refine wpAnyH_take (i := 17) (v := ?_) rfl (by kernel_rfl) (by kernel_rfl) (by kernel_rfl) (fun _ _ _ h => h) (Yields.yieldsIf (Or.inl ⟨by rfl, ?_⟩)) hHeld ?_
        rotate_left
        · intro W
          go_simp
          try with_reducible rfl
        simp only [List.getElem_toArray, List.getElem_cons_succ, List.getElem_cons_zero, Act.put, List.setIfInBounds_toArray, List.set_cons_zero, List.set_cons_succ]
        refine wpAnyH_take (i := 18) (v := ?_) rfl (by kernel_rfl) (by kernel_rfl) (by kernel_rfl) (fun _ _ _ h => h) (Yields.yieldsIf (Or.inl ⟨by rfl, ?_⟩)) hHeld ?_
        rotate_left
        · intro W
          go_simp
          try with_reducible rfl
        simp only [List.getElem_toArray, List.getElem_cons_succ, List.getElem_cons_zero, Act.put, List.setIfInBounds_toArray, List.set_cons_zero, List.set_cons_succ]
        refine wpAnyH_done (by kernel_rfl) ?_ _
        clear hHeld
        go_wp2_with fail
        refine (rturns4_any k hlt _).mono ?_
        rintro e w3 ⟨rfl, hb3⟩
        have S3 : Step w3 _ := ⟨hb3⟩
        have HM3 := Lib.hid (at_ext (w' := w3) HM2.out)
        have t0 := (turns_bd (k / 16 * 4 + k % 4)).1
        have t1 := (turns_bd (k / 16 * 4 + k % 4)).2
        obtain ⟨nn, hnn⟩ : ∃ x, turnsL.getD (k / 16 * 4 + k % 4) 0 = x := ⟨_, rfl⟩
        have HNN := Lib.hid hnn
        rw [hnn] at t0 t1 ⊢
        clear hnn hb3
        have v0 : w3.cell? ⟨w1.heap.size, 0, none⟩ = some (.int .u32 A1) := at_cell HM3.out 0
        have v1 : w3.cell? ⟨w1.heap.size, 1, none⟩ = some (.int .u32 B1) := at_cell HM3.out 1
        have v2 : w3.cell? ⟨w1.heap.size, 2, none⟩ = some (.int .u32 C1) := at_cell HM3.out 2
        have v3 : w3.cell? ⟨w1.heap.size, 3, none⟩ = some (.int .u32 D1) := at_cell HM3.out 3
        have f0 := at_frozen HM3.out 0
        have f1 := at_frozen HM3.out 1
        have f2 := at_frozen HM3.out 2
        have f3 := at_frozen HM3.out 3
        go_wp2
        refine ⟨⟨k + 1, by go_num, by omega, ?_, Ext.setg (Ext.setg (Ext.setg (Ext.setg (inferInstance : Ext w1 w3) _ _ _ (Nat.le_refl _)) _ _ _ (Nat.le_refl _)) _ _ _ (Nat.le_refl _)) _ _ _ (Nat.le_refl _)⟩, by simp [intOf]; omega⟩
        show _ = _
        rw [mdRun, HQ.out]
        unfold mdStep
        rw [HGK.out, HNN.out, HQN.out, HKK.out, HXX.out]
        simp only [mdF, mdU, u32_max]
        exact at_set (at_set (at_set (at_set HM3.out 0 _) 1 _) 2 _) 3 _
      · skip
        have hqI : (k : Int) / 16 = 3 := by omega
        have HQN : Hid (k / 16 = 3) := by unfold Hid; omega
        obtain ⟨gg, hgg⟩ : ∃ gg, 7 * k % 16 = gg := ⟨_, rfl⟩
        have hgl : gg < 16 := by omega
        have hgI : 7 * (k : Int) % 16 = (gg : Int) := by omega
        have HGK : Hid (mdG k = gg) := by unfold Hid; have := HQN.out; simp only [mdG, this]; exact hgg
        clear hgg
        obtain ⟨xd, rfl, hxc⟩ := HX.out (by rw [nums_length, Hn.out]; omega)
        have HXC := Lib.hid hxc
        clear hxc
        have hg16 : gg < 16 := by omega
        have w1' : IntKind.i64.wrap (4 * (gg : Int)) = 4 * (gg : Int) := by rw [IntKind.wrap_i64]; omega
        have w2' : IntKind.i64.wrap (4 * (gg : Int) + 4) = 4 * (gg : Int) + 4 := by rw [IntKind.wrap_i64]; omega
        have g0 : (0 : Int) ≤ 4 * (gg : Int) := by omega
        have g1 : 4 * (gg : Int) ≤ 4 * (gg : Int) + 4 := by omega
        have g2 : 4 * (gg : Int) + 4 ≤ (cc : Int) := by omega
        have g3 : (4 * (gg : Int)).toNat = 4 * gg := by omega
        have g4 : (4 * (gg : Int) + 4).toNat = 4 * gg + 4 := by omega
        have g5 : ¬ cc = 4 * gg := by omega
        have g6 : 4 * gg + 4 - 4 * gg = 4 := by omega
        go_wp2
        refine wp_region_held_drew (S := fun W => Ext wr W) (by kernel_rfl) (by exact inferInstance) (fun hHeld => ?_)
        refine wpAnyH_take (i := 0) (v := ?_) rfl (by kernel_rfl) (by kernel_rfl) (by kernel_rfl) (fun _ _ _ h => h) (Yields.yieldsIf (Or.inl ⟨by rfl, ?_⟩)) hHeld ?_
        rotate_left
        · intro W
          go_simp
          try with_reducible rfl
        simp only [List.getElem_toArray, List.getElem_cons_succ, List.getElem_cons_zero, Act.put, List.setIfInBounds_toArray, List.set_cons_zero, List.set_cons_succ]
        refine wpAnyH_take (i := 1) (v := ?_) rfl (by kernel_rfl) (by kernel_rfl) (by kernel_rfl) (fun _ _ _ h => h) (Or.inl ⟨by rfl, ?_⟩) hHeld ?_
        rotate_left
        · intro W hW
          have hcl := (cell_ext (h := hW) v0)
          go_simp
          try with_reducible rfl
        simp only [List.getElem_toArray, List.getElem_cons_succ, List.getElem_cons_zero, Act.put, List.setIfInBounds_toArray, List.set_cons_zero, List.set_cons_succ]
        refine wpAnyH_take (i := 2) (v := ?_) rfl (by kernel_rfl) (by kernel_rfl) (by kernel_rfl) (fun _ _ _ h => h) (Yields.yieldsIf (Or.inl ⟨by rfl, ?_⟩)) hHeld ?_
        rotate_left
        · intro W
          go_simp
          try with_reducible rfl
        simp only [List.getElem_toArray, List.getElem_cons_succ, List.getElem_cons_zero, Act.put, List.setIfInBounds_toArray, List.set_cons_zero, List.set_cons_succ]
        refine wpAnyH_take (i := 3) (v := ?_) rfl (by kernel_rfl) (by kernel_rfl) (by kernel_rfl) (fun _ _ _ h => h) (Yields.yieldsIf (Or.inl ⟨by rfl, ?_⟩)) hHeld ?_
        rotate_left
        · intro W
          go_simp
          try with_reducible rfl
        simp only [List.getElem_toArray, List.getElem_cons_succ, List.getElem_cons_zero, Act.put, List.setIfInBounds_toArray, List.set_cons_zero, List.set_cons_succ]
        refine wpAnyH_take (i := 4) (v := ?_) rfl (by kernel_rfl) (by kernel_rfl) (by kernel_rfl) (fun _ _ _ h => h) (Yields.yieldsIf (Or.inl ⟨by rfl, ?_⟩)) hHeld ?_
        rotate_left
        · intro W
          go_simp
          try with_reducible rfl
        simp only [List.getElem_toArray, List.getElem_cons_succ, List.getElem_cons_zero, Act.put, List.setIfInBounds_toArray, List.set_cons_zero, List.set_cons_succ]
        refine wpAnyH_take (i := 5) (v := ?_) rfl (by kernel_rfl) (by kernel_rfl) (by kernel_rfl) (fun _ _ _ h => h) (Yields.yieldsIf (Or.inl ⟨by rfl, ?_⟩)) hHeld ?_
        rotate_left
        · intro W
          go_simp
          try with_reducible rfl
        simp only [List.getElem_toArray, List.getElem_cons_succ, List.getElem_cons_zero, Act.put, List.setIfInBounds_toArray, List.set_cons_zero, List.set_cons_succ]
        refine wpAnyH_take (i := 6) (v := ?_) rfl (by kernel_rfl) (by kernel_rfl) (by kernel_rfl) (fun _ _ _ h => h) (Yields.yieldsIf (Or.inl ⟨by rfl, ?_⟩)) hHeld ?_
        rotate_left
        · intro W
          go_simp
          try with_reducible rfl
        simp only [List.getElem_toArray, List.getElem_cons_succ, List.getElem_cons_zero, Act.put, List.setIfInBounds_toArray, List.set_cons_zero, List.set_cons_succ]
        refine wpAnyH_take (i := 7) (v := ?_) rfl (by kernel_rfl) (by kernel_rfl) (by kernel_rfl) (fun _ _ _ h => h) (Or.inl ⟨by rfl, ?_⟩) hHeld ?_
        rotate_left
        · intro W hW
          have hcl := (cell_ext (h := hW) cK)
          go_simp
          try with_reducible rfl
        simp only [List.getElem_toArray, List.getElem_cons_succ, List.getElem_cons_zero, Act.put, List.setIfInBounds_toArray, List.set_cons_zero, List.set_cons_succ]
        refine wpAnyH_take (i := 8) (v := ?_) rfl (by kernel_rfl) (by kernel_rfl) (by kernel_rfl) (fun _ _ _ h => h) (Yields.yieldsIf (Or.inl ⟨by rfl, ?_⟩)) hHeld ?_
        rotate_left
        · intro W
          go_simp
          try with_reducible rfl
        simp only [List.getElem_toArray, List.getElem_cons_succ, List.getElem_cons_zero, Act.put, List.setIfInBounds_toArray, List.set_cons_zero, List.set_cons_succ]
        refine wpAnyH_take (i := 9) (v := ?_) rfl (by kernel_rfl) (by kernel_rfl) (by kernel_rfl) (fun _ _ _ h => h) (Yields.yieldsIf (Or.inl ⟨by rfl, ?_⟩)) hHeld ?_
        rotate_left
        · intro W
          go_simp
          try with_reducible rfl
        simp only [List.getElem_toArray, List.getElem_cons_succ, List.getElem_cons_zero, Act.put, List.setIfInBounds_toArray, List.set_cons_zero, List.set_cons_succ]
        refine wpAnyH_take (i := 10) (v := ?_) rfl (by kernel_rfl) (by kernel_rfl) (by kernel_rfl) (fun _ _ _ h => h) (Yields.yieldsIf (Or.inl ⟨by rfl, ?_⟩)) hHeld ?_
        rotate_left
        · intro W
          go_simp
          try with_reducible rfl
        simp only [List.getElem_toArray, List.getElem_cons_succ, List.getElem_cons_zero, Act.put, List.setIfInBounds_toArray, List.set_cons_zero, List.set_cons_succ]
        refine wpAnyH_take (i := 11) (v := ?_) rfl (by kernel_rfl) (by kernel_rfl) (by kernel_rfl) (fun _ _ _ h => h) (Yields.yieldsIf (Or.inl ⟨by rfl, ?_⟩)) hHeld ?_
        rotate_left
        · intro W
          go_simp
          try with_reducible rfl
        simp only [List.getElem_toArray, List.getElem_cons_succ, List.getElem_cons_zero, Act.put, List.setIfInBounds_toArray, List.set_cons_zero, List.set_cons_succ]
        refine wpAnyH_take (i := 12) (v := ?_) rfl (by kernel_rfl) (by kernel_rfl) (by kernel_rfl) (fun _ _ _ h => h) (Yields.yieldsIf (Or.inl ⟨by rfl, ?_⟩)) hHeld ?_
        rotate_left
        · intro W
          go_simp
          try with_reducible rfl
        simp only [List.getElem_toArray, List.getElem_cons_succ, List.getElem_cons_zero, Act.put, List.setIfInBounds_toArray, List.set_cons_zero, List.set_cons_succ]
        refine wpAnyH_take (i := 13) (v := ?_) rfl (by kernel_rfl) (by kernel_rfl) (by kernel_rfl) (fun _ _ _ h => h) (Yields.yieldsIf (Or.inl ⟨by rfl, ?_⟩)) hHeld ?_
        rotate_left
        · intro W
          go_simp
          try with_reducible rfl
        simp only [List.getElem_toArray, List.getElem_cons_succ, List.getElem_cons_zero, Act.put, List.setIfInBounds_toArray, List.set_cons_zero, List.set_cons_succ]
        refine wpAnyH_take (i := 14) (v := ?_) rfl (by kernel_rfl) (by kernel_rfl) (by kernel_rfl) (fun _ _ _ h => h) (Yields.yieldsIf (Or.inl ⟨by rfl, ?_⟩)) hHeld ?_
        rotate_left
        · intro W
          go_simp
          try with_reducible rfl
        simp only [List.getElem_toArray, List.getElem_cons_succ, List.getElem_cons_zero, Act.put, List.setIfInBounds_toArray, List.set_cons_zero, List.set_cons_succ]
        refine wpAnyH_take (i := 15) (v := ?_) rfl (by kernel_rfl) (by kernel_rfl) (by kernel_rfl) (fun _ _ _ h => h) (Yields.yieldsIf (Or.inl ⟨by rfl, ?_⟩)) hHeld ?_
        rotate_left
        · intro W
          go_simp
          try with_reducible rfl
        simp only [List.getElem_toArray, List.getElem_cons_succ, List.getElem_cons_zero, Act.put, List.setIfInBounds_toArray, List.set_cons_zero, List.set_cons_succ]
        refine wpAnyH_ready (rs := [16]) (by kernel_rfl) (by simp) ?_
        refine AllReadyH.cons rfl (fun K hK => ?_) AllReadyH.nil
        refine step_call_w (by rfl) Try.func123 (by kernel_rfl) (by kernel_rfl) #[.tmp 94] #[22] rfl #[.slice (some (xd.add (4 * gg))) 4 (cc - 4 * gg)] ?hv (rword4_any (xd.add (4 * gg)) 4 (cc - 4 * gg) (bs.getD (4 * gg) 0) (bs.getD (4 * gg + 1) 0) (bs.getD (4 * gg + 2) 0) (bs.getD (4 * gg + 3) 0) (by omega) _ (rb_cell HXC.out Hn.out (by omega)) (rb_cell1 HXC.out Hn.out (by omega)) (rb_cell1 HXC.out Hn.out (by omega)) (rb_cell1 HXC.out Hn.out (by omega)) (HB.out.getD _) (HB.out.getD _) (HB.out.getD _) (HB.out.getD _)) ?_
        case hv => go_simp
        rintro e w2 ⟨rfl, hb2⟩
        refine ⟨_, rfl, ?_⟩
        rw [← ldF_word HB.out hg16]
        obtain ⟨xx, hxx⟩ : ∃ x, (ldF bs 64).getD gg 0 = x := ⟨_, rfl⟩
        have HXX := Lib.hid hxx
        rw [hxx]
        clear hxx
        have S2 : Step w2 _ := ⟨hb2⟩
        have HM2 := Lib.hid (at_ext (w' := w2) HM.out)
        clear hb2 v0 v1 v2 v3 hHeld
        refine hK.out _ _ (by exact inferInstance) (fun hHeld => ?_)
        clear hK K
        simp only [List.getElem_toArray, List.getElem_cons_succ, List.getElem_cons_zero, Act.put, List.setIfInBounds_toArray, List.set_cons_zero, List.set_cons_succ]
        refine wpAnyH_take (i := 17) (v := ?_) rfl (by kernel_rfl) (by kernel_rfl) (by kernel_rfl) (fun _ _ _ h => h) (Yields.yieldsIf (Or.inl ⟨by rfl, ?_⟩)) hHeld ?_
        rotate_left
        · intro W
          go_simp
          try with_reducible rfl
        simp only [List.getElem_toArray, List.getElem_cons_succ, List.getElem_cons_zero, Act.put, List.setIfInBounds_toArray, List.set_cons_zero, List.set_cons_succ]
        refine wpAnyH_take (i := 18) (v := ?_) rfl (by kernel_rfl) (by kernel_rfl) (by kernel_rfl) (fun _ _ _ h => h) (Yields.yieldsIf (Or.inl ⟨by rfl, ?_⟩)) hHeld ?_
        rotate_left
        · intro W
          go_simp
          try with_reducible rfl
        simp only [List.getElem_toArray, List.getElem_cons_succ, List.getElem_cons_zero, Act.put, List.setIfInBounds_toArray, List.set_cons_zero, List.set_cons_succ]
        refine wpAnyH_done (by kernel_rfl) ?_ _
        clear hHeld
        go_wp2_with fail
        refine (rturns4_any k hlt _).mono ?_
        rintro e w3 ⟨rfl, hb3⟩
        have S3 : Step w3 _ := ⟨hb3⟩
        have HM3 := Lib.hid (at_ext (w' := w3) HM2.out)
        have t0 := (turns_bd (k / 16 * 4 + k % 4)).1
        have t1 := (turns_bd (k / 16 * 4 + k % 4)).2
        obtain ⟨nn, hnn⟩ : ∃ x, turnsL.getD (k / 16 * 4 + k % 4) 0 = x := ⟨_, rfl⟩
        have HNN := Lib.hid hnn
        rw [hnn] at t0 t1 ⊢
        clear hnn hb3
        have v0 : w3.cell? ⟨w1.heap.size, 0, none⟩ = some (.int .u32 A1) := at_cell HM3.out 0
        have v1 : w3.cell? ⟨w1.heap.size, 1, none⟩ = some (.int .u32 B1) := at_cell HM3.out 1
        have v2 : w3.cell? ⟨w1.heap.size, 2, none⟩ = some (.int .u32 C1) := at_cell HM3.out 2
        have v3 : w3.cell? ⟨w1.heap.size, 3, none⟩ = some (.int .u32 D1) := at_cell HM3.out 3
        have f0 := at_frozen HM3.out 0
        have f1 := at_frozen HM3.out 1
        have f2 := at_frozen HM3.out 2
        have f3 := at_frozen HM3.out 3
        go_wp2
        refine ⟨⟨k + 1, by go_num, by omega, ?_, Ext.setg (Ext.setg (Ext.setg (Ext.setg (inferInstance : Ext w1 w3) _ _ _ (Nat.le_refl _)) _ _ _ (Nat.le_refl _)) _ _ _ (Nat.le_refl _)) _ _ _ (Nat.le_refl _)⟩, by simp [intOf]; omega⟩
        show _ = _
        rw [mdRun, HQ.out]
        unfold mdStep
        rw [HGK.out, HNN.out, HQN.out, HKK.out, HXX.out]
        simp only [mdF, mdU, u32_max]
        exact at_set (at_set (at_set (at_set HM3.out 0 _) 1 _) 2 _) 3 _
    · obtain rfl : k = 64 := by omega
      obtain ⟨⟨A1, B1, C1, D1⟩, hq⟩ : ∃ q, mdRun (ldF bs 64) (a, b, c, d) 64 = q := ⟨_, rfl⟩
      rw [hq] at HM
      have HMB : Hid (mdBlock (a, b, c, d) bs = ((a + A1) % 4294967296, (b + B1) % 4294967296, (c + C1) % 4294967296, (d + D1) % 4294967296)) := by
        unfold Hid mdBlock
        rw [hq]
        rfl
      have HWr := Lib.hid (at_ext (w' := wr) (w := w1) HV1.out)
      have HZr := Lib.hid (at_ext (w' := wr) (w := w1) HZ1.out)
      have v0 : wr.cell? ⟨w1.heap.size, 0, none⟩ = some (.int .u32 A1) := at_cell HM.out 0
      have v1 : wr.cell? ⟨w1.heap.size, 1, none⟩ = some (.int .u32 B1) := at_cell HM.out 1
      have v2 : wr.cell? ⟨w1.heap.size, 2, none⟩ = some (.int .u32 C1) := at_cell HM.out 2
      have v3 : wr.cell? ⟨w1.heap.size, 3, none⟩ = some (.int .u32 D1) := at_cell HM.out 3
      have p0 : wr.cell? ⟨w.heap.size, 0, none⟩ = some (.int .u32 a) := at_cell HWr.out 0
      have p1 : wr.cell? ⟨w.heap.size, 1, none⟩ = some (.int .u32 b) := at_cell HWr.out 1
      have p2 : wr.cell? ⟨w.heap.size, 2, none⟩ = some (.int .u32 c) := at_cell HWr.out 2
      have p3 : wr.cell? ⟨w.heap.size, 3, none⟩ = some (.int .u32 d) := at_cell HWr.out 3
      have q0 : wr.cell? ⟨w.heap.size + 1, 0, none⟩ = some (.int .u32 0) := at_cell HZr.out 0
      have q1 : wr.cell? ⟨w.heap.size + 1, 1, none⟩ = some (.int .u32 0) := at_cell HZr.out 1
      have q2 : wr.cell? ⟨w.heap.size + 1, 2, none⟩ = some (.int .u32 0) := at_cell HZr.out 2
      have q3 : wr.cell? ⟨w.heap.size + 1, 3, none⟩ = some (.int .u32 0) := at_cell HZr.out 3
      have f0 := at_frozen HZr.out 0
      have f1 := at_frozen HZr.out 1
      have f2 := at_frozen HZr.out 2
      have f3 := at_frozen HZr.out 3
      clear hq
      go_wp2
      have HR := at_set (at_set (at_set (at_set HZr.out 0 (.int .u32 ((a + A1) % 4294967296))) 1 (.int .u32 ((b + B1) % 4294967296))) 2 (.int .u32 ((c + C1) % 4294967296))) 3 (.int .u32 ((d + D1) % 4294967296))
      have hd0 := at_cell HR 0
      have hd1 := at_cell HR 1
      have hd2 := at_cell HR 2
      have hd3 := at_cell HR 3
      simp only [List.setIfInBounds_toArray, List.set_cons_zero, List.set_cons_succ, List.getElem?_toArray, List.getElem?_cons_zero, List.getElem?_cons_succ] at hd0 hd1 hd2 hd3
      exact bodyPost_ret (v := .agg #[.int .u32 ((a + A1) % 4294967296), .int .u32 ((b + B1) % 4294967296), .int .u32 ((c + C1) % 4294967296), .int .u32 ((d + D1) % 4294967296)]) (by simp [results, Try.results104, go_sem, hd0, hd1, hd2, hd3]) rfl (by rw [show WTells (mdBlock (a, b, c, d) bs) w = WTells ((a + A1) % 4294967296, (b + B1) % 4294967296, (c + C1) % 4294967296, (d + D1) % 4294967296) w from by rw [HMB.out]]; exact ⟨rfl, Ext.out⟩)
end Go.Proofs.Ytobddmpiljknpaa

namespace Go.Proofs.Ytobddmpiljknpaa
open Go.RowKit
set_option linter.unusedVariables false
set_option linter.unusedSimpArgs false

theorem byteAt_ij (s : W4) (i k : Nat) (hk : k < 4) : byteAt s (4 * i + k) = (wl s).getD i 0 / 2 ^ (8 * k) % 256 := by
  unfold byteAt
  rw [show (4 * i + k) / 4 = i by omega, show (4 * i + k) % 4 = k by omega]
set_option maxRecDepth 100000 in
set_option maxHeartbeats 4000000 in
theorem rtold4_any (s : W4) (hs : WOk s) (w : World) :
    Calls Try.prog 105 #[.agg #[.int .u32 s.1, .int .u32 s.2.1, .int .u32 s.2.2.1, .int .u32 s.2.2.2]] w fun e w' => e = .returned (.agg (nums .u8 (toldS s 16)).toArray) ∧ Below w.heap.size w w' := by
  have HS := Lib.hid hs
  clear hs
  go_enter Try.func105, Try.ntmps105
  go_wp2
  go_loopw [17] (fun i wr => ∃ k : Nat, i = .int .i64 k ∧ k ≤ 4 ∧ Hid (wr.heap[w.heap.size + 1 + 1]? = some (.cells (nums .u8 (toldS s (4 * k))).toArray 47 (0, 0))) ∧ Hid (wr.heap[w.heap.size + 1 + 1 + 1]? = some (.cells (nums .u32 (wl s)).toArray 159 (0, 0))) ∧ Hid (Ext ((w.alloc (cV s)).alloc zB16) wr)) (fun i _ => 4 - (intOf i).toNat)
  case atStart => exact ⟨0, rfl, by omega, at_ext (w := ((w.alloc (cV s)).alloc zB16).alloc zB16) (at_new1 (by simp)), at_new1 (by simp), (inferInstance : Ext _ (World.alloc _ _))⟩
  case round =>
    obtain ⟨k, rfl, hk, HR, HL, HE⟩ := hrel
    have XE : Ext ((w.alloc (cV s)).alloc zB16) wr := HE.out
    by_cases hlt : k < 4
    · have hk0 : (0 : Int) ≤ (k : Int) := by omega
      have hkI : (k : Int) < 4 := by omega
      have cw : wr.cell? ⟨w.heap.size + 1 + 1 + 1, k, none⟩ = some (.int .u32 ((wl s).getD k 0)) := by
        rw [at_cell HL.out]
        simpa using nums_get .u32 (wl s) k (by show k < 4; omega)
      go_wp2
      have hx0 := HS.out k
      obtain ⟨x, hx⟩ : ∃ x, (wl s).getD k 0 = x := ⟨_, rfl⟩
      have HXE := Lib.hid hx
      rw [List.getD_eq_getElem?_getD] at hx
      rw [hx]
      rw [HXE.out] at hx0 cw
      clear hx
      go_loopw [6] (fun i wr => ∃ j : Nat, i = .int .i64 j ∧ j ≤ 4 ∧ Hid (wr.heap[w.heap.size + 1 + 1]? = some (.cells (nums .u8 (toldS s (4 * k + j))).toArray 47 (0, 0))) ∧ Hid (wr.heap[w.heap.size + 1 + 1 + 1]? = some (.cells (nums .u32 (wl s)).toArray 159 (0, 0))) ∧ Hid (Ext ((w.alloc (cV s)).alloc zB16) wr)) (fun i _ => 4 - (intOf i).toNat)
      case atStart => exact ⟨0, rfl, by omega, HR.out, HL.out, HE.out⟩
      case round =>
        obtain ⟨j, rfl, hj, HR2, HL2, HE2⟩ := hrel
        by_cases hltj : j < 4
        · have hj0 : (0 : Int) ≤ (j : Int) := by omega
          have hjI : (j : Int) < 4 := by omega
          have ck : wr.cell? ⟨w.heap.size + 1 + 1, 4 * k + j, none⟩ = some (.int .u8 ((toldS s (4 * k + j)).getD (4 * k + j) 0)) := by
            rw [at_cell HR2.out]
            simpa using nums_get .u8 (toldS s (4 * k + j)) (4 * k + j) (by rw [toldS_len]; omega)
          have hf := at_frozen HR2.out (4 * k + j)
          have hlt16 : (4 : Int) * (k : Int) + (j : Int) < 16 := by omega
          have hge0 : (0 : Int) ≤ 4 * (k : Int) + (j : Int) := by omega
          go_wp2
          refine ⟨⟨j + 1, by go_num, by omega, ?_, at_other _ HL2.out (by simp), Ext.setg HE2.out _ _ _ (by simp)⟩, by simp [intOf]; omega⟩
          have h1 := at_set HR2.out (4 * k + j) (.int .u8 (x / 2 ^ (8 * j) % 256))
          refine (show (wr.setCell _ _).heap[w.heap.size + 1 + 1]? = _ from ?_)
          rw [h1, show toldS s (4 * k + (j + 1)) = (toldS s (4 * k + j)).set (4 * k + j) (byteAt s (4 * k + j)) from rfl, byteAt_ij s k j hltj, HXE.out, nums_set]
          simp
        · obtain rfl : j = 4 := by omega
          go_wp2
          go_roundw
          case rel => exact ⟨k + 1, by go_num, by omega, (show _ = _ by rw [show 4 * (k + 1) = 4 * k + 4 by omega]; exact HR2.out), HL2.out, HE2.out⟩
          case measure => simp [intOf]; omega
    · obtain rfl : k = 4 := by omega
      have YE : Ext w wr := Ext.trans_ inferInstance XE
      have HZr : Hid (wr.heap[w.heap.size + 1]? = some zB16) := at_ext (w := (w.alloc (cV s)).alloc zB16) (at_new1 (by simp))
      have HR : Hid (wr.heap[w.heap.size + 1 + 1]? = some (.cells (nums .u8 (toldS s 16)).toArray 47 (0, 0))) := HR.out
      have hl := toldS_len s 16
      obtain ⟨ts, hts⟩ : ∃ ts, toldS s 16 = ts := ⟨_, rfl⟩
      rw [hts] at HR hl
      have HTS := Lib.hid hts
      have HI16 : Hid ((Try.prog.info? 47).map (·.size) = some (nums .u8 ts).toArray.size) := by
        unfold Hid
        rw [List.size_toArray, nums_length, hl]
        kernel_rfl
      have HZ16 : Hid ((nums .u8 (List.replicate 16 0)).toArray.size = (nums .u8 ts).toArray.size) := by
        unfold Hid
        rw [List.size_toArray, List.size_toArray, nums_length, nums_length, hl]
        rfl
      clear hts hl
      go_wp2_with
        (first
         | (refine wpList_load_row rfl 47 (.tmp 3) rfl (w.heap.size + 1 + 1) rfl 47 (nums .u8 ts).toArray (0, 0) _ HR.out Try.underlying47 rfl HI16.out ?_)
         | (refine wpList_store_row rfl 47 (.tmp 2) (.tmp 38) rfl (w.heap.size + 1) (nums .u8 ts).toArray rfl rfl 47 (nums .u8 (List.replicate 16 0)).toArray HZr.out HI16.out HZ16.out (one_all _ _) ?_))
      exact bodyPost_ret (results_cell_row Try.results105 _ _ (w.heap.size + 1) 47 _ (0, 0) _ rfl (setRow_heap _ _ _ _ _ _ HZr.out) Try.underlying47 rfl HI16.out) rfl ⟨by rw [HTS.out], (Ext.setRow_ YE (by simp) _).out⟩
end Go.Proofs.Ytobddmpiljknpaa

namespace Go.Proofs.Ytobddmpiljknpaa
open Go.RowKit
set_option linter.unusedVariables false
set_option linter.unusedSimpArgs false

/-- A whole struct or array that is loaded, as one step of a region that draws its order. -/
theorem step_load_row {P : Program} {ops : Array Oper} {o : Oper} {a : Act} {w : World} {K : Act → World → Prop} {Q : Exit → Act → World → Prop} {F : Prop} (hw : Region.wanted o (yielded ops a.tmps) = true) (ty : TypeId) (x : Operand) (ho : o.op = .load ty x)
    (g : Nat) (hx : a.eval x = .pointer (some ⟨g, 0, none⟩)) (t : TypeId) (cs : Array Value) (fr : Nat × Nat) (d : TypeDesc) (hg : w.heap[g]? = some (.cells cs t fr))
    (hu : P.underlying ty = some d) (hd : (match d with | .struct _ | .array _ _ => true | _ => false) = true) (hi : (P.info? ty).map (·.size) = some cs.size)
    (h : K (a.put o.dst (.agg cs)) w) : if Region.wanted o (yielded ops a.tmps) = true then Oper.wp P o a w K Q else F := by
  rw [if_pos hw]
  unfold Oper.wp execOp
  simp only [ho, hx, Instr.loadAt, Instr.sureAddr, Sem.run_bind, Sem.run_pure, Result.andThen_ok, run_loadVar_row w g t ty cs fr d hg hu hd hi]
  exact h
/-- A whole struct or array that is stored, as one step of a region that draws its order. -/
theorem step_store_row {P : Program} {ops : Array Oper} {o : Oper} {a : Act} {w : World} {K : Act → World → Prop} {Q : Exit → Act → World → Prop} {F : Prop} (hw : Region.wanted o (yielded ops a.tmps) = true) (ty : TypeId) (x y : Operand) (ho : o.op = .store ty x y)
    (g : Nat) (cells : Array Value) (hx : a.eval x = .pointer (some ⟨g, 0, none⟩)) (hy : a.eval y = .agg cells)
    (t : TypeId) (old : Array Value) (hg : w.heap[g]? = some (.cells old t (0, 0))) (hi : (P.info? ty).map (·.size) = some cells.size)
    (hold : old.size = cells.size) (h1 : cells.all (·.oneCell') = true)
    (h : K (a.put o.dst undef) (w.setRow g cells)) : if Region.wanted o (yielded ops a.tmps) = true then Oper.wp P o a w K Q else F := by
  rw [if_pos hw]
  exact wp_store_row ty x y ho g cells hx hy t old hg hi hold h1 h
theorem begin_nums : nums .u32 beginL = nums .u32 [beginW.1, beginW.2.1, beginW.2.2.1, beginW.2.2.2] := rfl
set_option maxRecDepth 100000 in
set_option maxHeartbeats 8000000 in
theorem rsum4_any (A : Option Addr) (m c : Nat) (xs : List Int) (hm : xs.length = m) (hm' : m ≤ 140737488355200) (hby : Byt xs) (w : World) (hy : Cells w A (nums .u8 xs)) :
    Calls Try.prog 72 #[.slice A m c] w fun e w' => e = .returned (.agg (nums .u8 (digest xs)).toArray) ∧ Below w.heap.size w w' := by
  have HBX := Lib.hid hby
  have HXL := Lib.hid hm
  have HY := Lib.hid hy
  clear hm hby hy
  go_enter Try.func72, Try.ntmps72
  go_wp2_with
    (first
     | (at_builtin
        refine wp_append_cells (w0 := w.alloc zB16) (w.alloc zB16).heap.size rfl (.tmp 8) (.tmp 9) 22 5 (.int .u8 0) 1 1 rfl Try.underlying22 info_u8 rfl (by decide) (by decide) (.slice none 0 0) 0 [] A m c (nums .u8 xs) rfl rfl (by rw [nums_length, HXL.out, Nat.mul_one]) (nums_one _ _) (own_nil _ _ _ _) (by exact HY.out.ext) (Below.refl _ _) (Nat.le_refl _) (by omega) ?_
        intro v2 w2 ho2 hb2 hg2 hat2
        rw [List.nil_append, Nat.zero_add] at ho2
        obtain ⟨L2, l2, rfl, hl2⟩ := own_slice ho2
        have HO2 := Lib.hid ho2
        have X2 : Ext (w.alloc zB16) w2 := ⟨hb2⟩
        have HX2 := Lib.hid X2
        clear ho2 hb2 hg2 hat2)
     | (at_builtin
        refine wp_append_box (w0 := w.alloc zB16) (w.alloc zB16).heap.size rfl (.tmp 11) (.tmp 12) 22 5 (.int .u8 0) 1 1 1 rfl Try.underlying22 info_u8 rfl (by decide) (by decide) (.slice L2 m l2) m (nums .u8 xs) [.int .u8 128] rfl rfl rfl (one_int _ _) HO2.out HX2.out.out size_ext (by omega) ?_
        intro v3 w3 ho3 hb3 hg3 hat3
        obtain ⟨L3, l3, rfl, hl3⟩ := own_slice ho3
        have HO3 := Lib.hid ho3
        have HX3 : Hid (Ext (w.alloc zB16) w3) := ⟨hb3⟩
        clear ho3 hb3 hg3 hat3))
  have HBG : Hid ((8 : Int) * (m : Int) < 18446744073709551616) := by unfold Hid; omega
  go_loopw [3] (fun v wr => ∃ (k : Nat) (A : Option Addr) (c : Nat), k ≤ padZ m ∧ v = .slice A (m + 1 + k) c ∧ Hid (wr.ownsRow (w.alloc zB16).heap.size 5 1 (.slice A (m + 1 + k) c) (m + 1 + k) (nums .u8 (xs ++ [128] ++ List.replicate k 0))) ∧ Hid (Ext (w.alloc zB16) wr)) (fun v _ => match v with | .slice _ n _ => m + 200 - n | _ => 0)
  case atStart => exact ⟨0, L3, l3, by omega, rfl, (show World.ownsRow _ _ _ _ _ _ _ by simpa [nums] using HO3.out), HX3.out⟩
  case round =>
    obtain ⟨k, A3, c3, hk, rfl, HO, HX⟩ := hrel
    have hpz := padZ_ok m
    have XR : Ext (w.alloc zB16) wr := HX.out
    by_cases hlt : k < padZ m
    · have hne := padZ_no hlt
      have hk63 : k ≤ 63 := by omega
      have hneI : (((m : Int) + 1 + (k : Int)) % 64 != 56) = true := by rw [bne_iff_ne]; omega
      clear hpz hne
      go_wp2_with
        (at_builtin
         refine wp_append_box (w0 := w.alloc zB16) (w.alloc zB16).heap.size rfl (.tmp 18) (.tmp 19) 22 5 (.int .u8 0) 1 1 1 rfl Try.underlying22 info_u8 rfl (by decide) (by decide) (.slice A3 (m + 1 + k) c3) (m + 1 + k) (nums .u8 (xs ++ [128] ++ List.replicate k 0)) [.int .u8 0] rfl rfl rfl (one_int _ _) HO.out HX.out.out size_ext (by omega) ?_
         intro v4 w4 ho4 hb4 hg4 hat4
         obtain ⟨L4, l4, rfl, hl4⟩ := own_slice ho4
         have HO4 := Lib.hid ho4
         have HX4 : Hid (Ext (w.alloc zB16) w4) := ⟨hb4⟩
         clear ho4 hb4 hg4 hat4)
      go_roundw
      case rel =>
        refine ⟨k + 1, L4, l4, by omega, rfl, ?_, HX4.out⟩
        show World.ownsRow _ _ _ _ _ _ _
        rw [List.replicate_succ', ← List.append_assoc, nums_append (ys := [0])]
        exact HO4.out
      case measure => show m + 200 - (m + 1 + k + 1) < m + 200 - (m + 1 + k); omega
    · obtain rfl : k = padZ m := by omega
      obtain ⟨z, hz⟩ : ∃ z, padZ m = z := ⟨_, rfl⟩
      have HPZ := Lib.hid hz
      rw [hz] at hpz HO hk
      have heq : (((m : Int) + 1 + (z : Int)) % 64 != 56) = false := by rw [bne_eq_false_iff_eq]; omega
      rw [hz]
      clear hlt hz
      obtain ⟨zs, hzs⟩ : ∃ zs, xs ++ [128] ++ List.replicate z 0 = zs := ⟨_, rfl⟩
      have HZS := Lib.hid hzs
      rw [hzs] at HO
      clear hzs
      have h8w := HBG.out
      go_wp2
      clear h8w
      have hzl : zs.length = m + 1 + z := by rw [← HZS.out]; simp [HXL.out]; try omega
      have HZL := Lib.hid hzl
      clear hzl heq hpz
      have hz63 : z ≤ 63 := by have := padZ_ok m; have := HPZ.out; omega
      go_loopw [3, 5] (fun v i wr => ∃ (k : Nat) (A : Option Addr) (c : Nat), i = .int .i64 k ∧ k ≤ 8 ∧ v = .slice A (m + 1 + z + k) c ∧ Hid (wr.ownsRow (w.alloc zB16).heap.size 5 1 (.slice A (m + 1 + z + k) c) (m + 1 + z + k) (nums .u8 (zs ++ le8 (8 * (m : Int)) k))) ∧ Hid (Ext (w.alloc zB16) wr)) (fun _ i _ => 8 - (intOf i).toNat)
      case atStart => exact ⟨0, A3, c3, rfl, by omega, rfl, (show World.ownsRow _ _ _ _ _ _ _ by simpa [le8] using HO.out), HX.out⟩
      case round =>
        obtain ⟨k, A5, c5, rfl, hk8, rfl, HO5, HX5⟩ := hrel
        have XR5 : Ext (w.alloc zB16) wr := HX5.out
        by_cases hlt8 : k < 8
        · have hk0 : (0 : Int) ≤ (k : Int) := by omega
          have hkI : (k : Int) < 8 := by omega
          go_wp2_with
            (at_builtin
             refine wp_append_box (w0 := w.alloc zB16) (w.alloc zB16).heap.size rfl (.tmp 29) (.tmp 36) 22 5 (.int .u8 0) 1 1 1 rfl Try.underlying22 info_u8 rfl (by decide) (by decide) (.slice A5 (m + 1 + z + k) c5) (m + 1 + z + k) (nums .u8 (zs ++ le8 (8 * (m : Int)) k)) [.int .u8 (8 * (m : Int) / 2 ^ (8 * k) % 256)] rfl rfl rfl (one_int _ _) HO5.out HX5.out.out size_ext (by omega) ?_
             intro v4 w4 ho4 hb4 hg4 hat4
             obtain ⟨L4, l4, rfl, hl4⟩ := own_slice ho4
             have HO4 := Lib.hid ho4
             have HX4 : Hid (Ext (w.alloc zB16) w4) := ⟨hb4⟩
             clear ho4 hb4 hg4 hat4)
          go_roundw
          case rel =>
            refine ⟨k + 1, L4, l4, by go_num, by omega, rfl, ?_, HX4.out⟩
            show World.ownsRow _ _ _ _ _ _ _
            rw [le8_succ, ← List.append_assoc, nums_append (ys := [_])]
            exact HO4.out
          case measure => simp [intOf]; omega
        · obtain rfl : k = 8 := by omega
          have HPL : Hid (padL xs m = zs ++ le8 (8 * (m : Int)) 8) := by
            unfold Hid padL
            rw [HXL.out, HPZ.out, HZS.out, Int.mul_comm]
          obtain ⟨P, hP⟩ : ∃ P, padL xs m = P := ⟨_, rfl⟩
          have HPP := Lib.hid hP
          have hpm := padL_mod xs m
          rw [hP] at HPL hpm
          rw [← HPL.out] at HO5
          have hpl : P.length = m + 1 + z + 8 := by rw [← hP, padL_len, HXL.out, HPZ.out]
          have HPLN := Lib.hid hpl
          have HPM := Lib.hid hpm
          have hm9 : P.length ≤ 140737488355328 := by omega
          clear hP hpm hpl
          rw [show (((8 : Nat)) : Int) = (8 : Int) from rfl]
          have HBP : Hid (Byt P) := by
            unfold Hid
            rw [← HPP.out]
            exact padL_byt HBX.out
          have HCP := Lib.hid (own_cells HO5.out)
          have hc5 : m + 1 + z + 8 ≤ c5 := by
            obtain ⟨_, _, he, h⟩ := own_slice HO5.out
            injection he with _ _ he
            omega
          rw [← HPLN.out] at hc5
          have hgoalN : m + 1 + z + 8 = P.length := HPLN.out.symm
          go_wp2_with fail
          refine (rbegin4_any _).mono ?_
          rintro e w8 ⟨rfl, hb8⟩
          have S8 : Step w8 _ := ⟨hb8⟩
          clear hb8
          rw [begin_nums]
          simp only [nums, List.map_cons, List.map_nil]
          go_wp2
          rw [hgoalN]
          clear hgoalN
          have X8 : Ext wr w8 := inferInstance
          have HX8 : Hid (Ext (w.alloc zB16) w8) := Ext.trans_ XR5 X8
          have HC8 : Hid (Cells w8 A5 (nums .u8 P)) := HCP.out.ext
          have HB0 : Hid (beginW = (beginW.1, beginW.2.1, beginW.2.2.1, beginW.2.2.2)) := rfl
          go_loopw [7] (fun i wr' => ∃ (j : Nat), i = .int .i64 (64 * j : Nat) ∧ 64 * j ≤ P.length ∧ Hid (wr'.heap[w8.heap.size]? = some (cV (mdN beginW P j))) ∧ Hid (Ext w8 wr')) (fun i _ => P.length - (intOf i).toNat)
          case atStart => exact ⟨0, rfl, by omega, at_new w8 _, (inferInstance : Ext w8 (World.alloc _ _))⟩
          case round =>
            obtain ⟨j, rfl, hj, HK6, HX6⟩ := hrel
            have X9 : Ext w8 wr := HX6.out
            have HC6 : Hid (Cells wr A5 (nums .u8 P)) := HC8.out.ext
            obtain ⟨⟨a1, b1, c1, d1⟩, hq⟩ : ∃ q, mdN beginW P j = q := ⟨_, rfl⟩
            rw [hq] at HK6
            by_cases hlt : 64 * j < P.length
            · have h64 : 64 * j + 64 ≤ P.length := by have := HPM.out; omega
              have HPc : P.length ≤ c5 := hc5
              obtain ⟨bs, hbs⟩ : ∃ bs, P.drop (64 * j) = bs := ⟨_, rfl⟩
              have HBB : Hid (Byt (bs.take 64)) := by rw [← hbs]; exact (HBP.out.drop _).take _
              have HBL : Hid ((bs.take 64).length = 64) := by unfold Hid; rw [List.length_take, ← hbs, List.length_drop]; omega
              obtain ⟨⟨a2, b2, c2, d2⟩, hq2⟩ : ∃ q, mdBlock (a1, b1, c1, d1) bs = q := ⟨_, rfl⟩
              have HQ2 : Hid (mdBlock (a1, b1, c1, d1) (bs.take 64) = (a2, b2, c2, d2)) := by
                unfold Hid
                rw [← hq2]
                refine mdBlock_ext _ fun k hk => ?_
                simp only [List.getD_eq_getElem?_getD]
                rw [List.getElem?_take_of_lt hk]
              have HNX : Hid (mdN beginW P (j + 1) = (a2, b2, c2, d2)) := by
                unfold Hid
                rw [mdN, hq, hbs]
                exact hq2
              obtain ⟨ad, rfl, hat⟩ := HC6.out (by rw [nums_length]; omega)
              have HAT := Lib.hid hat
              have HBC : Hid (Cells wr (some (ad.add (64 * j))) (nums .u8 (bs.take 64))) := by
                have h1 := HC6.out.drop (n := P.length) (c := c5) (size := 1) (by rw [nums_length, Nat.mul_one]) HPc (64 * j) (by omega)
                rw [if_neg (by omega), Nat.mul_one, ← nums_drop, hbs] at h1
                have h2 := h1.take 64
                rw [← nums_take] at h2
                exact h2
              clear hq hq2 hbs hat
              have hltI : (64 : Int) * (j : Int) < (P.length : Int) := by omega
              have wi : IntKind.i64.wrap (64 * (j : Int) + 64) = 64 * (j : Int) + 64 := by rw [IntKind.wrap_i64]; omega
              have g0 : (0 : Int) ≤ 64 * (j : Int) := by omega
              have g1 : 64 * (j : Int) ≤ 64 * (j : Int) + 64 := by omega
              have g2 : 64 * (j : Int) + 64 ≤ (c5 : Int) := by omega
              have g3 : (64 * (j : Int)).toNat = 64 * j := by omega
              have g4 : (64 * (j : Int) + 64).toNat = 64 * j + 64 := by omega
              have g5 : ¬ c5 = 64 * j := by omega
              have g6 : 64 * j + 64 - 64 * j = 64 := by omega
              have hcc : 64 ≤ c5 - 64 * j := by omega
              have z9 : w8.heap.size < wr.heap.size := at_lt HK6.out
              go_wp2
              refine wp_region_held_drew (S := fun W => Ext w8 W) (by kernel_rfl) (by exact inferInstance) (fun hHeld => ?_)
              refine wpAnyH_take (i := 1) (v := ?_) rfl (by kernel_rfl) (by kernel_rfl) (by kernel_rfl) (fun _ _ _ h => h) (Yields.yieldsIf (Or.inl ⟨by rfl, ?_⟩)) hHeld ?_
              rotate_left
              · intro W
                go_simp
                try with_reducible rfl
              simp only [List.getElem_toArray, List.getElem_cons_succ, List.getElem_cons_zero, Act.put, List.setIfInBounds_toArray, List.set_cons_zero, List.set_cons_succ]
              refine wpAnyH_take (i := 2) (v := ?_) rfl (by kernel_rfl) (by kernel_rfl) (by kernel_rfl) (fun _ _ _ h => h) (Yields.yieldsIf (Or.inl ⟨by rfl, ?_⟩)) hHeld ?_
              rotate_left
              · intro W
                go_simp
                try with_reducible rfl
              simp only [List.getElem_toArray, List.getElem_cons_succ, List.getElem_cons_zero, Act.put, List.setIfInBounds_toArray, List.set_cons_zero, List.set_cons_succ]
              refine wpAnyH_take (i := 3) (v := ?_) rfl (by kernel_rfl) (by kernel_rfl) (by kernel_rfl) (fun _ _ _ h => h) (Yields.yieldsIf (Or.inl ⟨by rfl, ?_⟩)) hHeld ?_
              rotate_left
              · intro W
                go_simp
                try with_reducible rfl
              simp only [List.getElem_toArray, List.getElem_cons_succ, List.getElem_cons_zero, Act.put, List.setIfInBounds_toArray, List.set_cons_zero, List.set_cons_succ]
              refine wpAnyH_take (i := 4) (v := ?_) rfl (by kernel_rfl) (by kernel_rfl) (by kernel_rfl) (fun _ _ _ h => h) (Yields.yieldsIf (Or.inl ⟨by rfl, ?_⟩)) hHeld ?_
              rotate_left
              · intro W
                go_simp
                try with_reducible rfl
              simp only [List.getElem_toArray, List.getElem_cons_succ, List.getElem_cons_zero, Act.put, List.setIfInBounds_toArray, List.set_cons_zero, List.set_cons_succ]
              refine wpAnyH_take (i := 5) (v := ?_) rfl (by kernel_rfl) (by kernel_rfl) (by kernel_rfl) (fun _ _ _ h => h) (Yields.yieldsIf (Or.inl ⟨by rfl, ?_⟩)) hHeld ?_
              rotate_left
              · intro W
                go_simp
                try with_reducible rfl
              simp only [List.getElem_toArray, List.getElem_cons_succ, List.getElem_cons_zero, Act.put, List.setIfInBounds_toArray, List.set_cons_zero, List.set_cons_succ]
              refine wpAnyH_ready (rs := [0]) (by kernel_rfl) (by simp) ?_
              refine AllReadyH.cons rfl (fun K hK => ?_) AllReadyH.nil
              refine step_load_row (by rfl) 161 (.tmp 6) rfl w8.heap.size rfl 161 #[.int .u32 a1, .int .u32 b1, .int .u32 c1, .int .u32 d1] (0, 0) _ (by exact HK6.out) Try.underlying161 rfl (by kernel_rfl) ?_
              clear hHeld
              refine hK.out _ _ (by exact inferInstance) (fun hHeld => ?_)
              clear hK K
              simp only [List.getElem_toArray, List.getElem_cons_succ, List.getElem_cons_zero, Act.put, List.setIfInBounds_toArray, List.set_cons_zero, List.set_cons_succ]
              refine wpAnyH_ready (rs := [6]) (by kernel_rfl) (by simp) ?_
              refine AllReadyH.cons rfl (fun K hK => ?_) AllReadyH.nil
              refine step_call_w (by rfl) Try.func104 (by kernel_rfl) (by kernel_rfl) #[.tmp 45, .tmp 50] #[161, 22] rfl #[.agg #[.int .u32 a1, .int .u32 b1, .int .u32 c1, .int .u32 d1], .slice (some (ad.add (64 * j))) 64 (c5 - 64 * j)] ?hv (rblock4_any a1 b1 c1 d1 (some (ad.add (64 * j))) 64 (c5 - 64 * j) (bs.take 64) HBL.out (Nat.le_refl _) hcc HBB.out _ (by exact HBC.out.ext)) ?_
              case hv => go_simp
              rintro e w5 ⟨rfl, hb5⟩
              refine ⟨_, rfl, ?_⟩
              rw [HQ2.out]
              simp only
              have S5 : Step w5 _ := ⟨hb5⟩
              have HK5 := Lib.hid (at_ext (w' := w5) HK6.out)
              clear hb5 hHeld
              refine hK.out _ _ (by exact inferInstance) (fun hHeld => ?_)
              clear hK K
              simp only [List.getElem_toArray, List.getElem_cons_succ, List.getElem_cons_zero, Act.put, List.setIfInBounds_toArray, List.set_cons_zero, List.set_cons_succ]
              refine wpAnyH_ready (rs := [7]) (by kernel_rfl) (by simp) ?_
              refine AllReadyH.cons rfl (fun K hK => ?_) AllReadyH.nil
              refine step_store_row (by rfl) 161 (.tmp 6) (.tmp 51) rfl w8.heap.size #[.int .u32 a2, .int .u32 b2, .int .u32 c2, .int .u32 d2] rfl rfl 161 #[.int .u32 a1, .int .u32 b1, .int .u32 c1, .int .u32 d1] HK5.out (by kernel_rfl) rfl (one_all .u32 [a2, b2, c2, d2]) ?_
              clear hHeld
              have X5 : Ext w8 w5 := inferInstance
              refine hK.out _ _ (Ext.setRow_ X5 (Nat.le_refl _) _) (fun hHeld => ?_)
              clear hK K
              simp only [List.getElem_toArray, List.getElem_cons_succ, List.getElem_cons_zero, Act.put, List.setIfInBounds_toArray, List.set_cons_zero, List.set_cons_succ]
              refine wpAnyH_done (by kernel_rfl) ?_ _
              clear hHeld
              go_wp2
              go_roundw
              case rel =>
                refine ⟨j + 1, by go_num, by omega, ?_, Ext.setRow_ X5 (Nat.le_refl _) _⟩
                unfold Hid
                rw [HNX.out]
                exact setRow_heap _ _ _ _ _ _ HK5.out
              case measure => simp [intOf]; omega
            · obtain hjq : 64 * j = P.length := by omega
              have hjI : ¬ (64 : Int) * (j : Int) < (P.length : Int) := by omega
              have HDS : Hid (digest xs = toldS (a1, b1, c1, d1) 16) := by
                unfold Hid
                rw [digest_eq, HXL.out, HPP.out, show P.length / 64 = j by omega, hq]
              have HWK : Hid (WOk (a1, b1, c1, d1)) := by
                unfold Hid
                rw [← hq]
                exact wok_run wok_begin P j
              have HZ0 : Hid ((w.alloc zB16).heap[w.heap.size]? = some zB16) := at_new w _
              have YA : Ext (w.alloc zB16) w8 := HX8.out
              have YW : Ext (w.alloc zB16) wr := Ext.trans_ YA X9
              have HZW := Lib.hid (at_ext (w' := wr) HZ0.out)
              clear hq hjq
              go_wp2_with
                (refine wpList_load_row rfl 161 (.tmp 6) rfl w8.heap.size rfl 161 #[.int .u32 a1, .int .u32 b1, .int .u32 c1, .int .u32 d1] (0, 0) _ HK6.out Try.underlying161 rfl (by kernel_rfl) ?_)
              refine (rtold4_any (a1, b1, c1, d1) HWK.out _).mono ?_
              rintro e w5 ⟨rfl, hb5⟩
              have S5 : Step w5 _ := ⟨hb5⟩
              have HZ5 := Lib.hid (at_ext (w' := w5) HZW.out)
              have hl := toldS_len (a1, b1, c1, d1) 16
              obtain ⟨ts, hts⟩ : ∃ ts, toldS (a1, b1, c1, d1) 16 = ts := ⟨_, rfl⟩
              rw [hts] at hl HDS ⊢
              have HI16 : Hid ((Try.prog.info? 47).map (·.size) = some (nums .u8 ts).toArray.size) := by
                unfold Hid
                rw [List.size_toArray, nums_length, hl]
                kernel_rfl
              have HZ16 : Hid ((nums .u8 (List.replicate 16 0)).toArray.size = (nums .u8 ts).toArray.size) := by
                unfold Hid
                rw [List.size_toArray, List.size_toArray, nums_length, nums_length, hl]
                rfl
              clear hts hl hb5
              have YZ : Ext w w5 := Ext.trans_ (Ext.trans_ (inferInstance : Ext w (w.alloc zB16)) YA) (inferInstance : Ext w8 w5)
              go_wp2_with
                (refine wpList_store_row rfl 47 (.tmp 2) (.tmp 53) rfl w.heap.size (nums .u8 ts).toArray rfl rfl 47 (nums .u8 (List.replicate 16 0)).toArray HZ5.out HI16.out HZ16.out (one_all _ _) ?_)
              exact bodyPost_ret (results_cell_row Try.results72 _ _ w.heap.size 47 _ (0, 0) _ rfl (setRow_heap _ _ _ _ _ _ HZ5.out) Try.underlying47 rfl HI16.out) rfl ⟨by rw [HDS.out], (Ext.setRow_ YZ (Nat.le_refl _) _).out⟩
end Go.Proofs.Ytobddmpiljknpaa

namespace Go.Proofs.Ytobddmpiljknpaa
open Go.RowKit
set_option linter.unusedVariables false
set_option linter.unusedSimpArgs false

/-- A text's bytes. -/
def strB (s : ByteArray) : List Int := s.data.toList.map fun b => (b.toNat : Int)
theorem strB_len (s : ByteArray) : (strB s).length = s.size := by
  rw [strB, List.length_map, Array.length_toList]
  rfl
theorem strB_byt (s : ByteArray) : Byt (strB s) := by
  intro x hx
  simp only [strB, List.mem_map] at hx
  obtain ⟨b, _, rfl⟩ := hx
  have := b.toNat_lt
  omega
theorem strB_cells (s : ByteArray) : Lib.strCells s = nums .u8 (strB s) := by simp [Lib.strCells, nums, strB]
theorem strB_str (xs : List Int) (h : Byt xs) : strB (strOfNums xs) = xs := by
  unfold strB
  rw [strOfNums_data, List.map_map]
  conv => rhs; rw [← List.map_id xs]
  refine List.map_congr_left fun x hx => ?_
  have := h x hx
  simp only [Function.comp_apply, id_eq]
  rw [UInt8.toNat_ofNat']
  omega
theorem conv_str {P : Program} (w : World) (src dst e : TypeId) (s : ByteArray) (hs : P.underlying src = some .string) (hd : P.underlying dst = some (.slice e)) (he : P.underlying e = some (.int .u8)) :
    ∃ w1 c, (convert src dst (.string s)).run P w = .ok (.slice (some ⟨w.heap.size, 0, none⟩) s.size c) w1 ∧ s.size ≤ c ∧ Cells w1 (some ⟨w.heap.size, 0, none⟩) (nums .u8 (strB s)) ∧ Below w.heap.size w w1 ∧ w1.heap.size = w.heap.size + 1 := by
  refine ⟨_, _, Lib.run_convert_string_bytes w src dst e s hs hd he, grownCap_ge w s.size 0 e, ?_, ⟨?_, ?_, ?_, ?_, fun k hk => Lib.bytesWorld_at_old w e s k hk⟩, Lib.bytesWorld_size w e s⟩
  · intro _
    refine ⟨_, rfl, fun j u hu => ?_⟩
    have hj : j < s.size := by have := (List.getElem?_eq_some_iff.1 hu).1; rwa [nums_length, strB_len] at this
    rw [add_plain, Lib.bytesWorld_cell w e s j hj, ← hu, nums_get _ _ _ (by rw [strB_len]; exact hj)]
    simp only [strB, List.getD_eq_getElem?_getD, List.getElem?_map]
    have : j < s.data.toList.length := by rw [Array.length_toList]; exact hj
    rw [List.getElem?_eq_getElem this]
    rfl
  · unfold Lib.bytesWorld World.freeze
    split <;> rfl
  · unfold Lib.bytesWorld World.freeze
    split <;> rfl
  · unfold Lib.bytesWorld World.freeze
    split <;> rfl
  · rw [Lib.bytesWorld_size]
    omega
theorem StreamAt.young {w : World} {base g : Nat} {s : W4} {ps : List W4} {xs : List Int} {n : Int} {pv lv : Value} (h : StreamAt w base g s ps xs n pv lv) : ∀ k, StreamS g pv lv k → base ≤ k := by
  rintro k (rfl | hk | hk)
  · exact h.base_
  · exact own_base h.past k hk
  · exact (h.left.lt k hk).1
theorem StreamOf.wrote {w0 w w' : World} {base g : Nat} {ys : List Int} {pv lv : Value} [X : Ext w0 w] (h : StreamOf w base g ys pv lv) (hon : Only (StreamS g pv lv) w w') (hb : w0.heap.size ≤ base) : Step w' w0 :=
  ⟨X.out.trans (hon.below (fun k hk => Nat.le_trans hb (StreamAt.young h k hk)) X.out.size)⟩
theorem results_cell_row2 {P : Program} {fn : Func} {p q : Tmp} {ty : TypeId} (h : fn.results = #[.cell p ty, .tmp q]) (tmps : Array Value) (w : World) (g : Nat) (t : TypeId) (cs : Array Value) (fr : Nat × Nat) (d : TypeDesc) (v : Value)
    (hp : tmps.getD p undef = .pointer (some ⟨g, 0, none⟩)) (hq : tmps.getD q undef = v) (hg : w.heap[g]? = some (.cells cs t fr))
    (hu : P.underlying ty = some d) (hd : (match d with | .struct _ | .array _ _ => true | _ => false) = true) (hi : (P.info? ty).map (·.size) = some cs.size) :
    (results fn tmps).run P w = .ok (.tuple #[.agg cs, v]) w := by
  have hp' : tmps[p]?.getD undef = .pointer (some ⟨g, 0, none⟩) := by simpa using hp
  have hq' : tmps[q]?.getD undef = v := by simpa using hq
  simp [results, h, hp', hq', asAddr, run_loadVar_row w g t ty cs fr d hg hu hd hi]
/-- 'append(v, s...)': v a row of the call's own, s a text. -/
theorem wp_append_str {P : Program} {ops : Array Oper} {rest : List Oper} {o : Oper} {a : Act} {Q : Exit → Act → World → Prop} {w0 W : World} (base : Nat) (hgd : o.guard = none) (s x : Operand) (t u e : TypeId)
    (ho : o.op = .call { callee := .builtin .append, args := #[s, x], argTypes := #[t, u] })
    (ht : P.underlying t = some (.slice e)) (hu : P.underlying u = some .string) (hinfo : (P.info? e).map (fun i => (i.zero, i.size, i.bytes)) = some (some (.int .u8 0), 1, 1))
    (v : Value) (n : Nat) (cs : List Value) (str : ByteArray) (hs : a.eval s = v) (hx : a.eval x = .string str)
    (HO : W.ownsRow base e 1 v n cs) (HB : Below base w0 W) (hbase : base ≤ W.heap.size) (hk : n + str.size ≤ 140737488355328)
    (h : ∀ v1 w1, w1.ownsRow base e 1 v1 (n + str.size) (cs ++ nums .u8 (strB str)) → Below base w0 w1 → W.grownBy w1 v.ownBlock → wpList P ops Q rest (a.put o.dst v1) w1) :
    wpList P ops Q (o :: rest) a W := by
  obtain ⟨i0, hi, hzz⟩ := Option.map_eq_some_iff.1 hinfo
  simp only [Prod.mk.injEq] at hzz
  refine Lib.wpList_append_own_string W hgd s x t u ho base e i0 ht hu hi hzz.1 hzz.2.1 hzz.2.2 v n cs hs HO str hx (by simp only [maxLen]; omega) hk hbase ?_
  intro v1 w1 h2 h3 _
  rw [strB_cells] at h2
  exact h v1 w1 h2 (HB.grown h3 hbase (own_base HO)) h3
/-- What is answered. -/
def respE (id : Int) : Int := if id < 0 ∨ 255 < id then 1 else 0
def respD (id : Int) (s : ByteArray) (xs : List Int) : List Int := if id < 0 ∨ 255 < id then List.replicate 16 0 else digest ([id] ++ strB s ++ xs)
theorem respD_len (id : Int) (s : ByteArray) (xs : List Int) : (respD id s xs).length = 16 := by
  unfold respD
  split
  · rfl
  · exact digest_len _
set_option maxRecDepth 100000 in
set_option maxHeartbeats 4000000 in
theorem resp4_any (id : Int) (s : ByteArray) (A : Option Addr) (n c : Nat) (xs : List Int) (hn : xs.length = n) (hsn : s.size + n ≤ 70368744177664) (hb : Byt xs) (w : World) (hx : Cells w A (nums .u8 xs)) :
    Calls Try.prog 44 #[.int .i64 id, .string s, .slice A n c] w fun e w' => e = .returned (.tuple #[.agg (nums .u8 (respD id s xs)).toArray, .int .i64 (respE id)]) ∧ Below w.heap.size w w' := by
  have Hn := Lib.hid hn
  have HX := Lib.hid hx
  have HB := Lib.hid hb
  have HSL := Lib.hid (strB_len s)
  have HAL : Hid (∀ ad, 0 < xs.length → A = some ad → ad.block < w.heap.size) := by
    intro ad hp ha
    obtain ⟨ad', he, h⟩ := hx (by rw [nums_length]; exact hp)
    rw [ha] at he
    injection he with he
    subst he
    have := World.block_lt_of_cell? _ _ (h 0 _ (by rw [List.getElem?_eq_getElem (by rw [nums_length]; exact hp)]))
    rwa [block_of_add] at this
  clear hn hx hb
  have HZ0 : Hid ((w.alloc zB16).heap[w.heap.size]? = some zB16) := at_new w _
  by_cases h1 : id < 0
  · have HE : Hid (respE id = 1) := by unfold Hid respE; rw [if_pos (.inl h1)]
    have HD : Hid (respD id s xs = List.replicate 16 0) := by unfold Hid respD; rw [if_pos (.inl h1)]
    go_enter Try.func44, Try.ntmps44
    go_wp2_with
      (refine wpList_store_row rfl 47 (.tmp 6) (.tmp 15) rfl w.heap.size (nums .u8 (List.replicate 16 0)).toArray rfl rfl 47 (nums .u8 (List.replicate 16 0)).toArray HZ0.out (by kernel_rfl) rfl (one_all _ _) ?_)
    refine bodyPost_ret (results_cell_row2 Try.results44 _ _ w.heap.size 47 _ (0, 0) _ (.int .i64 1) rfl rfl (setRow_heap _ _ _ _ _ _ HZ0.out) Try.underlying47 rfl (by kernel_rfl)) rfl ⟨?_, (Ext.setRow_ (inferInstance : Ext w (w.alloc zB16)) (Nat.le_refl _) _).out⟩
    rw [HE.out, HD.out]
    rfl
  by_cases h2 : 255 < id
  · have HE : Hid (respE id = 1) := by unfold Hid respE; rw [if_pos (.inr h2)]
    have HD : Hid (respD id s xs = List.replicate 16 0) := by unfold Hid respD; rw [if_pos (.inr h2)]
    go_enter Try.func44, Try.ntmps44
    go_wp2_with
      (refine wpList_store_row rfl 47 (.tmp 6) (.tmp 15) rfl w.heap.size (nums .u8 (List.replicate 16 0)).toArray rfl rfl 47 (nums .u8 (List.replicate 16 0)).toArray HZ0.out (by kernel_rfl) rfl (one_all _ _) ?_)
    refine bodyPost_ret (results_cell_row2 Try.results44 _ _ w.heap.size 47 _ (0, 0) _ (.int .i64 1) rfl rfl (setRow_heap _ _ _ _ _ _ HZ0.out) Try.underlying47 rfl (by kernel_rfl)) rfl ⟨?_, (Ext.setRow_ (inferInstance : Ext w (w.alloc zB16)) (Nat.le_refl _) _).out⟩
    rw [HE.out, HD.out]
    rfl
  have HE : Hid (respE id = 0) := by unfold Hid respE; rw [if_neg (by omega)]
  have HD : Hid (respD id s xs = digest ([id] ++ strB s ++ xs)) := by unfold Hid respD; rw [if_neg (by omega)]
  have hwid : IntKind.u8.wrap id = id := by rw [IntKind.wrap_u8]; omega
  go_enter Try.func44, Try.ntmps44
  go_wp2_with fail
  refine (new4_any _).mono ?_
  rintro e w1 ⟨g, rfl, hst, hb1⟩
  have S1 : Step w1 _ := ⟨hb1⟩
  have HST1 := Lib.hid (StreamOf.new hst)
  have HG : Hid (w.heap.size < g ∧ g < w1.heap.size) := ⟨by have := hst.base_; simp at this; omega, at_lt hst.at_⟩
  clear hst hb1
  go_wp2_with fail
  refine (writeAll4_any g _ [] [id] _ _ (some ⟨w1.heap.size, 0, none⟩) 1 1 _ rfl Byt.nil_ (Byt.one (by omega) (by omega)) (fun _ ad ha => by injection ha with ha; rw [← ha]; exact Nat.ne_of_gt HG.out.2) (by simp) (HST1.out.ext) (by simpa using (Ext.out (w := w.alloc zB16) (w' := w1.alloc (.cells (nums .u8 [id]).toArray 5))).size) (cells_box w1 _ rfl (nums .u8 [id]) _)).mono ?_
  rintro e w2 ⟨pv, lv, rfl, hst2, hon2, hos2⟩
  have S2 : Step w2 (w.alloc zB16) := StreamOf.wrote (w0 := w.alloc zB16) HST1.out.ext hon2 (Nat.le_refl _)
  have HST2 := Lib.hid hst2
  have HG2 : Hid (w.heap.size < g ∧ g < w2.heap.size) := ⟨HG.out.1, at_lt hst2.at_⟩
  clear hst2 hon2 hos2
  obtain ⟨w3, cw, hcv, hcw, hc3, hb3, hz3⟩ := conv_str (P := Try.prog) w2 9 22 5 s Try.underlying9 Try.underlying22 Try.underlying5
  have S3 : Step w3 w2 := ⟨hb3⟩
  have HC3 := Lib.hid hc3
  clear hb3 hc3 hz3
  go_wp2_with fail
  refine (writeAll4_any g _ ([] ++ [id]) (strB s) pv lv (some ⟨w2.heap.size, 0, none⟩) s.size cw w3 HSL.out (Byt.one (by omega) (by omega)) (strB_byt s) (fun _ ad ha => by injection ha with ha; rw [← ha]; exact Nat.ne_of_gt HG2.out.2) (by simp; omega) (HST2.out.ext) (Ext.out (w := w.alloc zB16) (w' := w3)).size HC3.out).mono ?_
  rintro e w4 ⟨pv4, lv4, rfl, hst4, hon4, hos4⟩
  have S4 : Step w4 (w.alloc zB16) := StreamOf.wrote (w0 := w.alloc zB16) (w := w3) HST2.out.ext hon4 (Nat.le_refl _)
  have HST4 := Lib.hid hst4
  clear hst4 hon4 hos4 hcv
  go_wp2_with fail
  refine (writeAll4_any g _ ([] ++ [id] ++ strB s) xs pv4 lv4 A n c w4 Hn.out (Byt.append (Byt.one (by omega) (by omega)) (strB_byt s)) HB.out (fun h0 ad ha => by have := HAL.out ad (by rw [Hn.out]; exact h0) ha; have := HG.out.1; omega) (by simp [HSL.out]; omega) (HST4.out) (Ext.out (w := w.alloc zB16) (w' := w4)).size (by exact HX.out.ext)).mono ?_
  rintro e w5 ⟨pv5, lv5, rfl, hst5, hon5, hos5⟩
  have S5 : Step w5 (w.alloc zB16) := StreamOf.wrote (w0 := w.alloc zB16) (w := w4) HST4.out hon5 (Nat.le_refl _)
  have HST5 := Lib.hid hst5
  clear hst5 hon5 hos5
  go_wp2_with fail
  refine (sumAll4_any g _ ([] ++ [id] ++ strB s ++ xs) pv5 lv5 w5 (Byt.append (Byt.append (Byt.one (by omega) (by omega)) (strB_byt s)) HB.out) (by simp [HSL.out, Hn.out]; omega) HST5.out).mono ?_
  rintro e w6 ⟨rfl, hb6⟩
  have S6 : Step w6 _ := ⟨hb6⟩
  clear hb6
  rw [List.nil_append, ← HD.out]
  have HZ6 : Hid (w6.heap[w.heap.size]? = some zB16) := at_ext (w := w.alloc zB16) HZ0.out
  have hl := respD_len id s xs
  obtain ⟨ts, hts⟩ : ∃ ts, respD id s xs = ts := ⟨_, rfl⟩
  have HTS := Lib.hid hts
  rw [hts] at hl ⊢
  have HI16 : Hid ((Try.prog.info? 47).map (·.size) = some (nums .u8 ts).toArray.size) := by
    unfold Hid
    rw [List.size_toArray, nums_length, hl]
    kernel_rfl
  have HZ16 : Hid ((nums .u8 (List.replicate 16 0)).toArray.size = (nums .u8 ts).toArray.size) := by
    unfold Hid
    rw [List.size_toArray, List.size_toArray, nums_length, nums_length, hl]
    rfl
  clear hts hl
  go_wp2_with
    (refine wpList_store_row rfl 47 (.tmp 6) (.tmp 30) rfl w.heap.size (nums .u8 ts).toArray rfl rfl 47 (nums .u8 (List.replicate 16 0)).toArray HZ6.out HI16.out HZ16.out (one_all _ _) ?_)
  refine bodyPost_ret (results_cell_row2 Try.results44 _ _ w.heap.size 47 _ (0, 0) _ (.int .i64 0) rfl rfl (setRow_heap _ _ _ _ _ _ HZ6.out) Try.underlying47 rfl HI16.out) rfl ⟨?_, (Ext.setRow_ (inferInstance : Ext w w6) (Nat.le_refl _) _).out⟩
  rw [HE.out, HTS.out]
set_option maxRecDepth 100000 in
set_option maxHeartbeats 4000000 in
theorem rresp4_any (id : Int) (s : ByteArray) (A : Option Addr) (n c : Nat) (xs : List Int) (hn : xs.length = n) (hsn : s.size + n ≤ 70368744177664) (hb : Byt xs) (w : World) (hx : Cells w A (nums .u8 xs)) :
    Calls Try.prog 30 #[.int .i64 id, .string s, .slice A n c] w fun e w' => e = .returned (.tuple #[.agg (nums .u8 (respD id s xs)).toArray, .int .i64 (respE id)]) ∧ Below w.heap.size w w' := by
  have Hn := Lib.hid hn
  have HX := Lib.hid hx
  have HB := Lib.hid hb
  have HSL := Lib.hid (strB_len s)
  clear hn hx hb
  have HZ0 : Hid ((w.alloc zB16).heap[w.heap.size]? = some zB16) := at_new w _
  by_cases h1 : id < 0
  · have HE : Hid (respE id = 1) := by unfold Hid respE; rw [if_pos (.inl h1)]
    have HD : Hid (respD id s xs = List.replicate 16 0) := by unfold Hid respD; rw [if_pos (.inl h1)]
    go_enter Try.func30, Try.ntmps30
    go_wp2_with
      (refine wpList_store_row rfl 47 (.tmp 6) (.tmp 15) rfl w.heap.size (nums .u8 (List.replicate 16 0)).toArray rfl rfl 47 (nums .u8 (List.replicate 16 0)).toArray HZ0.out (by kernel_rfl) rfl (one_all _ _) ?_)
    refine bodyPost_ret (results_cell_row2 Try.results30 _ _ w.heap.size 47 _ (0, 0) _ (.int .i64 1) rfl rfl (setRow_heap _ _ _ _ _ _ HZ0.out) Try.underlying47 rfl (by kernel_rfl)) rfl ⟨?_, (Ext.setRow_ (inferInstance : Ext w (w.alloc zB16)) (Nat.le_refl _) _).out⟩
    rw [HE.out, HD.out]
    rfl
  by_cases h2 : 255 < id
  · have HE : Hid (respE id = 1) := by unfold Hid respE; rw [if_pos (.inr h2)]
    have HD : Hid (respD id s xs = List.replicate 16 0) := by unfold Hid respD; rw [if_pos (.inr h2)]
    go_enter Try.func30, Try.ntmps30
    go_wp2_with
      (refine wpList_store_row rfl 47 (.tmp 6) (.tmp 15) rfl w.heap.size (nums .u8 (List.replicate 16 0)).toArray rfl rfl 47 (nums .u8 (List.replicate 16 0)).toArray HZ0.out (by kernel_rfl) rfl (one_all _ _) ?_)
    refine bodyPost_ret (results_cell_row2 Try.results30 _ _ w.heap.size 47 _ (0, 0) _ (.int .i64 1) rfl rfl (setRow_heap _ _ _ _ _ _ HZ0.out) Try.underlying47 rfl (by kernel_rfl)) rfl ⟨?_, (Ext.setRow_ (inferInstance : Ext w (w.alloc zB16)) (Nat.le_refl _) _).out⟩
    rw [HE.out, HD.out]
    rfl
  have HE : Hid (respE id = 0) := by unfold Hid respE; rw [if_neg (by omega)]
  have HD : Hid (respD id s xs = digest ([id] ++ strB s ++ xs)) := by unfold Hid respD; rw [if_neg (by omega)]
  have hwid : IntKind.u8.wrap id = id := by rw [IntKind.wrap_u8]; omega
  go_enter Try.func30, Try.ntmps30
  have HO0 : Hid (((w.alloc zB16).alloc (.cells (nums .u8 [id]).toArray 5)).ownsRow (w.alloc zB16).heap.size 5 1 (.slice (some ⟨w.heap.size + 1, 0, none⟩) 1 1) 1 (nums .u8 [id])) := own_of_block (cap := 1) (at_new1 (by simp)) (by simp) (Nat.le_refl _) (by decide) rfl
  go_wp2_with
    (first
     | (at_builtin
        refine wp_append_str (w0 := w.alloc zB16) (w.alloc zB16).heap.size rfl (.tmp 19) (.tmp 20) 22 9 5 rfl Try.underlying22 Try.underlying9 info_u8 (.slice (some ⟨w.heap.size + 1, 0, none⟩) 1 1) 1 (nums .u8 [id]) s rfl rfl HO0.out (Ext.out (w := w.alloc zB16) (w' := (w.alloc zB16).alloc _)) size_ext (by omega) ?_
        intro v2 w2 ho2 hb2 hg2
        obtain ⟨L2, l2, rfl, hl2⟩ := own_slice ho2
        have HO2 := Lib.hid ho2
        have X2 : Ext (w.alloc zB16) w2 := ⟨hb2⟩
        have HX2 := Lib.hid X2
        have HY2 : Hid (Cells w2 A (nums .u8 xs)) := by
          have Y2 : Ext w w2 := Ext.trans_ inferInstance X2
          exact HX.out.ext
        clear ho2 hb2 hg2)
     | (at_builtin
        go_loud (refine wp_append_cells (w0 := w.alloc zB16) (w.alloc zB16).heap.size rfl (.tmp 22) (.tmp 23) 22 5 (.int .u8 0) 1 1 rfl Try.underlying22 info_u8 rfl (by decide) (by decide) (.slice L2 (1 + s.size) l2) (1 + s.size) (nums .u8 [id] ++ nums .u8 (strB s)) A n c (nums .u8 xs) rfl rfl (by rw [nums_length, Hn.out, Nat.mul_one]) (nums_one _ _) HO2.out HY2.out HX2.out.out size_ext (by omega) ?_)
        intro v3 w3 ho3 hb3 hg3 hat3
        obtain ⟨L3, l3, rfl, hl3⟩ := own_slice ho3
        have HO3 := Lib.hid ho3
        have X3 : Ext (w.alloc zB16) w3 := ⟨hb3⟩
        have HX3 := Lib.hid X3
        clear ho3 hb3 hg3 hat3))
  have XX3 : Ext (w.alloc zB16) w3 := HX3.out
  have HC3 : Hid (Cells w3 L3 (nums .u8 ([id] ++ strB s ++ xs))) := by have := own_cells HO3.out; rw [← nums_append, ← nums_append] at this; exact this
  refine (rsum4_any L3 (1 + s.size + n) l3 ([id] ++ strB s ++ xs) (by simp [HSL.out, Hn.out]; omega) (by omega) (Byt.append (Byt.append (Byt.one (by omega) (by omega)) (strB_byt s)) HB.out) w3 HC3.out).mono ?_
  rintro e w6 ⟨rfl, hb6⟩
  have S6 : Step w6 _ := ⟨hb6⟩
  clear hb6
  have Y6 : Ext (w.alloc zB16) w6 := Ext.step_ _ w3 _
  have Y66 : Ext w w6 := Ext.trans_ inferInstance Y6
  rw [← HD.out]
  have HZ6 : Hid (w6.heap[w.heap.size]? = some zB16) := at_ext (w := w.alloc zB16) HZ0.out
  have hl := respD_len id s xs
  obtain ⟨ts, hts⟩ : ∃ ts, respD id s xs = ts := ⟨_, rfl⟩
  have HTS := Lib.hid hts
  rw [hts] at hl ⊢
  have HI16 : Hid ((Try.prog.info? 47).map (·.size) = some (nums .u8 ts).toArray.size) := by
    unfold Hid
    rw [List.size_toArray, nums_length, hl]
    kernel_rfl
  have HZ16 : Hid ((nums .u8 (List.replicate 16 0)).toArray.size = (nums .u8 ts).toArray.size) := by
    unfold Hid
    rw [List.size_toArray, List.size_toArray, nums_length, nums_length, hl]
    rfl
  clear hts hl
  go_wp2_with
    (refine wpList_store_row rfl 47 (.tmp 6) (.tmp 26) rfl w.heap.size (nums .u8 ts).toArray rfl rfl 47 (nums .u8 (List.replicate 16 0)).toArray HZ6.out HI16.out HZ16.out (one_all _ _) ?_)
  refine bodyPost_ret (results_cell_row2 Try.results30 _ _ w.heap.size 47 _ (0, 0) _ (.int .i64 0) rfl rfl (setRow_heap _ _ _ _ _ _ HZ6.out) Try.underlying47 rfl HI16.out) rfl ⟨?_, (Ext.setRow_ (inferInstance : Ext w w6) (Nat.le_refl _) _).out⟩
  rw [HE.out, HTS.out]
end Go.Proofs.Ytobddmpiljknpaa

namespace Go.Proofs.Ytobddmpiljknpaa
open Go.RowKit
set_option linter.unusedVariables false
set_option linter.unusedSimpArgs false

theorem told_byt (s : W4) : ∀ k, Byt (toldS s k)
  | 0 => by
    intro x hx
    rw [List.eq_of_mem_replicate (show x ∈ List.replicate 16 0 from hx)]
    omega
  | k + 1 => by
    intro x hx
    rw [toldS] at hx
    rcases List.mem_or_eq_of_mem_set hx with h | rfl
    · exact told_byt s k x h
    · exact ⟨Int.emod_nonneg _ (by decide), Int.emod_lt_of_pos _ (by decide)⟩
theorem digest_byt (xs : List Int) : Byt (digest xs) := told_byt _ _
theorem or_xor_zero {D X Y : Int} (h0 : 0 ≤ D) (h1 : D < 256) (k0 : 0 ≤ X) (k1 : X < 256) (l0 : 0 ≤ Y) (l1 : Y < 256) :
    (bits .or .u8 D (bits .xor .u8 X Y) = 0 ↔ D = 0 ∧ X = Y) ∧ 0 ≤ bits .or .u8 D (bits .xor .u8 X Y) ∧ bits .or .u8 D (bits .xor .u8 X Y) < 256 := by
  obtain ⟨d, rfl⟩ := Int.eq_ofNat_of_zero_le h0
  obtain ⟨x, rfl⟩ := Int.eq_ofNat_of_zero_le k0
  obtain ⟨y, rfl⟩ := Int.eq_ofNat_of_zero_le l0
  have hx : bits .xor .u8 (x : Int) (y : Int) = ((x ^^^ y : Nat) : Int) := by
    have hlt : x ^^^ y < 2 ^ 8 := Nat.xor_lt_two_pow (by omega) (by omega)
    simp only [bits, BitVec.ofInt_natCast, BitVec.toNat_xor, BitVec.toNat_ofNat]
    rw [show IntKind.u8.bits = 8 from rfl, Nat.mod_eq_of_lt (show x < 2 ^ 8 by omega), Nat.mod_eq_of_lt (show y < 2 ^ 8 by omega)]
    exact wraps_u8 _ (by omega) (by exact_mod_cast hlt)
  have hlt : x ^^^ y < 2 ^ 8 := Nat.xor_lt_two_pow (by omega) (by omega)
  rw [hx, (bits_nat .u8 8 (by decide) wraps_u8 d (x ^^^ y) (by omega) hlt).2]
  have ho : d ||| (x ^^^ y) < 2 ^ 8 := Nat.or_lt_two_pow (by omega) hlt
  refine ⟨?_, by omega, by omega⟩
  have hxy : x ^^^ y = 0 ↔ x = y := by
    constructor
    · intro h
      have h2 : (x ^^^ y) ^^^ y = x := by rw [Nat.xor_assoc, Nat.xor_self, Nat.xor_zero]
      rw [h, Nat.zero_xor] at h2
      exact h2.symm
    · rintro rfl
      exact Nat.xor_self _
  rw [Int.natCast_eq_zero, Nat.or_eq_zero_iff, hxy]
  omega
set_option maxHeartbeats 1000000 in
theorem equal4_any (A B : Option Addr) (n m c d : Nat) (xs ys : List Int) (hn : xs.length = n) (hm : ys.length = m) (hn' : n ≤ 9223372036854775807) (hm' : m ≤ 9223372036854775807) (hbx : Byt xs) (hby : Byt ys)
    (w : World) (hx : Cells w A (nums .u8 xs)) (hy : Cells w B (nums .u8 ys)) :
    Calls Try.prog 69 #[.slice A n c, .slice B m d] w fun e w' => e = .returned (.bool (decide (xs = ys))) ∧ Drawn w w' := by
  by_cases h : n = m
  · subst h
    have Hn := Lib.hid hn
    have Hm := Lib.hid hm
    have HBX := Lib.hid hbx
    have HBY := Lib.hid hby
    clear hn hm hbx hby
    go_enter Try.func69, Try.ntmps69
    go_wp2
    go_loopw [5, 14] (fun v i wr => ∃ (k : Nat) (D : Int), i = .int .i64 k ∧ v = .int .u8 D ∧ k ≤ n ∧ 0 ≤ D ∧ D < 256 ∧ Hid (D = 0 ↔ xs.take k = ys.take k) ∧ Hid (Drawn w wr)) (fun _ i _ => n - (intOf i).toNat)
    case atStart => exact ⟨0, 0, rfl, rfl, by omega, by omega, by omega, (by unfold Hid; simp), Drawn.refl _⟩
    case round =>
      obtain ⟨k, D, rfl, rfl, hk, hD0, hD1, hT, hD⟩ := hrel
      by_cases hlt : k < n
      · obtain ⟨ad, rfl, hc⟩ := (hx.drawn hD.out).num (by rw [Hn.out]; exact hlt)
        obtain ⟨bd, rfl, hd⟩ := (hy.drawn hD.out).num (by rw [Hm.out]; exact hlt)
        have HX0 := HBX.out.getD k
        have HY0 := HBY.out.getD k
        generalize hX : xs.getD k 0 = X at *
        generalize hY : ys.getD k 0 = Y at *
        have HX := Lib.hid hX
        have HY := Lib.hid hY
        have HZ := Lib.hid (or_xor_zero hD0 hD1 HX0.1 HX0.2 HY0.1 HY0.2)
        clear hX hY HX0 HY0
        go_wp2
        go_quiet (fail)
        go_wp2
        go_roundw
        case rel =>
          refine ⟨k + 1, _, by go_num, rfl, by omega, HZ.out.2.1, HZ.out.2.2, ?_, hD.out.drewN _⟩
          unfold Hid
          rw [HZ.out.1, hT.out]
          constructor
          · rintro ⟨h1, h2⟩
            exact take_eq_succ h1 (by rw [Hn.out]; exact hlt) (by rw [Hm.out]; exact hlt) (by rw [HX.out, HY.out, h2])
          · intro h1
            have h2 := congrArg (List.take k) h1
            rw [List.take_take, List.take_take, Nat.min_eq_left (Nat.le_succ k)] at h2
            refine ⟨h2, ?_⟩
            have h3 := congrArg (fun l => l.getD k 0) h1
            simp only [List.getD_eq_getElem?_getD, List.getElem?_take, Nat.lt_succ_self, if_true] at h3
            rw [← HX.out, ← HY.out, List.getD_eq_getElem?_getD, List.getD_eq_getElem?_getD]
            exact h3
        case measure => simp [intOf]; omega
      · obtain rfl : k = n := by omega
        have hT := hT.out
        rw [List.take_of_length_le (by rw [Hn.out]; omega), List.take_of_length_le (by rw [Hm.out]; omega)] at hT
        have HT := Lib.hid hT
        clear hT
        go_wp2
        go_ret
        refine ⟨ret_bool ?_, hD.out⟩
        by_cases h : D = 0
        · rw [decide_eq_true (HT.out.1 h)]
          simp [h]
        · rw [decide_eq_false (fun e => h (HT.out.2 e))]
          simp [h]
  · have hne : ((n : Int) != (m : Int)) = true := by simp only [bne_iff_ne, ne_eq]; omega
    go_enter Try.func69, Try.ntmps69
    go_wp2
    go_ret
    refine ⟨?_, 0, rfl⟩
    rw [decide_eq_false]
    · rfl
    rintro rfl
    omega
end Go.Proofs.Ytobddmpiljknpaa
