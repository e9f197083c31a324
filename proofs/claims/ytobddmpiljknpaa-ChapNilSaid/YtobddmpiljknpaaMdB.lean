/-
  md5: a block. No condition.
-/
import Derived.Test.YtobddmpiljknpaaMdA
namespace Go.Proofs.Ytobddmpiljknpaa
open Go.RowKit
set_option linter.unusedVariables false
set_option linter.unusedSimpArgs false

def ldStep (bs xs : List Int) (k : Nat) : List Int := xs.set (k / 4) (bits .or .u32 (xs.getD (k / 4) 0) (bs.getD k 0 * 2 ^ (8 * (k % 4)) % 4294967296))
def ldF (bs : List Int) : Nat → List Int
  | 0 => List.replicate 16 0
  | k + 1 => ldStep bs (ldF bs k) k
theorem ldF_len (bs : List Int) : ∀ k, (ldF bs k).length = 16
  | 0 => by simp [ldF]
  | k + 1 => by rw [ldF, ldStep, List.length_set]; exact ldF_len bs k
theorem turns_bd (j : Nat) : 0 ≤ turnsL.getD j 0 ∧ turnsL.getD j 0 ≤ 31 := by
  by_cases h : j < 16
  · have : ∀ j < 16, 0 ≤ turnsL.getD j 0 ∧ turnsL.getD j 0 ≤ 31 := by decide
    exact this j h
  · have e : turnsL.getD j 0 = 0 := by rw [List.getD_eq_getElem?_getD, List.getElem?_eq_none (by show 16 ≤ j; omega)]; rfl
    omega
def mdF (q : Nat) (b c d : Int) : Int := match q with
  | 0 => bits .or .u32 (bits .and .u32 b c) (bits .and .u32 (bits .xor .u32 IntKind.u32.max b) d)
  | 1 => bits .or .u32 (bits .and .u32 d b) (bits .and .u32 (bits .xor .u32 IntKind.u32.max d) c)
  | 2 => bits .xor .u32 (bits .xor .u32 b c) d
  | _ => bits .xor .u32 c (bits .or .u32 b (bits .xor .u32 IntKind.u32.max d))
def mdG (k : Nat) : Nat := match k / 16 with
  | 0 => k % 16
  | 1 => (5 * k + 1) % 16
  | 2 => (3 * k + 5) % 16
  | _ => 7 * k % 16
def mdU (b t n : Int) : Int := (b + bits .or .u32 (t * 2 ^ n.toNat % 4294967296) (t / 2 ^ (32 - n).toNat)) % 4294967296
/-- A step: the four words a, b, c, d. -/
def mdStep (X : List Int) (k : Nat) (s : Int × Int × Int × Int) : Int × Int × Int × Int :=
  (s.2.2.2, mdU s.2.1 ((s.1 + mdF (k / 16) s.2.1 s.2.2.1 s.2.2.2 + ksL.getD k 0 + X.getD (mdG k) 0) % 4294967296) (turnsL.getD (k / 16 * 4 + k % 4) 0), s.2.1, s.2.2.1)
def mdRun (X : List Int) (s : Int × Int × Int × Int) : Nat → Int × Int × Int × Int
  | 0 => s
  | k + 1 => mdStep X k (mdRun X s k)
def mdAdd (s t : Int × Int × Int × Int) : Int × Int × Int × Int := ((s.1 + t.1) % 4294967296, (s.2.1 + t.2.1) % 4294967296, (s.2.2.1 + t.2.2.1) % 4294967296, (s.2.2.2 + t.2.2.2) % 4294967296)
/-- The words behind 64 bytes. -/
def mdBlock (s : Int × Int × Int × Int) (bs : List Int) : Int × Int × Int × Int := mdAdd s (mdRun (ldF bs 64) s 64)
theorem md_q {k q : Nat} (h : k / 16 = q) : (k : Int) / 16 = (q : Int) := by omega
def WTells (s : Int × Int × Int × Int) (w : World) (e : Ending) (w' : World) : Prop := e = .returned (.agg #[.int .u32 s.1, .int .u32 s.2.1, .int .u32 s.2.2.1, .int .u32 s.2.2.2]) ∧ Below w.heap.size w w'
abbrev zW : Obj := .cells #[.int .u32 0, .int .u32 0, .int .u32 0, .int .u32 0] 168
set_option maxRecDepth 100000 in
set_option maxHeartbeats 4000000 in
theorem block4_any (a b c d : Int) (A : Option Addr) (n cc : Nat) (bs : List Int) (hn : bs.length = n) (h64 : 64 ≤ n) (hnc : n ≤ cc) (hb : Byt bs) (w : World) (hx : Cells w A (nums .u8 bs)) :
    Calls Try.prog 110 #[.agg #[.int .u32 a, .int .u32 b, .int .u32 c, .int .u32 d], .slice A n cc] w (WTells (mdBlock (a, b, c, d) bs) w) := by
  have Hn := Lib.hid hn
  have HB := Lib.hid hb
  have HX := Lib.hid hx
  have hcc : 64 ≤ cc := by omega
  have h64I : (64 : Int) ≤ (cc : Int) := by omega
  clear hn hb hx
  go_enter Try.func110, Try.ntmps110
  go_wp2
  go_step3
  go_wp2
  go_loopw [21] (fun i wr => ∃ (k : Nat), i = .int .i64 k ∧ k ≤ 64 ∧ Hid (wr.heap[w.heap.size + 1 + 1]? = some (.cells (nums .u32 (ldF bs k)).toArray 186 (0, 0))) ∧ Hid (Ext ((w.alloc (.cells #[.int .u32 a, .int .u32 b, .int .u32 c, .int .u32 d] 168)).alloc zW) wr)) (fun i _ => 64 - (intOf i).toNat)
  case atStart => exact ⟨0, rfl, by omega, at_new1 (by simp), (inferInstance : Ext _ (World.alloc _ _))⟩
  case round =>
    obtain ⟨k, rfl, hk, HR, HE⟩ := hrel
    have XE : Ext ((w.alloc (.cells #[.int .u32 a, .int .u32 b, .int .u32 c, .int .u32 d] 168)).alloc zW) wr := HE.out
    have YE : Ext w wr := Ext.trans_ inferInstance XE
    by_cases hlt : k < 64
    · obtain ⟨ad, rfl, hc⟩ := (HX.out.ext (w' := wr)).num (i := k) (by rw [Hn.out]; omega)
      have hk0 : (0 : Int) ≤ (k : Int) := by omega
      have hkI : (k : Int) < 64 := by omega
      have hc4 : wr.cell? ⟨w.heap.size + 1 + 1, k / 4, none⟩ = some (.int .u32 ((ldF bs k).getD (k / 4) 0)) := by
        rw [at_cell HR.out]
        simpa using nums_get .u32 (ldF bs k) (k / 4) (by rw [ldF_len]; omega)
      have hf := at_frozen HR.out (k / 4)
      have hb1 := HB.out.getD k
      obtain ⟨x, hx⟩ : ∃ x, bs.getD k 0 = x := ⟨_, rfl⟩
      obtain ⟨y, hy⟩ : ∃ y, (ldF bs k).getD (k / 4) 0 = y := ⟨_, rfl⟩
      have HLS : Hid (ldF bs (k + 1) = (ldF bs k).set (k / 4) (bits .or .u32 y (x * 2 ^ (8 * (k % 4)) % 4294967296))) := by
        unfold Hid
        rw [ldF, ldStep, hx, hy]
      rw [hx] at hc hb1
      rw [hy] at hc4
      clear hx hy
      go_wp2
      go_region
      all_goals go_wp2
      all_goals
        refine ⟨⟨k + 1, by go_num, by omega, ?_, Ext.drew_ _ _ (h := Ext.setg XE _ _ _ (by simp))⟩, by simp [intOf]; omega⟩
        have h1 := at_set HR.out (k / 4) (.int .u32 (bits .or .u32 y (x * 2 ^ (8 * (k % 4)) % 4294967296)))
        refine (show (wr.setCell _ _).heap[w.heap.size + 1 + 1]? = _ from ?_)
        rw [h1, HLS.out, nums_set]
        simp
    · obtain rfl : k = 64 := by omega
      go_wp2_with fail
      refine (ks4_any _).mono ?_
      rintro e w1 ⟨rfl, hb1⟩
      have S1 : Step w1 _ := ⟨hb1⟩
      clear hb1
      go_wp2_with fail
      refine (turns4_any _).mono ?_
      rintro e w2 ⟨rfl, hb2⟩
      have S2 : Step w2 _ := ⟨hb2⟩
      clear hb2
      have HX64 : Hid (w2.heap[w.heap.size + 1 + 1]? = some (.cells (nums .u32 (ldF bs 64)).toArray 186 (0, 0))) := at_ext HR.out
      have HW0 : Hid (w2.heap[w.heap.size]? = some (.cells #[.int .u32 a, .int .u32 b, .int .u32 c, .int .u32 d] 168 (0, 0))) := at_ext (w' := w2) (w := (w.alloc (.cells #[.int .u32 a, .int .u32 b, .int .u32 c, .int .u32 d] 168)).alloc zW) (at_ext (at_new w _))
      have HW1 : Hid (w2.heap[w.heap.size + 1]? = some (.cells #[.int .u32 0, .int .u32 0, .int .u32 0, .int .u32 0] 168 (0, 0))) := at_ext (w' := w2) (w := (w.alloc (.cells #[.int .u32 a, .int .u32 b, .int .u32 c, .int .u32 d] 168)).alloc zW) (at_new1 (by simp))
      have Y2 : Ext w w2 := inferInstance
      go_wp2_with
        (first
         | (refine wpList_store_row_o rfl 187 (.tmp 7) (.tmp 40) rfl w2.heap.size (nums .u32 ksL).toArray rfl rfl 187 (nums .u32 (List.replicate 64 0)).toArray (by exact at_new_then _ _) (by kernel_rfl) rfl (one_all _ _) ?_
            intro w3 h31 h32 h33 h34
            have HK3 := Lib.hid h31
            have HS3 : Hid (w3.heap[w2.heap.size + 1]? = some (.cells (nums .i64 (List.replicate 16 0)).toArray 190 (0, 0))) := (h32 _ (by omega)).trans (at_new1 (by simp))
            have X3 : Ext w2 w3 := ⟨h34 _ _ (Ext.out (w := w2)) (Nat.le_refl _)⟩
            clear h31 h32 h33 h34)
         | (refine wpList_store_row_o rfl 190 (.tmp 8) (.tmp 41) rfl (w2.heap.size + 1) (nums .i64 turnsL).toArray rfl rfl 190 (nums .i64 (List.replicate 16 0)).toArray HS3.out (by kernel_rfl) rfl (one_all _ _) ?_
            intro w4 h41 h42 h43 h44
            have HS4 := Lib.hid h41
            have HK4 : Hid (w4.heap[w2.heap.size]? = some (.cells (nums .u32 ksL).toArray 187 (0, 0))) := (h42 _ (by omega)).trans HK3.out
            have X4 : Ext w2 w4 := ⟨h44 _ _ X3.out (by omega)⟩
            have S4 : Step w4 w2 := ⟨X4.out⟩
            clear h41 h42 h43 h44 X3 HK3 HS3))
      have HX4 : Hid (w4.heap[w.heap.size + 1 + 1]? = some (.cells (nums .u32 (ldF bs 64)).toArray 186 (0, 0))) := at_ext HX64.out
      have p0 : w4.cell? ⟨w.heap.size, 0, none⟩ = some (.int .u32 a) := at_cell (at_ext HW0.out) 0
      have p1 : w4.cell? ⟨w.heap.size, 1, none⟩ = some (.int .u32 b) := at_cell (at_ext HW0.out) 1
      have p2 : w4.cell? ⟨w.heap.size, 2, none⟩ = some (.int .u32 c) := at_cell (at_ext HW0.out) 2
      have p3 : w4.cell? ⟨w.heap.size, 3, none⟩ = some (.int .u32 d) := at_cell (at_ext HW0.out) 3
      go_quiet (fail)
      go_wp2
      go_step3
      go_wp2
      go_loopw [9, 10, 11, 12, 13] (fun va vb vc vd i wr => ∃ (k : Nat) (A1 B1 C1 D1 : Int), i = .int .i64 k ∧ k ≤ 64 ∧ va = .int .u32 A1 ∧ vb = .int .u32 B1 ∧ vc = .int .u32 C1 ∧ vd = .int .u32 D1 ∧ Hid (mdRun (ldF bs 64) (a, b, c, d) k = (A1, B1, C1, D1)) ∧ Hid (Ext w4 wr)) (fun _ _ _ _ i _ => 64 - (intOf i).toNat)
      case atStart => exact ⟨0, a, b, c, d, rfl, by omega, rfl, rfl, rfl, rfl, rfl, (inferInstance : Ext w4 (World.drewN _ _))⟩
      case round =>
        obtain ⟨k, A1, B1, C1, D1, rfl, hk, rfl, rfl, rfl, rfl, HM, HE4⟩ := hrel
        have XE4 : Ext w4 wr := HE4.out
        clear p0 p1 p2 p3
        by_cases hlt : k < 64
        · have hk0 : (0 : Int) ≤ (k : Int) := by omega
          have hkI : (k : Int) < 64 := by omega
          have HMS : Hid (mdRun (ldF bs 64) (a, b, c, d) (k + 1) = mdStep (ldF bs 64) k (A1, B1, C1, D1)) := by
            unfold Hid
            rw [mdRun, HM.out]
          have cK : wr.cell? ⟨w2.heap.size, k, none⟩ = some (.int .u32 (ksL.getD k 0)) := by
            rw [at_cell (at_ext HK4.out)]
            simpa using nums_get .u32 ksL k (by show k < 64; omega)
          by_cases hq : k < 16
          · have hqN : k / 16 = 0 := by omega
            have hqI : (k : Int) / 16 = 0 := by omega
            have cX : wr.cell? ⟨w.heap.size + 1 + 1, k % 16, none⟩ = some (.int .u32 ((ldF bs 64).getD (k % 16) 0)) := by
              rw [at_cell (at_ext HX4.out)]
              simpa using nums_get .u32 (ldF bs 64) (k % 16) (by rw [ldF_len]; omega)
            have cS : wr.cell? ⟨w2.heap.size + 1, k % 4, none⟩ = some (.int .i64 (turnsL.getD (k % 4) 0)) := by
              rw [at_cell (at_ext HS4.out)]
              simpa using nums_get .i64 turnsL (k % 4) (by show k % 4 < 16; omega)
            have hn0 := (turns_bd (k % 4)).1
            have hn1 := (turns_bd (k % 4)).2
            have hgg : mdG k = k % 16 := by simp only [mdG, hqN]
            have hss : k / 16 * 4 + k % 4 = k % 4 := by omega
            unfold mdStep at HMS
            rw [hgg, hss, hqN] at HMS
            simp only [mdF, mdU] at HMS
            clear hgg hss hqN
            obtain ⟨kk, hkk⟩ : ∃ x, ksL.getD k 0 = x := ⟨_, rfl⟩
            obtain ⟨xx, hxx⟩ : ∃ x, (ldF bs 64).getD (k % 16) 0 = x := ⟨_, rfl⟩
            obtain ⟨nn, hnn⟩ : ∃ x, turnsL.getD (k % 4) 0 = x := ⟨_, rfl⟩
            rw [hkk] at cK HMS
            rw [hxx] at cX HMS
            rw [hnn] at cS hn0 hn1 HMS
            clear hkk hxx hnn
            have HMT := Lib.hid HMS.out
            clear HMS
            go_wp2
            go_quiet (fail)
            go_wp2
            go_quiet (fail)
            go_wp2
            refine ⟨⟨k + 1, _, _, _, _, by go_num, by omega, rfl, rfl, rfl, rfl, HMT.out, (inferInstance : Ext w4 (World.drewN _ _))⟩, by simp [intOf]; omega⟩
          by_cases hq1 : k < 32
          · have hqN : k / 16 = 1 := by omega
            have hqI : (k : Int) / 16 = 1 := by omega
            have cX : wr.cell? ⟨w.heap.size + 1 + 1, (5 * k + 1) % 16, none⟩ = some (.int .u32 ((ldF bs 64).getD ((5 * k + 1) % 16) 0)) := by
              rw [at_cell (at_ext HX4.out)]
              simpa using nums_get .u32 (ldF bs 64) ((5 * k + 1) % 16) (by rw [ldF_len]; omega)
            have cS : wr.cell? ⟨w2.heap.size + 1, 4 + k % 4, none⟩ = some (.int .i64 (turnsL.getD (4 + k % 4) 0)) := by
              rw [at_cell (at_ext HS4.out)]
              simpa using nums_get .i64 turnsL (4 + k % 4) (by show 4 + k % 4 < 16; omega)
            have hn0 := (turns_bd (4 + k % 4)).1
            have hn1 := (turns_bd (4 + k % 4)).2
            have hgg : mdG k = (5 * k + 1) % 16 := by simp only [mdG, hqN]
            have hss : k / 16 * 4 + k % 4 = 4 + k % 4 := by omega
            unfold mdStep at HMS
            rw [hgg, hss, hqN] at HMS
            simp only [mdF, mdU] at HMS
            clear hgg hss hqN
            obtain ⟨kk, hkk⟩ : ∃ x, ksL.getD k 0 = x := ⟨_, rfl⟩
            obtain ⟨xx, hxx⟩ : ∃ x, (ldF bs 64).getD ((5 * k + 1) % 16) 0 = x := ⟨_, rfl⟩
            obtain ⟨nn, hnn⟩ : ∃ x, turnsL.getD (4 + k % 4) 0 = x := ⟨_, rfl⟩
            rw [hkk] at cK HMS
            rw [hxx] at cX HMS
            rw [hnn] at cS hn0 hn1 HMS
            clear hkk hxx hnn
            have HMT := Lib.hid HMS.out
            clear HMS
            go_wp2
            go_quiet (fail)
            go_wp2
            go_quiet (fail)
            go_wp2
            refine ⟨⟨k + 1, _, _, _, _, by go_num, by omega, rfl, rfl, rfl, rfl, HMT.out, (inferInstance : Ext w4 (World.drewN _ _))⟩, by simp [intOf]; omega⟩
          by_cases hq2 : k < 48
          · have hqN : k / 16 = 2 := by omega
            have hqI : (k : Int) / 16 = 2 := by omega
            have cX : wr.cell? ⟨w.heap.size + 1 + 1, (3 * k + 5) % 16, none⟩ = some (.int .u32 ((ldF bs 64).getD ((3 * k + 5) % 16) 0)) := by
              rw [at_cell (at_ext HX4.out)]
              simpa using nums_get .u32 (ldF bs 64) ((3 * k + 5) % 16) (by rw [ldF_len]; omega)
            have cS : wr.cell? ⟨w2.heap.size + 1, 8 + k % 4, none⟩ = some (.int .i64 (turnsL.getD (8 + k % 4) 0)) := by
              rw [at_cell (at_ext HS4.out)]
              simpa using nums_get .i64 turnsL (8 + k % 4) (by show 8 + k % 4 < 16; omega)
            have hn0 := (turns_bd (8 + k % 4)).1
            have hn1 := (turns_bd (8 + k % 4)).2
            have hgg : mdG k = (3 * k + 5) % 16 := by simp only [mdG, hqN]
            have hss : k / 16 * 4 + k % 4 = 8 + k % 4 := by omega
            unfold mdStep at HMS
            rw [hgg, hss, hqN] at HMS
            simp only [mdF, mdU] at HMS
            clear hgg hss hqN
            obtain ⟨kk, hkk⟩ : ∃ x, ksL.getD k 0 = x := ⟨_, rfl⟩
            obtain ⟨xx, hxx⟩ : ∃ x, (ldF bs 64).getD ((3 * k + 5) % 16) 0 = x := ⟨_, rfl⟩
            obtain ⟨nn, hnn⟩ : ∃ x, turnsL.getD (8 + k % 4) 0 = x := ⟨_, rfl⟩
            rw [hkk] at cK HMS
            rw [hxx] at cX HMS
            rw [hnn] at cS hn0 hn1 HMS
            clear hkk hxx hnn
            have HMT := Lib.hid HMS.out
            clear HMS
            go_wp2
            go_quiet (fail)
            go_wp2
            go_quiet (fail)
            go_wp2
            refine ⟨⟨k + 1, _, _, _, _, by go_num, by omega, rfl, rfl, rfl, rfl, HMT.out, (inferInstance : Ext w4 (World.drewN _ _))⟩, by simp [intOf]; omega⟩
          · have hqN : k / 16 = 3 := by omega
            have hqI : (k : Int) / 16 = 3 := by omega
            have cX : wr.cell? ⟨w.heap.size + 1 + 1, 7 * k % 16, none⟩ = some (.int .u32 ((ldF bs 64).getD (7 * k % 16) 0)) := by
              rw [at_cell (at_ext HX4.out)]
              simpa using nums_get .u32 (ldF bs 64) (7 * k % 16) (by rw [ldF_len]; omega)
            have cS : wr.cell? ⟨w2.heap.size + 1, 12 + k % 4, none⟩ = some (.int .i64 (turnsL.getD (12 + k % 4) 0)) := by
              rw [at_cell (at_ext HS4.out)]
              simpa using nums_get .i64 turnsL (12 + k % 4) (by show 12 + k % 4 < 16; omega)
            have hn0 := (turns_bd (12 + k % 4)).1
            have hn1 := (turns_bd (12 + k % 4)).2
            have hgg : mdG k = 7 * k % 16 := by simp only [mdG, hqN]
            have hss : k / 16 * 4 + k % 4 = 12 + k % 4 := by omega
            unfold mdStep at HMS
            rw [hgg, hss, hqN] at HMS
            simp only [mdF, mdU] at HMS
            clear hgg hss hqN
            obtain ⟨kk, hkk⟩ : ∃ x, ksL.getD k 0 = x := ⟨_, rfl⟩
            obtain ⟨xx, hxx⟩ : ∃ x, (ldF bs 64).getD (7 * k % 16) 0 = x := ⟨_, rfl⟩
            obtain ⟨nn, hnn⟩ : ∃ x, turnsL.getD (12 + k % 4) 0 = x := ⟨_, rfl⟩
            rw [hkk] at cK HMS
            rw [hxx] at cX HMS
            rw [hnn] at cS hn0 hn1 HMS
            clear hkk hxx hnn
            have HMT := Lib.hid HMS.out
            clear HMS
            go_wp2
            go_quiet (fail)
            go_wp2
            go_quiet (fail)
            go_wp2
            refine ⟨⟨k + 1, _, _, _, _, by go_num, by omega, rfl, rfl, rfl, rfl, HMT.out, (inferInstance : Ext w4 (World.drewN _ _))⟩, by simp [intOf]; omega⟩
        · obtain rfl : k = 64 := by omega
          have HW4 := Lib.hid (at_ext (w' := wr) (w := w4) (at_ext HW0.out))
          have HZ4 := Lib.hid (at_ext (w' := wr) (w := w4) (at_ext HW1.out))
          have p0 : wr.cell? ⟨w.heap.size, 0, none⟩ = some (.int .u32 a) := at_cell HW4.out 0
          have p1 : wr.cell? ⟨w.heap.size, 1, none⟩ = some (.int .u32 b) := at_cell HW4.out 1
          have p2 : wr.cell? ⟨w.heap.size, 2, none⟩ = some (.int .u32 c) := at_cell HW4.out 2
          have p3 : wr.cell? ⟨w.heap.size, 3, none⟩ = some (.int .u32 d) := at_cell HW4.out 3
          have q0 : wr.cell? ⟨w.heap.size + 1, 0, none⟩ = some (.int .u32 0) := at_cell HZ4.out 0
          have q1 : wr.cell? ⟨w.heap.size + 1, 1, none⟩ = some (.int .u32 0) := at_cell HZ4.out 1
          have q2 : wr.cell? ⟨w.heap.size + 1, 2, none⟩ = some (.int .u32 0) := at_cell HZ4.out 2
          have q3 : wr.cell? ⟨w.heap.size + 1, 3, none⟩ = some (.int .u32 0) := at_cell HZ4.out 3
          have f0 := at_frozen HZ4.out 0
          have f1 := at_frozen HZ4.out 1
          have f2 := at_frozen HZ4.out 2
          have f3 := at_frozen HZ4.out 3
          have HMB : Hid (mdBlock (a, b, c, d) bs = ((a + A1) % 4294967296, (b + B1) % 4294967296, (c + C1) % 4294967296, (d + D1) % 4294967296)) := by
            unfold Hid mdBlock
            rw [HM.out]
            rfl
          go_wp2
          rw [Exit.noGoto_ret]
          have HR := at_set (at_set (at_set (at_set HZ4.out 0 (.int .u32 ((a + A1) % 4294967296))) 1 (.int .u32 ((b + B1) % 4294967296))) 2 (.int .u32 ((c + C1) % 4294967296))) 3 (.int .u32 ((d + D1) % 4294967296))
          have hd0 := at_cell HR 0
          have hd1 := at_cell HR 1
          have hd2 := at_cell HR 2
          have hd3 := at_cell HR 3
          simp only [List.setIfInBounds_toArray, List.set_cons_zero, List.set_cons_succ, List.getElem?_toArray, List.getElem?_cons_zero, List.getElem?_cons_succ] at hd0 hd1 hd2 hd3
          have Y4 : Ext w w4 := inferInstance
          have YR : Ext w wr := Ext.trans_ Y4 XE4
          exact bodyPost_ret (v := .agg #[.int .u32 ((a + A1) % 4294967296), .int .u32 ((b + B1) % 4294967296), .int .u32 ((c + C1) % 4294967296), .int .u32 ((d + D1) % 4294967296)]) (by simp [results, Try.results110, go_sem, hd0, hd1, hd2, hd3]) rfl (by rw [show WTells (mdBlock (a, b, c, d) bs) w = WTells ((a + A1) % 4294967296, (b + B1) % 4294967296, (c + C1) % 4294967296, (d + D1) % 4294967296) w from by rw [HMB.out]]; exact ⟨rfl, Ext.out⟩)
end Go.Proofs.Ytobddmpiljknpaa
