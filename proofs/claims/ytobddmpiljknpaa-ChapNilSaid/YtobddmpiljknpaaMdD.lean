/-
  md5: a stream and what it holds; New, Write. Conditions: what is held is no longer than the model's memory.
-/
import Derived.Test.YtobddmpiljknpaaMdC
import Derived.Test.YtobddmpiljknpaaOpt
namespace Go.Proofs.Ytobddmpiljknpaa
open Go.RowKit
set_option linter.unusedVariables false
set_option linter.unusedSimpArgs false

/-- Of the blocks that stood, those outside S stand as they stood. -/
structure Only (S : Nat → Prop) (w w' : World) : Prop where
  os : w'.os = w.os
  tape : w'.tape = w.tape
  output : w'.output = w.output
  size : w.heap.size ≤ w'.heap.size
  block : ∀ k, k < w.heap.size → ¬ S k → w'.heap[k]? = w.heap[k]?
section
variable {S : Nat → Prop} {w w1 w2 : World}
theorem Only.refl_ (S : Nat → Prop) (w : World) : Only S w w := ⟨rfl, rfl, rfl, Nat.le_refl _, fun _ _ _ => rfl⟩
theorem Only.ext (h : Only S w w1) (k : Ext w1 w2) : Only S w w2 := ⟨k.out.os.trans h.os, k.out.tape.trans h.tape, k.out.output.trans h.output, Nat.le_trans h.size k.out.size, fun i hi hs => (k.out.block i (Nat.lt_of_lt_of_le hi h.size)).trans (h.block i hi hs)⟩
theorem Only.grown {row : Option Nat} (h : Only S w w1) (k : w1.grownBy w2 row) (hr : ∀ b, row = some b → S b ∨ w.heap.size ≤ b) : Only S w w2 :=
  ⟨k.os.trans h.os, k.tape.trans h.tape, k.output.trans h.output, Nat.le_trans h.size k.size, fun i hi hs => (k.block i (Nat.lt_of_lt_of_le hi h.size) (fun he => by rcases hr i he.symm with h' | h'; exact hs h'; omega)).trans (h.block i hi hs)⟩
theorem Only.setCell {p : Addr} (h : Only S w w1) (hp : S p.block ∨ w.heap.size ≤ p.block) (u : Value) : Only S w (w1.setCell p u) :=
  h.grown (row := some p.block) (grown_setCell (grown_refl _ _) (.inr rfl) u) (fun b hb => by injection hb with hb; subst hb; exact hp)
theorem Only.below {B : Nat} (h : Only S w w1) (hS : ∀ k, S k → B ≤ k) (hB : B ≤ w.heap.size) : Below B w w1 := ⟨h.os, h.tape, h.output, h.size, fun k hk => h.block k (Nat.lt_of_lt_of_le hk hB) (fun hs => by have := hS k hs; omega)⟩
end
abbrev cS4 (s : W4) (pv lv : Value) (n : Int) : Obj := .cells #[.int .u32 s.1, .int .u32 s.2.1, .int .u32 s.2.2.1, .int .u32 s.2.2.2, pv, lv, .int .i64 n] 172
def beginW : W4 := (0x67452301, 0xefcdab89, 0x98badcfe, 0x10325476)
def w4cells (s : W4) : List Value := [.int .u32 s.1, .int .u32 s.2.1, .int .u32 s.2.2.1, .int .u32 s.2.2.2]
def flatW (ps : List W4) : List Value := ps.flatMap w4cells
theorem info_w4 : (Try.prog.info? 168).map (fun i => (i.zero, i.size, i.bytes)) = some (some (.agg #[.int .u32 0, .int .u32 0, .int .u32 0, .int .u32 0]), 4, 16) := by kernel_rfl
/-- What a stream holds: its words, the words behind each block, what is left, how many bytes it has taken. -/
structure StreamAt (w : World) (base g : Nat) (s : W4) (ps : List W4) (xs : List Int) (n : Int) (pv lv : Value) : Prop where
  at_ : w.heap[g]? = some (cS4 s pv lv n)
  base_ : base ≤ g
  left : Tail w base lv xs.length (nums .u8 xs)
  past : w.ownsRow base 168 4 pv ps.length (flatW ps)
  apL : lv.ownBlock ≠ some g
  apP : pv.ownBlock ≠ some g
  apLP : ∀ k, lv.ownBlock = some k → pv.ownBlock ≠ some k
/-- The blocks that a stream may write. -/
def StreamS (g : Nat) (pv lv : Value) (k : Nat) : Prop := k = g ∨ pv.ownBlock = some k ∨ lv.ownBlock = some k
def NewTells (w : World) (e : Ending) (w' : World) : Prop := ∃ g, e = .returned (.pointer (some ⟨g, 0, none⟩)) ∧ StreamAt w' w.heap.size g beginW [] [] 0 (.slice none 0 0) (.slice none 0 0) ∧ Below w.heap.size w w'
theorem new4_any (w : World) : Calls Try.prog 84 #[] w (NewTells w) := by
  go_enter Try.func84, Try.ntmps84
  go_wp2_with fail
  refine (begin4_any _).mono ?_
  rintro e w1 ⟨rfl, hb1⟩
  have S1 : Step w1 _ := ⟨hb1⟩
  simp only [nums, beginL, List.map_cons, List.map_nil]
  clear hb1
  go_wp2
  go_ret
  exact ⟨w1.heap.size, rfl, ⟨at_new w1 _, size_ext, Tail.nil_ _ _, own_nil _ _ _ _, by simp [Value.ownBlock], by simp [Value.ownBlock], fun k hk => by cases hk⟩, Ext.out⟩
def mdN (s : W4) (L : List Int) : Nat → W4
  | 0 => s
  | j + 1 => mdBlock (mdN s L j) (L.drop (64 * j))
def mdPast (s : W4) (L : List Int) (j : Nat) : List W4 := (List.range j).map fun i => mdN s L (i + 1)
theorem mdPast_succ (s : W4) (L : List Int) (j : Nat) : mdPast s L (j + 1) = mdPast s L j ++ [mdN s L (j + 1)] := by simp [mdPast, List.range_succ]
/-- How long the rest of a stream is, off the heap. -/
def leftLen (w : World) (g : Nat) : Nat := match w.heap[g]? with
  | some (Obj.cells cs _ _) => (match cs[5]? with
    | some (Value.slice _ n _) => n
    | _ => 0)
  | _ => 0
theorem leftLen_at {w : World} {base g : Nat} {s : W4} {ps : List W4} {xs : List Int} {n : Int} {pv lv : Value} (h : StreamAt w base g s ps xs n pv lv) : leftLen w g = xs.length := by
  obtain ⟨A, c, rfl, _⟩ := h.left.slice
  unfold leftLen
  rw [h.at_]
  rfl
theorem Cells.setOther {w : World} {A : Option Addr} {cs : List Value} {p : Addr} (h : Cells w A cs) (hne : ∀ ad, A = some ad → ad.block ≠ p.block) (u : Value) : Cells (w.setCell p u) A cs :=
  h.grown (row := some p.block) (grown_setCell (grown_refl _ _) (.inr rfl) u) (fun ad ha he => by injection he with he; exact hne ad ha he)
theorem Tail.setOther {w : World} {base n : Nat} {v : Value} {xs : List Value} {p : Addr} (h : Tail w base v n xs) (hne : v.ownBlock ≠ some p.block) (u : Value) : Tail (w.setCell p u) base v n xs :=
  h.grown (row := some p.block) (grown_setCell (grown_refl _ _) (.inr rfl) u) (.inr hne)
section
variable {w w' w1 w3 : World} {base g : Nat} {s : W4} {ps : List W4} {xs : List Int} {n : Int} {pv lv pv3 : Value}
theorem StreamAt.ext [h : Ext w w'] (k : StreamAt w base g s ps xs n pv lv) : StreamAt w' base g s ps xs n pv lv := ⟨at_ext k.at_, k.base_, k.left.ext, own_ext k.past, k.apL, k.apP, k.apLP⟩
theorem StreamAt.words (k : StreamAt w base g s ps xs n pv lv) (t : W4) : StreamAt ((((w.setCell ⟨g, 0, none⟩ (.int .u32 t.1)).setCell ⟨g, 1, none⟩ (.int .u32 t.2.1)).setCell ⟨g, 2, none⟩ (.int .u32 t.2.2.1)).setCell ⟨g, 3, none⟩ (.int .u32 t.2.2.2)) base g t ps xs n pv lv :=
  ⟨at_set (at_set (at_set (at_set k.at_ 0 _) 1 _) 2 _) 3 _, k.base_, (((k.left.setOther k.apL _).setOther k.apL _).setOther k.apL _).setOther k.apL _, own_setCell (own_setCell (own_setCell (own_setCell k.past k.apP _) k.apP _) k.apP _) k.apP _, k.apL, k.apP, k.apLP⟩
theorem StreamAt.push (k : StreamAt w base g s ps xs n pv lv) (X : Ext w w1) (ho3 : w3.ownsRow base 168 4 pv3 (ps.length + 1) (flatW ps ++ w4cells s)) (hg3 : w1.grownBy w3 pv.ownBlock) (hat3 : pv3.ownBlock = pv.ownBlock ∨ ∃ b, pv3.ownBlock = some b ∧ w1.heap.size ≤ b) :
    StreamAt (w3.setCell ⟨g, 4, none⟩ pv3) base g s (ps ++ [s]) xs n pv3 lv := by
  have hlg : g < w1.heap.size := Nat.lt_of_lt_of_le (at_lt k.at_) X.out.size
  have hne : pv3.ownBlock ≠ some g := by
    rcases hat3 with h | ⟨b, h, hb⟩
    · rw [h]; exact k.apP
    · rw [h]
      intro he
      injection he with he
      omega
  have hk3 : w3.heap[g]? = some (cS4 s pv lv n) := (hg3.block g hlg (fun he => k.apP he.symm)).trans (at_ext k.at_)
  refine ⟨at_set hk3 4 _, k.base_, ((k.left.ext (w' := w1)).grown hg3 (by
    rcases hl : lv.ownBlock with _ | b
    · exact .inl rfl
    · exact .inr fun he => k.apLP b hl he.symm)).setOther k.apL _, ?_, k.apL, hne, ?_⟩
  · rw [List.length_append, List.length_singleton, flatW, List.flatMap_append]
    have := own_setCell (p := ⟨g, 4, none⟩) ho3 hne pv3
    simpa [flatW] using this
  · intro b hl hp
    rcases hat3 with h | ⟨b', h, hb'⟩
    · rw [h] at hp
      exact k.apLP b hl hp
    · rw [h] at hp
      injection hp with hp
      have h1 := (k.left.lt b hl).2
      have h2 := X.out.size
      omega
theorem StreamAt.cut {A : Option Addr} {nl c : Nat} (k : StreamAt w base g s ps xs n pv (.slice A nl c)) (hnl : xs.length = nl) (i : Nat) (hi : i ≤ nl) {A' : Option Addr} (hA : (if c = i then A else A.map (·.add i)) = A') : StreamAt (w.setCell ⟨g, 5, none⟩ (.slice A' (nl - i) (c - i))) base g s ps (xs.drop i) n pv (.slice A' (nl - i) (c - i)) := by
  have hb : (Value.slice A' (nl - i) (c - i)).ownBlock = (Value.slice A nl c).ownBlock := by
    rw [← hA]
    split
    · cases A <;> rfl
    · cases A with
      | none => rfl
      | some ad => simp [Value.ownBlock, block_of_add]
  have ht := k.left
  rw [hnl] at ht
  have ht := ht.drop i hi
  rw [hA] at ht
  refine ⟨at_set k.at_ 5 _, k.base_, ?_, own_setCell k.past k.apP _, by rw [hb]; exact k.apL, k.apP, by rw [hb]; exact k.apLP⟩
  rw [List.length_drop, hnl, nums_drop]
  exact ht.setOther (by rw [hb]; exact k.apL) _
end
def WriteTells (g base : Nat) (s : W4) (ps : List W4) (L : List Int) (n : Int) (S : Nat → Prop) (w : World) (e : Ending) (w' : World) : Prop :=
  ∃ pv lv, e = .returned (.int .i64 0) ∧ StreamAt w' base g (mdN s L (L.length / 64)) (ps ++ mdPast s L (L.length / 64)) (L.drop (64 * (L.length / 64))) n pv lv ∧ Only S w w' ∧ ∀ k, StreamS g pv lv k → S k ∨ w.heap.size ≤ k
set_option maxRecDepth 100000 in
set_option maxHeartbeats 8000000 in
theorem write4_any (g base : Nat) (s : W4) (ps : List W4) (xs ys : List Int) (n : Int) (pv lv : Value) (A : Option Addr) (m c : Nat) (w : World) (hm : ys.length = m) (hbx : Byt xs) (hby : Byt ys) (hA : 0 < m → ∀ ad, A = some ad → ad.block ≠ g)
    (hn0 : 0 ≤ n) (hn1 : n + m ≤ 140737488355328) (hlen : xs.length + m ≤ 140737488355328) (hps : ps.length + (xs.length + m) / 64 ≤ 8796093022207) (hs : StreamAt w base g s ps xs n pv lv) (hbw : base ≤ w.heap.size) (hy : Cells w A (nums .u8 ys)) :
    Calls Try.prog 85 #[.pointer (some ⟨g, 0, none⟩), .slice A m c] w (WriteTells g base s ps (xs ++ ys) (n + m) (StreamS g pv lv) w) := by
  have HS := Lib.hid hs
  have Hm := Lib.hid hm
  have HY := Lib.hid hy
  have HA := Lib.hid hA
  have HBL : Hid (Byt (xs ++ ys)) := hbx.append hby
  obtain ⟨a, b, cc, d⟩ := s
  have HAT := Lib.hid hs.at_
  have HG := Lib.hid (at_lt hs.at_)
  obtain ⟨LA, lc, rfl, hlc⟩ := hs.left.slice
  have hn63 : (n : Int) + (m : Int) < 9223372036854775808 := by omega
  have h1 := at_set HAT.out 6 (.int .i64 (n + m))
  have HW1 : Hid ((w.setCell ⟨g, 6, none⟩ (.int .i64 (n + m))).heap[g]? = some (cS4 (a, b, cc, d) pv (.slice LA xs.length lc) (n + m))) := h1
  have HT1 : Hid (Tail (w.setCell ⟨g, 6, none⟩ (.int .i64 (n + m))) base (.slice LA xs.length lc) xs.length (nums .u8 xs)) := hs.left.setOther hs.apL _
  have HY1 : Hid (Cells (w.setCell ⟨g, 6, none⟩ (.int .i64 (n + m))) A (nums .u8 ys)) := by
    rcases Nat.eq_zero_or_pos m with h0 | h0
    · have : ys = [] := List.eq_nil_of_length_eq_zero (by rw [hm, h0])
      rw [this]
      exact Cells.nil_ _ _
    · exact hy.setOther (hA h0) _
  have HB1 : Hid (base ≤ (w.setCell ⟨g, 6, none⟩ (.int .i64 (n + m))).heap.size) := by unfold Hid; rw [World.size_setCell]; exact hbw
  have HON1 : Hid (Only (StreamS g pv (.slice LA xs.length lc)) w (w.setCell ⟨g, 6, none⟩ (.int .i64 (n + m)))) := (Only.refl_ _ _).setCell (p := ⟨g, 6, none⟩) (.inl (.inl rfl)) _
  have c0 : w.cell? ⟨g, 0, none⟩ = some (.int .u32 a) := at_cell HAT.out 0
  have c1 : w.cell? ⟨g, 1, none⟩ = some (.int .u32 b) := at_cell HAT.out 1
  have c2 : w.cell? ⟨g, 2, none⟩ = some (.int .u32 cc) := at_cell HAT.out 2
  have c3 : w.cell? ⟨g, 3, none⟩ = some (.int .u32 d) := at_cell HAT.out 3
  have c4 : w.cell? ⟨g, 4, none⟩ = some pv := at_cell HAT.out 4
  have c5 : w.cell? ⟨g, 5, none⟩ = some (.slice LA xs.length lc) := at_cell HAT.out 5
  have c6 : w.cell? ⟨g, 6, none⟩ = some (.int .i64 n) := at_cell HAT.out 6
  have f0 := at_frozen HAT.out 0
  have f1 := at_frozen HAT.out 1
  have f2 := at_frozen HAT.out 2
  have f3 := at_frozen HAT.out 3
  have f4 := at_frozen HAT.out 4
  have f5 := at_frozen HAT.out 5
  have f6 := at_frozen HAT.out 6
  have d5 : (w.setCell ⟨g, 6, none⟩ (.int .i64 (n + m))).cell? ⟨g, 5, none⟩ = some (.slice LA xs.length lc) := at_cell HW1.out 5
  clear hs hm hbx hby hA hy h1
  go_enter Try.func85, Try.ntmps85
  go_wp2_with
    (at_builtin
     refine wp_append_tail (w0 := w.setCell ⟨g, 6, none⟩ (.int .i64 (n + m))) base rfl (.tmp 20) (.tmp 21) 22 5 (.int .u8 0) 1 rfl Try.underlying22 info_u8 rfl (by decide) (.slice LA xs.length lc) xs.length (nums .u8 xs) A m c (nums .u8 ys) rfl rfl (by rw [nums_length, Hm.out]) (nums_one _ _) HT1.out HY1.out (Below.refl _ _) HB1.out (by omega) ?_
     intro v2 w2 ht2 hb2 hg2 hat2
     rw [← nums_append] at ht2
     obtain ⟨LB, lb, rfl, hlb⟩ := ht2.slice
     have hk2 : w2.heap[g]? = some (cS4 (a, b, cc, d) pv (.slice LA xs.length lc) (n + m)) := (hg2.block g (at_lt HW1.out) (fun he => HS.out.apL he.symm)).trans HW1.out
     have HK2 := Lib.hid hk2
     have HT2 := Lib.hid ht2
     have HON2 := Lib.hid (HON1.out.grown hg2 (fun k hk => .inl (.inr (.inr hk))))
     have HAT2 := Lib.hid hat2
     have HG2 := Lib.hid hg2
     have e5 := at_cell hk2 5
     have k5 := at_frozen hk2 5
     clear hb2 hat2 hg2 ht2 hk2)
  have hLL : (xs ++ ys).length = xs.length + m := by rw [List.length_append, Hm.out]
  obtain ⟨L, hL⟩ : ∃ L, xs ++ ys = L := ⟨_, rfl⟩
  rw [hL] at HBL hLL
  have HL := Lib.hid hL
  have HLL := Lib.hid hLL
  have h5 := at_set HK2.out 5 (.slice LB (xs.length + m) lb)
  have HS5 : Hid (StreamAt (w2.setCell ⟨g, 5, none⟩ (.slice LB (xs.length + m) lb)) base g (a, b, cc, d) ps L (n + m) pv (.slice LB (xs.length + m) lb)) := by
    have hne : (Value.slice LB (xs.length + m) lb).ownBlock ≠ some g := by
      rcases HAT2.out with h | ⟨b', h, hb'⟩
      · rw [h]; exact HS.out.apL
      · rw [h]
        intro he
        injection he with he
        have := at_lt HW1.out
        omega
    have ht := HT2.out
    rw [hL] at ht
    refine ⟨h5, HS.out.base_, ?_, ?_, hne, HS.out.apP, ?_⟩
    · rw [hLL]
      exact ht.setOther hne _
    · exact own_setCell (own_grown (own_setCell HS.out.past HS.out.apP _) HG2.out (by
        rcases hp : pv.ownBlock with _ | k
        · exact .inl rfl
        · exact .inr fun he => HS.out.apLP k he.symm hp)) HS.out.apP _
    · intro k hk hp
      rcases HAT2.out with h | ⟨b', h, hb'⟩
      · rw [h] at hk
        exact HS.out.apLP k hk hp
      · rw [h] at hk
        injection hk with hk
        subst hk
        have := own_lt HS.out.past _ hp
        rw [World.size_setCell] at hb'
        omega
  have HON5 : Hid (Only (StreamS g pv (.slice LA xs.length lc)) w (w2.setCell ⟨g, 5, none⟩ (.slice LB (xs.length + m) lb))) := HON2.out.setCell (p := ⟨g, 5, none⟩) (.inl (.inl rfl)) _
  have HOS5 : Hid (∀ k, StreamS g pv (.slice LB (xs.length + m) lb) k → StreamS g pv (.slice LA xs.length lc) k ∨ w.heap.size ≤ k) := by
    rintro k (h | h | h)
    · exact .inl (.inl h)
    · exact .inl (.inr (.inl h))
    · rcases HAT2.out with h' | ⟨b', h', hb'⟩
      · rw [h'] at h
        exact .inl (.inr (.inr h))
      · rw [h'] at h
        injection h with h
        subst h
        rw [World.size_setCell] at hb'
        exact .inr hb'
  clear c0 c1 c2 c3 c4 c5 c6 f0 f1 f2 f3 f4 f5 f6
  clear d5 e5 k5 h5 hL hLL HK2 HT2 HON2 HAT2 HG2 HW1 HT1 HY1 HB1 HON1 HAT
  go_wp2
  go_loopw [] (fun wr => ∃ (j : Nat) (lv' pv' : Value) (ps' : List W4), 64 * j ≤ L.length ∧ ps'.length = ps.length + j ∧ Hid (ps' = ps ++ mdPast (a, b, cc, d) L j) ∧ Hid (StreamAt wr base g (mdN (a, b, cc, d) L j) ps' (L.drop (64 * j)) (n + m) pv' lv') ∧ Hid (Only (StreamS g pv (.slice LA xs.length lc)) w wr) ∧ Hid (∀ k, StreamS g pv' lv' k → StreamS g pv (.slice LA xs.length lc) k ∨ w.heap.size ≤ k)) (fun wr => leftLen wr g)
  case atStart => exact ⟨0, _, pv, ps, by omega, by omega, (show ps = ps ++ mdPast (a, b, cc, d) L 0 by simp [mdPast]), HS5.out, HON5.out, HOS5.out⟩
  case round =>
    obtain ⟨j, lv', pv', ps', hj, hpl, HP, HST, HON, HOS⟩ := hrel
    have HPL := Lib.hid hpl
    clear hpl
    obtain ⟨B1, nl, hnl⟩ : ∃ (bs : List Int) (nl : Nat), L.drop (64 * j) = bs ∧ bs.length = nl := ⟨_, _, rfl, rfl⟩
    have HDR := Lib.hid hnl.1
    have HNL := Lib.hid hnl.2
    have hnl3 : nl = L.length - 64 * j := by rw [← hnl.2, ← hnl.1, List.length_drop]
    have HNL3 := Lib.hid hnl3
    rw [hnl.1] at HST
    have HBB : Hid (Byt B1) := by unfold Hid; rw [← hnl.1]; exact HBL.out.drop _
    obtain ⟨⟨a1, b1, c1', d1⟩, hq⟩ : ∃ q, mdN (a, b, cc, d) L j = q := ⟨_, rfl⟩
    have HQ := Lib.hid hq
    rw [hq] at HST
    obtain ⟨LC, lcc, rfl, hlcc⟩ := HST.out.left.slice
    have hll := leftLen_at HST.out
    rw [hnl.2] at hlcc hll HST HOS
    have HLEN := Lib.hid hll
    have HAT := Lib.hid HST.out.at_
    have HTL := HST.out.left
    rw [hnl.2] at HTL
    have HTL := Lib.hid HTL
    clear hnl hnl3 hq hll
    have c0 : wr.cell? ⟨g, 0, none⟩ = some (.int .u32 a1) := at_cell HAT.out 0
    have c1 : wr.cell? ⟨g, 1, none⟩ = some (.int .u32 b1) := at_cell HAT.out 1
    have c2 : wr.cell? ⟨g, 2, none⟩ = some (.int .u32 c1') := at_cell HAT.out 2
    have c3 : wr.cell? ⟨g, 3, none⟩ = some (.int .u32 d1) := at_cell HAT.out 3
    have c4 : wr.cell? ⟨g, 4, none⟩ = some pv' := at_cell HAT.out 4
    have c5 : wr.cell? ⟨g, 5, none⟩ = some (.slice LC nl lcc) := at_cell HAT.out 5
    have c6 : wr.cell? ⟨g, 6, none⟩ = some (.int .i64 (n + m)) := at_cell HAT.out 6
    have f0 := at_frozen HAT.out 0
    have f1 := at_frozen HAT.out 1
    have f2 := at_frozen HAT.out 2
    have f3 := at_frozen HAT.out 3
    have f4 := at_frozen HAT.out 4
    have f5 := at_frozen HAT.out 5
    have f6 := at_frozen HAT.out 6
    by_cases hlt : 64 ≤ nl
    · have hltI : (64 : Int) ≤ (nl : Int) := by omega
      have HB4 : Hid ((ps'.length + 1) * 16 ≤ 140737488355328) := by
        have h1 := HPL.out
        have h2 := HLL.out
        have h3 := HNL3.out
        unfold Hid
        omega
      obtain ⟨⟨a2, b2, c2', d2⟩, hq2⟩ : ∃ q, mdBlock (a1, b1, c1', d1) B1 = q := ⟨_, rfl⟩
      have HQ2 := Lib.hid hq2
      obtain ⟨ad, rfl, _⟩ := Tail.cells HTL.out (by rw [nums_length, HNL.out]; omega)
      have HNX : Hid (mdN (a, b, cc, d) L (j + 1) = (a2, b2, c2', d2)) := by
        unfold Hid
        rw [mdN, HQ.out, HDR.out]
        exact hq2
      clear hq2
      go_wp2
      go_region_law
        (refine step_call ?hg Try.func110 (by kernel_rfl) (by kernel_rfl) #[.tmp 35, .tmp 39] #[168, 22] ?ho #[.agg #[.int .u32 a1, .int .u32 b1, .int .u32 c1', .int .u32 d1], .slice (some ad) nl lcc] ?hv (block4_any a1 b1 c1' d1 (some ad) nl lcc B1 ?l1 ?l2 ?l3 ?l4 _ ?x1) ?_
         (case hg => rfl)
         (case ho => rfl)
         (case hv => go_simp)
         (case l1 => exact HNL.out)
         (case l2 => exact hlt)
         (case l3 => exact hlcc)
         (case l4 => exact HBB.out)
         (case x1 => exact (Tail.cells HTL.out).ext)
         rintro e w1 ⟨rfl, hb1⟩
         refine ⟨_, rfl, ?_⟩
         rw [HQ2.out]
         simp only
         have S1 : Step w1 _ := ⟨hb1⟩
         have HK1 := Lib.hid (at_ext (w' := w1) HAT.out)
         have X1 : Ext wr w1 := inferInstance
         have HX1 := Lib.hid X1
         clear c0 c1 c2 c3 c4 c5 c6 f0 f1 f2 f3 f4 f5 f6
         clear hb1
         have c0 : w1.cell? ⟨g, 0, none⟩ = some (.int .u32 a1) := at_cell HK1.out 0
         have c1 : w1.cell? ⟨g, 1, none⟩ = some (.int .u32 b1) := at_cell HK1.out 1
         have c2 : w1.cell? ⟨g, 2, none⟩ = some (.int .u32 c1') := at_cell HK1.out 2
         have c3 : w1.cell? ⟨g, 3, none⟩ = some (.int .u32 d1) := at_cell HK1.out 3
         have c4 : w1.cell? ⟨g, 4, none⟩ = some pv' := at_cell HK1.out 4
         have c5 : w1.cell? ⟨g, 5, none⟩ = some (.slice (some ad) nl lcc) := at_cell HK1.out 5
         have c6 : w1.cell? ⟨g, 6, none⟩ = some (.int .i64 (n + m)) := at_cell HK1.out 6
         have f0 := at_frozen HK1.out 0
         have f1 := at_frozen HK1.out 1
         have f2 := at_frozen HK1.out 2
         have f3 := at_frozen HK1.out 3
         have f4 := at_frozen HK1.out 4
         have f5 := at_frozen HK1.out 5
         have f6 := at_frozen HK1.out 6
         skip)
      all_goals
        clear c0 c1 c2 c3 c4 c5 c6 f0 f1 f2 f3 f4 f5 f6
        obtain ⟨w3, hw3⟩ : ∃ w3, (((w1.setCell ⟨g, 0, none⟩ (.int .u32 a2)).setCell ⟨g, 1, none⟩ (.int .u32 b2)).setCell ⟨g, 2, none⟩ (.int .u32 c2')).setCell ⟨g, 3, none⟩ (.int .u32 d2) = w3 := ⟨_, rfl⟩
        rw [hw3]
        have X1 : Ext wr w1 := HX1.out
        have HST3 := Lib.hid ((HST.out.ext (w' := w1)).words (a2, b2, c2', d2))
        have HON3 : Hid (Only (StreamS g pv (.slice LA xs.length lc)) w w3) := by
          unfold Hid
          rw [← hw3]
          exact ((((HON.out.ext X1).setCell (p := ⟨g, 0, none⟩) (.inl (.inl rfl)) _).setCell (p := ⟨g, 1, none⟩) (.inl (.inl rfl)) _).setCell (p := ⟨g, 2, none⟩) (.inl (.inl rfl)) _).setCell (p := ⟨g, 3, none⟩) (.inl (.inl rfl)) _
        simp only at HST3
        rw [hw3] at HST3
        have HK3 : Hid (w3.heap[g]? = some (cS4 (a2, b2, c2', d2) pv' (.slice (some ad) nl lcc) (n + m))) := HST3.out.at_
        have z3 : w.heap.size ≤ w3.heap.size := HON3.out.size
        clear hw3
        have c0 : w3.cell? ⟨g, 0, none⟩ = some (.int .u32 a2) := at_cell HK3.out 0
        have c1 : w3.cell? ⟨g, 1, none⟩ = some (.int .u32 b2) := at_cell HK3.out 1
        have c2 : w3.cell? ⟨g, 2, none⟩ = some (.int .u32 c2') := at_cell HK3.out 2
        have c3 : w3.cell? ⟨g, 3, none⟩ = some (.int .u32 d2) := at_cell HK3.out 3
        have c4 : w3.cell? ⟨g, 4, none⟩ = some pv' := at_cell HK3.out 4
        have c5 : w3.cell? ⟨g, 5, none⟩ = some (.slice (some ad) nl lcc) := at_cell HK3.out 5
        have c6 : w3.cell? ⟨g, 6, none⟩ = some (.int .i64 (n + m)) := at_cell HK3.out 6
        have f0 := at_frozen HK3.out 0
        have f1 := at_frozen HK3.out 1
        have f2 := at_frozen HK3.out 2
        have f3 := at_frozen HK3.out 3
        have f4 := at_frozen HK3.out 4
        have f5 := at_frozen HK3.out 5
        have f6 := at_frozen HK3.out 6
        have c4a : ∀ o, (w3.alloc o).cell? ⟨g, 4, none⟩ = some pv' := fun o => at_cell (at_ext HK3.out) 4
        go_wp2
        go_region_law
          (refine step_append base rfl (.tmp 47) (.tmp 52) 170 168 (.agg #[.int .u32 0, .int .u32 0, .int .u32 0, .int .u32 0]) 4 16 rfl Try.underlying170 info_w4 rfl (by decide) (by decide) pv' ps'.length (flatW ps') _ 1 1 (w4cells (a2, b2, c2', d2)) rfl rfl rfl ?e1 ?e0 ?e2 ?e3 ?e4 ?_
           (case e1 => intro u hu; simp [w4cells] at hu; rcases hu with rfl | rfl | rfl | rfl <;> rfl)
           (case e0 => exact own_ext (w := w3) HST3.out.past)
           (case e2 => exact cells_box _ _ (by simp) (w4cells (a2, b2, c2', d2)) _)
           (case e3 => simp; omega)
           (case e4 => exact HB4.out)
           intro v4 w4 ho4 hg4 hat4
           obtain ⟨LP, lp, rfl, hlp⟩ := own_slice ho4
           have hk4 : w4.heap[g]? = some (cS4 (a2, b2, c2', d2) pv' (.slice (some ad) nl lcc) (n + m)) := (hg4.block g (at_lt (at_ext HK3.out)) (fun he => HST3.out.apP he.symm)).trans (at_ext HK3.out)
           have HP4 := Lib.hid (StreamAt.push HST3.out (by exact inferInstance) ho4 hg4 (hat4.imp_right fun h => ⟨_, h, Nat.le_refl _⟩))
           have HON4 := Lib.hid ((HON3.out.ext (by exact inferInstance)).grown hg4 (fun k hk => HOS.out k (.inr (.inl hk))))
           have HAT4 := Lib.hid hat4
           clear c0 c1 c2 c3 c4 c5 c6 f0 f1 f2 f3 f4 f5 f6
           clear c4a
           have c4 := at_cell hk4 4
           have f4 := at_frozen hk4 4
           clear hk4 ho4 hg4 hat4
           skip)
        all_goals
          obtain ⟨w5, hw5⟩ : ∃ w5, w4.setCell ⟨g, 4, none⟩ (.slice LP (ps'.length + 1) lp) = w5 := ⟨_, rfl⟩
          rw [hw5]
          have HP5 := HP4
          rw [hw5] at HP5
          have HON5 : Hid (Only (StreamS g pv (.slice LA xs.length lc)) w w5) := by
            unfold Hid
            rw [← hw5]
            exact HON4.out.setCell (p := ⟨g, 4, none⟩) (.inl (.inl rfl)) _
          have HOS5 : Hid (∀ k, StreamS g (.slice LP (ps'.length + 1) lp) (.slice (some ad) nl lcc) k → StreamS g pv (.slice LA xs.length lc) k ∨ w.heap.size ≤ k) := by
            rintro k (h | h | h)
            · exact .inl (.inl h)
            · rcases HAT4.out with h' | h'
              · rw [h'] at h
                exact HOS.out k (.inr (.inl h))
              · rw [h'] at h
                injection h with h
                subst h
                refine .inr ?_
                simp
                omega
            · exact HOS.out k (.inr (.inr h))
          clear hw5 c4 f4
          have c5 : w5.cell? ⟨g, 5, none⟩ = some (.slice (some ad) nl lcc) := at_cell HP5.out.at_ 5
          have f5 := at_frozen HP5.out.at_ 5
          have hdr : L.drop (64 * (j + 1)) = B1.drop 64 := by
            rw [show 64 * (j + 1) = 64 * j + 64 by omega, ← List.drop_drop, HDR.out]
          have HDR2 := Lib.hid hdr
          clear hdr
          by_cases hck : lcc = 64
          · have hn64 : nl = 64 := by omega
            subst hck
            subst hn64
            have HC6 := Lib.hid (StreamAt.cut HP5.out HNL.out 64 (Nat.le_refl _) (A' := some ad) (by rw [if_pos rfl]))
            go_wp2
            refine ⟨⟨j + 1, .slice (some ad) (64 - 64) (64 - 64), .slice LP (ps'.length + 1) lp, ps' ++ [(a2, b2, c2', d2)], ?_, ?_, ?_, ?_, ?_, ?_⟩, ?_⟩
            · have := HNL3.out
              omega
            · rw [List.length_append, HPL.out]
              rfl
            · show _ = _
              rw [HP.out, mdPast_succ, HNX.out, List.append_assoc]
            · rw [HNX.out, HDR2.out]
              exact HC6.out
            · exact HON5.out.setCell (p := ⟨g, 5, none⟩) (.inl (.inl rfl)) _
            · rintro k (h | h | h)
              · exact HOS5.out k (.inl h)
              · exact HOS5.out k (.inr (.inl h))
              · exact HOS5.out k (.inr (.inr (by rw [← h]; first | rfl | simp [Value.ownBlock, block_of_add])))
            · have hl := leftLen_at HC6.out
              rw [List.length_drop, HNL.out] at hl
              rw [HLEN.out]
              refine Nat.lt_of_le_of_lt (Nat.le_of_eq hl) ?_
              omega
          · have hck' : ¬ (lcc : Int) = 64 := by omega
            have hcc1 : 64 ≤ lcc := by omega
            have hcc2 : (64 : Int) ≤ (lcc : Int) := by omega
            have HC6 := Lib.hid (StreamAt.cut HP5.out HNL.out 64 hlt (A' := some (ad.add 64)) (by rw [if_neg hck]; rfl))
            go_wp2
            refine ⟨⟨j + 1, .slice (some (ad.add 64)) (nl - 64) (lcc - 64), .slice LP (ps'.length + 1) lp, ps' ++ [(a2, b2, c2', d2)], ?_, ?_, ?_, ?_, ?_, ?_⟩, ?_⟩
            · have := HNL3.out
              omega
            · rw [List.length_append, HPL.out]
              rfl
            · show _ = _
              rw [HP.out, mdPast_succ, HNX.out, List.append_assoc]
            · rw [HNX.out, HDR2.out]
              exact HC6.out
            · exact HON5.out.setCell (p := ⟨g, 5, none⟩) (.inl (.inl rfl)) _
            · rintro k (h | h | h)
              · exact HOS5.out k (.inl h)
              · exact HOS5.out k (.inr (.inl h))
              · exact HOS5.out k (.inr (.inr (by rw [← h]; first | rfl | simp [Value.ownBlock, block_of_add])))
            · have hl := leftLen_at HC6.out
              rw [List.length_drop, HNL.out] at hl
              rw [HLEN.out]
              refine Nat.lt_of_le_of_lt (Nat.le_of_eq hl) ?_
              omega
    · have hltI : ¬ (64 : Int) ≤ (nl : Int) := by omega
      have hjq : L.length / 64 = j := by have := HNL3.out; omega
      go_wp2
      go_ret
      refine ⟨pv', _, rfl, ?_, HON.out, HOS.out⟩
      rw [HL.out, hjq, HDR.out, HQ.out, ← HP.out]
      exact HST.out
end Go.Proofs.Ytobddmpiljknpaa
