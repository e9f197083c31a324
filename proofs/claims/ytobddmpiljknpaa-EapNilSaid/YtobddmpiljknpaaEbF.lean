/-
  eap: Server.Take: what is refused. Conditions: sizes.
-/
import Derived.Test.YtobddmpiljknpaaEbE
namespace Go.Proofs.Ytobddmpiljknpaa
open Go.RowKit
set_option linter.unusedVariables false
set_option linter.unusedSimpArgs false

theorem rdE_all {code id : Int} {xs : List Int} {m : MV} {e : Int} (hb : Byt xs) (h : rdE code id xs = (m, e)) : (Byt m.v ∧ m.v.length ≤ xs.length) ∧ Byt m.s ∧ m.s.length ≤ xs.length := by
  have nl : ∀ k : Int, (zMV, k) = (m, e) → (Byt m.v ∧ m.v.length ≤ xs.length) ∧ Byt m.s ∧ m.s.length ≤ xs.length := by
    intro k h
    injection h with h _
    subst h
    exact ⟨⟨fun _ h => (by cases h), Nat.zero_le _⟩, fun _ h => (by cases h), Nat.zero_le _⟩
  unfold rdE at h
  split at h
  · exact nl _ h
  split at h
  · exact nl _ h
  split at h
  · exact nl _ h
  split at h
  · injection h with h _
    subst h
    exact ⟨⟨fun _ h => (by cases h), Nat.zero_le _⟩, fun _ h => (by cases h), Nat.zero_le _⟩
  rcases xs with _ | ⟨X, ys⟩
  · exact nl _ h
  have hy : Byt ys := fun y hy => hb y (List.mem_cons_of_mem _ hy)
  replace h : rdB code id X ys = (m, e) := h
  unfold rdB at h
  split at h
  · exact nl _ h
  split at h
  · injection h with h _
    subst h
    exact ⟨⟨fun _ h => (by cases h), Nat.zero_le _⟩, hy, by simp⟩
  split at h
  · rcases hp : prtF ys with _ | ⟨p, r⟩
    · rw [hp] at h
      exact nl _ h
    · rw [hp] at h
      injection h with h _
      subst h
      have h2 := prtF_some hy hp
      refine ⟨⟨h2.1.1, ?_⟩, h2.2.1, by have := h2.2.2; simp only [List.length_cons]; omega⟩
      have h3 : p.length ≤ ys.length := by
        rcases ys with _ | ⟨Y, zs⟩
        · cases hp
        · have h' : (if (zs.length : Int) < Y then none else some (zs.take Y.toNat, zs.drop Y.toNat)) = some (p, r) := hp
          split at h'
          · cases h'
          · injection h' with h'
            injection h' with h1 _
            rw [← h1, List.length_take, List.length_cons]
            omega
      simp only [List.length_cons]
      omega
  · injection h with h _
    subst h
    exact ⟨⟨hy, by simp⟩, fun _ h => (by cases h), Nat.zero_le _⟩
/-- What a server makes of a packet. -/
structure TR where
  s : SS
  c : Int
  i : Int
  d : List Int
  ok : Bool
  e : Int
def badR (s : SS) (e : Int) : TR := ⟨s, 0, 0, [], false, e⟩
def endR (s : SS) (code id : Int) : TR := ⟨endS s code, (wrE code id 0 [] []).1.1, (wrE code id 0 [] []).1.2, (wrE code id 0 [] []).2.1, true, 0⟩
def saysS (s : SS) (t : List Int) : SS := { s with says := strOfNums t }
def takeM (nm : ByteArray) (us : List SV) (s : SS) (m : MV) (v : List Int) : TR :=
  if m.c ≠ 2 then badR s 90
  else if s.st ≠ 1 ∧ s.st ≠ 2 then badR s 9
  else if m.i ≠ s.id then badR s 1
  else if s.st = 1 ∧ m.t = 1 ∧ nameF m.s = true then
    (if strB (secW m.s (strB nm) us) ≠ [] ∧ fitsB v.length = true then ⟨proveS nm us (saysS s m.s) v, (proveS nm us (saysS s m.s) v).lc, (proveS nm us (saysS s m.s) v).li, (proveS nm us (saysS s m.s) v).ld, true, 0⟩ else endR (saysS s m.s) 4 m.i)
  else if s.st = 2 ∧ m.t = 4 ∧ m.v = s.due then endR s 3 m.i
  else endR s 4 m.i
def takeR (nm : ByteArray) (us : List SV) (s : SS) (code id : Int) (xs v : List Int) : TR :=
  if (rdE code id xs).2 ≠ 0 then badR s (rdE code id xs).2 else takeM nm us s (rdE code id xs).1 v
def TkTells (B T : Nat) (nm : ByteArray) (tries : Int) (us : List SV) (r : TR) (w : World) (e : Ending) (w' : World) : Prop :=
  ∃ A k LA lk, e = .returned (.tuple #[.agg #[.int .i64 r.c, .int .i64 r.i, .slice A r.d.length k], .bool r.ok, .int .i64 r.e]) ∧ w'.ownsRow w.heap.size 5 1 (.slice A r.d.length k) r.d.length (nums .u8 r.d) ∧ ESrv w' B T nm tries r.s us LA lk ∧ But w w' B
set_option maxRecDepth 100000 in
set_option maxHeartbeats 4000000 in
theorem take4_b1 (B T : Nat) (nm : ByteArray) (tries : Int) (s : SS) (us : List SV) (LA : Option Addr) (lk : Nat) (code id : Int) (A : Option Addr) (n c : Nat) (xs : List Int) (V : Option Addr) (vn vc : Nat) (v : List Int) (hn : xs.length = n) (hn' : n ≤ 140737488355000) (hnc : n ≤ c) (hb : Byt xs) (hv : v.length = vn) (hv' : vn ≤ 140737488355328) (hbv : Byt v) (w : World) (hx : Cells w A (nums .u8 xs)) (hxv : Cells w V (nums .u8 v)) (hfv : ∀ ad, V = some ad → ad.block ≠ B ∧ ad.block < w.heap.size) (hE : ESrv w B T nm tries s us LA lk) (mc mi mt : Int) (mv ms : List Int) (me : Int) (hrd : rdE code id xs = (⟨mc, mi, mt, mv, ms⟩, me)) (z0 : me ≠ 0) :
        Calls Try.prog 41 #[.pointer (some ⟨B, 0, none⟩), .agg #[.int .i64 code, .int .i64 id, .slice A n c], .slice V vn vc] w (TkTells B T nm tries us (takeR nm us s code id xs v) w) := by
  have Hn := Lib.hid hn
  have HX := Lib.hid hx
  have HB := Lib.hid hb
  have Hv := Lib.hid hv
  have HXV := Lib.hid hxv
  have HFV := Lib.hid hfv
  have HBV := Lib.hid hbv
  have HE := Lib.hid hE
  have HBL : Hid (B < w.heap.size) := at_lt hE.b
  clear hE hn hx hb hv hxv hfv hbv
  have HRD := Lib.hid hrd
  have HRA := Lib.hid (rdE_all HB.out hrd)
  have HF0 : Hid (takeR nm us s code id xs v = if me ≠ 0 then badR s me else takeM nm us s ⟨mc, mi, mt, mv, ms⟩ v) := by unfold Hid takeR; rw [hrd]; try rfl
  clear hrd
  go_enter Try.func41, Try.ntmps41
  go_upto_region 1 with fail
  obtain ⟨wb, hwb⟩ : ∃ wb, (w.alloc (.cells #[.int .i64 code, .int .i64 id, .slice A n c] 24)).alloc zPk = wb := ⟨_, rfl⟩
  have HP : Hid (wb.heap[w.heap.size]? = some (.cells #[.int .i64 code, .int .i64 id, .slice A n c] 24 (0, 0))) := by unfold Hid; rw [← hwb]; exact at_ext (at_new w _)
  have HZ : Hid (wb.heap[w.heap.size + 1]? = some zPk) := by unfold Hid; rw [← hwb]; exact at_new1 (by simp)
  have HW : Hid (Ext w wb) := by unfold Hid; rw [← hwb]; exact inferInstance
  rw [hwb]
  clear hwb
  have p0 : wb.cell? ⟨w.heap.size, 0, none⟩ = some (.int .i64 code) := at_cell HP.out 0
  have p1 : wb.cell? ⟨w.heap.size, 1, none⟩ = some (.int .i64 id) := at_cell HP.out 1
  have p2 : wb.cell? ⟨w.heap.size, 2, none⟩ = some (.slice A n c) := at_cell HP.out 2
  go_wp2_with fail
  refine (eread_any code id A n c xs Hn.out hn' hnc HB.out _ (HX.out.ext (h := HW.out))).mono ?_
  rintro e w1 ⟨A1, k1, rfl, ho1, hb1⟩
  rw [HRD.out] at ho1 ⊢
  simp only at ho1 ⊢
  obtain ⟨tb, htb⟩ : ∃ tb, strOfNums ms = tb := ⟨_, rfl⟩
  have HTB := Lib.hid htb
  rw [htb]
  have X1 : Hid (Ext wb w1) := ⟨hb1⟩
  have HO1 := Lib.hid ho1
  have pp : ∀ o, (w1.alloc o).heap[w1.heap.size]? = some o := at_new w1
  clear ho1 hb1 p0 p1 p2 htb
  go_upto_region 4 with
    (refine wpList_store_row_o rfl 52 (.tmp 9) (.tmp 17) rfl w1.heap.size #[.int .i64 mc, .int .i64 mi, .int .i64 mt, .slice A1 mv.length k1, .string tb] rfl rfl 52 zMs (pp _) (by kernel_rfl) rfl (by simp [Value.oneCell']) ?_
     intro w2 hr2 ho2 hz2 hb2
     have HM2 := Lib.hid hr2
     have X12 : Hid (Ext w1 w2) := ⟨hb2 _ _ (inferInstance : Ext w1 (w1.alloc _)).out (Nat.le_refl _)⟩
     clear hr2 ho2 hz2 hb2 pp)
  have X2 : Hid (Ext w w2) := Ext.trans_ HW.out (Ext.trans_ X1.out X12.out)
  have HZ2 : Hid (w2.heap[w.heap.size + 1]? = some zPk) := at_ext (h := Ext.trans_ X1.out X12.out) HZ.out
  have HE2 := Lib.hid (HE.out.ext (h := X2.out))
  have HO2 := Lib.hid (own_ext (h := X12.out) HO1.out)
  have HF : Hid (takeR nm us s code id xs v = badR s me) := HF0.out.trans (if_pos z0)
  have z0b : (me != 0) = true := by simpa using z0
  clear z0
  go_wp2_with
    (refine wpList_store_row rfl 24 (.tmp 6) (.tmp 22) rfl (w.heap.size + 1) #[.int .i64 0, .int .i64 0, .slice none 0 0] rfl rfl 24 #[.int .i64 0, .int .i64 0, .slice none 0 0] HZ2.out (by kernel_rfl) rfl (by simp [Value.oneCell']) ?_)
  refine bodyPost_ret (results_cell_row3 Try.results41 _ _ (w.heap.size + 1) 24 #[.int .i64 0, .int .i64 0, .slice none 0 0] (0, 0) _ (.bool false) (.int .i64 me) rfl rfl rfl (setRow_heap _ _ _ _ _ _ HZ2.out) Try.underlying24 rfl (by kernel_rfl)) rfl ?_
  rw [HF.out]
  refine ⟨none, 0, LA, lk, rfl, own_nil _ _ _ _, HE2.out.rowY (by have := HBL.out; omega) (fun ad ha => ?_) _, (But.of (h := X2.out)).rowY (by omega) _⟩
  have := (HE.out.far ad ha).2
  omega
set_option maxRecDepth 100000 in
set_option maxHeartbeats 4000000 in
theorem take4_b2 (B T : Nat) (nm : ByteArray) (tries : Int) (s : SS) (us : List SV) (LA : Option Addr) (lk : Nat) (code id : Int) (A : Option Addr) (n c : Nat) (xs : List Int) (V : Option Addr) (vn vc : Nat) (v : List Int) (hn : xs.length = n) (hn' : n ≤ 140737488355000) (hnc : n ≤ c) (hb : Byt xs) (hv : v.length = vn) (hv' : vn ≤ 140737488355328) (hbv : Byt v) (w : World) (hx : Cells w A (nums .u8 xs)) (hxv : Cells w V (nums .u8 v)) (hfv : ∀ ad, V = some ad → ad.block ≠ B ∧ ad.block < w.heap.size) (hE : ESrv w B T nm tries s us LA lk) (mc mi mt : Int) (mv ms : List Int) (me : Int) (hrd : rdE code id xs = (⟨mc, mi, mt, mv, ms⟩, me)) (z0 : me = 0) (z1 : mc ≠ 2) :
        Calls Try.prog 41 #[.pointer (some ⟨B, 0, none⟩), .agg #[.int .i64 code, .int .i64 id, .slice A n c], .slice V vn vc] w (TkTells B T nm tries us (takeR nm us s code id xs v) w) := by
  have Hn := Lib.hid hn
  have HX := Lib.hid hx
  have HB := Lib.hid hb
  have Hv := Lib.hid hv
  have HXV := Lib.hid hxv
  have HFV := Lib.hid hfv
  have HBV := Lib.hid hbv
  have HE := Lib.hid hE
  have HBL : Hid (B < w.heap.size) := at_lt hE.b
  clear hE hn hx hb hv hxv hfv hbv
  have HRD := Lib.hid hrd
  have HRA := Lib.hid (rdE_all HB.out hrd)
  have HF0 : Hid (takeR nm us s code id xs v = if me ≠ 0 then badR s me else takeM nm us s ⟨mc, mi, mt, mv, ms⟩ v) := by unfold Hid takeR; rw [hrd]; try rfl
  clear hrd
  go_enter Try.func41, Try.ntmps41
  go_upto_region 1 with fail
  obtain ⟨wb, hwb⟩ : ∃ wb, (w.alloc (.cells #[.int .i64 code, .int .i64 id, .slice A n c] 24)).alloc zPk = wb := ⟨_, rfl⟩
  have HP : Hid (wb.heap[w.heap.size]? = some (.cells #[.int .i64 code, .int .i64 id, .slice A n c] 24 (0, 0))) := by unfold Hid; rw [← hwb]; exact at_ext (at_new w _)
  have HZ : Hid (wb.heap[w.heap.size + 1]? = some zPk) := by unfold Hid; rw [← hwb]; exact at_new1 (by simp)
  have HW : Hid (Ext w wb) := by unfold Hid; rw [← hwb]; exact inferInstance
  rw [hwb]
  clear hwb
  have p0 : wb.cell? ⟨w.heap.size, 0, none⟩ = some (.int .i64 code) := at_cell HP.out 0
  have p1 : wb.cell? ⟨w.heap.size, 1, none⟩ = some (.int .i64 id) := at_cell HP.out 1
  have p2 : wb.cell? ⟨w.heap.size, 2, none⟩ = some (.slice A n c) := at_cell HP.out 2
  go_wp2_with fail
  refine (eread_any code id A n c xs Hn.out hn' hnc HB.out _ (HX.out.ext (h := HW.out))).mono ?_
  rintro e w1 ⟨A1, k1, rfl, ho1, hb1⟩
  rw [HRD.out] at ho1 ⊢
  simp only at ho1 ⊢
  obtain ⟨tb, htb⟩ : ∃ tb, strOfNums ms = tb := ⟨_, rfl⟩
  have HTB := Lib.hid htb
  rw [htb]
  have X1 : Hid (Ext wb w1) := ⟨hb1⟩
  have HO1 := Lib.hid ho1
  have pp : ∀ o, (w1.alloc o).heap[w1.heap.size]? = some o := at_new w1
  clear ho1 hb1 p0 p1 p2 htb
  go_upto_region 4 with
    (refine wpList_store_row_o rfl 52 (.tmp 9) (.tmp 17) rfl w1.heap.size #[.int .i64 mc, .int .i64 mi, .int .i64 mt, .slice A1 mv.length k1, .string tb] rfl rfl 52 zMs (pp _) (by kernel_rfl) rfl (by simp [Value.oneCell']) ?_
     intro w2 hr2 ho2 hz2 hb2
     have HM2 := Lib.hid hr2
     have X12 : Hid (Ext w1 w2) := ⟨hb2 _ _ (inferInstance : Ext w1 (w1.alloc _)).out (Nat.le_refl _)⟩
     clear hr2 ho2 hz2 hb2 pp)
  have X2 : Hid (Ext w w2) := Ext.trans_ HW.out (Ext.trans_ X1.out X12.out)
  have HZ2 : Hid (w2.heap[w.heap.size + 1]? = some zPk) := at_ext (h := Ext.trans_ X1.out X12.out) HZ.out
  have HE2 := Lib.hid (HE.out.ext (h := X2.out))
  have HO2 := Lib.hid (own_ext (h := X12.out) HO1.out)
  subst z0
  have HF : Hid (takeR nm us s code id xs v = badR s 90) := HF0.out.trans ((if_neg (by simp)).trans (if_pos z1))
  have m0 : w2.cell? ⟨w1.heap.size, 0, none⟩ = some (.int .i64 mc) := at_cell HM2.out 0
  have z1b : (mc != 2) = true := by simpa using z1
  clear z1
  go_wp2_with
    (refine wpList_store_row rfl 24 (.tmp 6) (.tmp 28) rfl (w.heap.size + 1) #[.int .i64 0, .int .i64 0, .slice none 0 0] rfl rfl 24 #[.int .i64 0, .int .i64 0, .slice none 0 0] HZ2.out (by kernel_rfl) rfl (by simp [Value.oneCell']) ?_)
  refine bodyPost_ret (results_cell_row3 Try.results41 _ _ (w.heap.size + 1) 24 #[.int .i64 0, .int .i64 0, .slice none 0 0] (0, 0) _ (.bool false) (.int .i64 90) rfl rfl rfl (setRow_heap _ _ _ _ _ _ HZ2.out) Try.underlying24 rfl (by kernel_rfl)) rfl ?_
  rw [HF.out]
  refine ⟨none, 0, LA, lk, rfl, own_nil _ _ _ _, HE2.out.rowY (by have := HBL.out; omega) (fun ad ha => ?_) _, (But.of (h := X2.out)).rowY (by omega) _⟩
  have := (HE.out.far ad ha).2
  omega
set_option maxRecDepth 100000 in
set_option maxHeartbeats 4000000 in
theorem take4_b3 (B T : Nat) (nm : ByteArray) (tries : Int) (s : SS) (us : List SV) (LA : Option Addr) (lk : Nat) (code id : Int) (A : Option Addr) (n c : Nat) (xs : List Int) (V : Option Addr) (vn vc : Nat) (v : List Int) (hn : xs.length = n) (hn' : n ≤ 140737488355000) (hnc : n ≤ c) (hb : Byt xs) (hv : v.length = vn) (hv' : vn ≤ 140737488355328) (hbv : Byt v) (w : World) (hx : Cells w A (nums .u8 xs)) (hxv : Cells w V (nums .u8 v)) (hfv : ∀ ad, V = some ad → ad.block ≠ B ∧ ad.block < w.heap.size) (hE : ESrv w B T nm tries s us LA lk) (st mi mt : Int) (mv ms : List Int) (hrd : rdE code id xs = (⟨2, mi, mt, mv, ms⟩, 0)) (hst : s.st = st) (z2 : st ≠ 1 ∧ st ≠ 2) :
        Calls Try.prog 41 #[.pointer (some ⟨B, 0, none⟩), .agg #[.int .i64 code, .int .i64 id, .slice A n c], .slice V vn vc] w (TkTells B T nm tries us (takeR nm us s code id xs v) w) := by
  have Hn := Lib.hid hn
  have HX := Lib.hid hx
  have HB := Lib.hid hb
  have Hv := Lib.hid hv
  have HXV := Lib.hid hxv
  have HFV := Lib.hid hfv
  have HBV := Lib.hid hbv
  have HE := Lib.hid hE
  have HBL : Hid (B < w.heap.size) := at_lt hE.b
  clear hE hn hx hb hv hxv hfv hbv
  have HRD := Lib.hid hrd
  have HRA := Lib.hid (rdE_all HB.out hrd)
  have HF0 : Hid (takeR nm us s code id xs v = if 0 ≠ 0 then badR s 0 else takeM nm us s ⟨2, mi, mt, mv, ms⟩ v) := by unfold Hid takeR; rw [hrd]; try rfl
  clear hrd
  go_enter Try.func41, Try.ntmps41
  go_upto_region 1 with fail
  obtain ⟨wb, hwb⟩ : ∃ wb, (w.alloc (.cells #[.int .i64 code, .int .i64 id, .slice A n c] 24)).alloc zPk = wb := ⟨_, rfl⟩
  have HP : Hid (wb.heap[w.heap.size]? = some (.cells #[.int .i64 code, .int .i64 id, .slice A n c] 24 (0, 0))) := by unfold Hid; rw [← hwb]; exact at_ext (at_new w _)
  have HZ : Hid (wb.heap[w.heap.size + 1]? = some zPk) := by unfold Hid; rw [← hwb]; exact at_new1 (by simp)
  have HW : Hid (Ext w wb) := by unfold Hid; rw [← hwb]; exact inferInstance
  rw [hwb]
  clear hwb
  have p0 : wb.cell? ⟨w.heap.size, 0, none⟩ = some (.int .i64 code) := at_cell HP.out 0
  have p1 : wb.cell? ⟨w.heap.size, 1, none⟩ = some (.int .i64 id) := at_cell HP.out 1
  have p2 : wb.cell? ⟨w.heap.size, 2, none⟩ = some (.slice A n c) := at_cell HP.out 2
  go_wp2_with fail
  refine (eread_any code id A n c xs Hn.out hn' hnc HB.out _ (HX.out.ext (h := HW.out))).mono ?_
  rintro e w1 ⟨A1, k1, rfl, ho1, hb1⟩
  rw [HRD.out] at ho1 ⊢
  simp only at ho1 ⊢
  obtain ⟨tb, htb⟩ : ∃ tb, strOfNums ms = tb := ⟨_, rfl⟩
  have HTB := Lib.hid htb
  rw [htb]
  have X1 : Hid (Ext wb w1) := ⟨hb1⟩
  have HO1 := Lib.hid ho1
  have pp : ∀ o, (w1.alloc o).heap[w1.heap.size]? = some o := at_new w1
  clear ho1 hb1 p0 p1 p2 htb
  go_upto_region 4 with
    (refine wpList_store_row_o rfl 52 (.tmp 9) (.tmp 17) rfl w1.heap.size #[.int .i64 2, .int .i64 mi, .int .i64 mt, .slice A1 mv.length k1, .string tb] rfl rfl 52 zMs (pp _) (by kernel_rfl) rfl (by simp [Value.oneCell']) ?_
     intro w2 hr2 ho2 hz2 hb2
     have HM2 := Lib.hid hr2
     have X12 : Hid (Ext w1 w2) := ⟨hb2 _ _ (inferInstance : Ext w1 (w1.alloc _)).out (Nat.le_refl _)⟩
     clear hr2 ho2 hz2 hb2 pp)
  have X2 : Hid (Ext w w2) := Ext.trans_ HW.out (Ext.trans_ X1.out X12.out)
  have HZ2 : Hid (w2.heap[w.heap.size + 1]? = some zPk) := at_ext (h := Ext.trans_ X1.out X12.out) HZ.out
  have HE2 := Lib.hid (HE.out.ext (h := X2.out))
  have HO2 := Lib.hid (own_ext (h := X12.out) HO1.out)
  have HF1 : Hid (takeR nm us s code id xs v = takeM nm us s ⟨2, mi, mt, mv, ms⟩ v) := HF0.out.trans (if_neg (by simp))
  clear HF0
  have m0 : w2.cell? ⟨w1.heap.size, 0, none⟩ = some (.int .i64 2) := at_cell HM2.out 0
  have m1 : w2.cell? ⟨w1.heap.size, 1, none⟩ = some (.int .i64 mi) := at_cell HM2.out 1
  have m2 : w2.cell? ⟨w1.heap.size, 2, none⟩ = some (.int .i64 mt) := at_cell HM2.out 2
  have m4 : w2.cell? ⟨w1.heap.size, 4, none⟩ = some (.string tb) := at_cell HM2.out 4
  have HST := Lib.hid hst
  have s4 : w2.cell? ⟨B, 4, none⟩ = some (.int .i64 st) := (at_cell HE2.out.b 4).trans (congrArg (fun x => some (Value.int .i64 x)) HST.out)
  clear hst
  have HF : Hid (takeR nm us s code id xs v = badR s 9) := HF1.out.trans (by unfold takeM; rw [if_neg (by simp), if_pos (by rw [HST.out]; exact z2)])
  have z2b : (st != 1) = true := by simpa using z2.1
  have z2c : (st != 2) = true := by simpa using z2.2
  clear z2
  go_wp2_with
    (refine wpList_store_row rfl 24 (.tmp 6) (.tmp 42) rfl (w.heap.size + 1) #[.int .i64 0, .int .i64 0, .slice none 0 0] rfl rfl 24 #[.int .i64 0, .int .i64 0, .slice none 0 0] HZ2.out (by kernel_rfl) rfl (by simp [Value.oneCell']) ?_)
  refine bodyPost_ret (results_cell_row3 Try.results41 _ _ (w.heap.size + 1) 24 #[.int .i64 0, .int .i64 0, .slice none 0 0] (0, 0) _ (.bool false) (.int .i64 9) rfl rfl rfl (setRow_heap _ _ _ _ _ _ HZ2.out) Try.underlying24 rfl (by kernel_rfl)) rfl ?_
  rw [HF.out]
  refine ⟨none, 0, LA, lk, rfl, own_nil _ _ _ _, HE2.out.rowY (by have := HBL.out; omega) (fun ad ha => ?_) _, (But.of (h := X2.out)).rowY (by omega) _⟩
  have := (HE.out.far ad ha).2
  omega
set_option maxRecDepth 100000 in
set_option maxHeartbeats 4000000 in
theorem take4_b41 (B T : Nat) (nm : ByteArray) (tries : Int) (s : SS) (us : List SV) (LA : Option Addr) (lk : Nat) (code id : Int) (A : Option Addr) (n c : Nat) (xs : List Int) (V : Option Addr) (vn vc : Nat) (v : List Int) (hn : xs.length = n) (hn' : n ≤ 140737488355000) (hnc : n ≤ c) (hb : Byt xs) (hv : v.length = vn) (hv' : vn ≤ 140737488355328) (hbv : Byt v) (w : World) (hx : Cells w A (nums .u8 xs)) (hxv : Cells w V (nums .u8 v)) (hfv : ∀ ad, V = some ad → ad.block ≠ B ∧ ad.block < w.heap.size) (hE : ESrv w B T nm tries s us LA lk) (mi mt : Int) (mv ms : List Int) (hrd : rdE code id xs = (⟨2, mi, mt, mv, ms⟩, 0)) (hst : s.st = 1) (z3 : mi ≠ s.id) :
        Calls Try.prog 41 #[.pointer (some ⟨B, 0, none⟩), .agg #[.int .i64 code, .int .i64 id, .slice A n c], .slice V vn vc] w (TkTells B T nm tries us (takeR nm us s code id xs v) w) := by
  have Hn := Lib.hid hn
  have HX := Lib.hid hx
  have HB := Lib.hid hb
  have Hv := Lib.hid hv
  have HXV := Lib.hid hxv
  have HFV := Lib.hid hfv
  have HBV := Lib.hid hbv
  have HE := Lib.hid hE
  have HBL : Hid (B < w.heap.size) := at_lt hE.b
  clear hE hn hx hb hv hxv hfv hbv
  have HRD := Lib.hid hrd
  have HRA := Lib.hid (rdE_all HB.out hrd)
  have HF0 : Hid (takeR nm us s code id xs v = if 0 ≠ 0 then badR s 0 else takeM nm us s ⟨2, mi, mt, mv, ms⟩ v) := by unfold Hid takeR; rw [hrd]; try rfl
  clear hrd
  go_enter Try.func41, Try.ntmps41
  go_upto_region 1 with fail
  obtain ⟨wb, hwb⟩ : ∃ wb, (w.alloc (.cells #[.int .i64 code, .int .i64 id, .slice A n c] 24)).alloc zPk = wb := ⟨_, rfl⟩
  have HP : Hid (wb.heap[w.heap.size]? = some (.cells #[.int .i64 code, .int .i64 id, .slice A n c] 24 (0, 0))) := by unfold Hid; rw [← hwb]; exact at_ext (at_new w _)
  have HZ : Hid (wb.heap[w.heap.size + 1]? = some zPk) := by unfold Hid; rw [← hwb]; exact at_new1 (by simp)
  have HW : Hid (Ext w wb) := by unfold Hid; rw [← hwb]; exact inferInstance
  rw [hwb]
  clear hwb
  have p0 : wb.cell? ⟨w.heap.size, 0, none⟩ = some (.int .i64 code) := at_cell HP.out 0
  have p1 : wb.cell? ⟨w.heap.size, 1, none⟩ = some (.int .i64 id) := at_cell HP.out 1
  have p2 : wb.cell? ⟨w.heap.size, 2, none⟩ = some (.slice A n c) := at_cell HP.out 2
  go_wp2_with fail
  refine (eread_any code id A n c xs Hn.out hn' hnc HB.out _ (HX.out.ext (h := HW.out))).mono ?_
  rintro e w1 ⟨A1, k1, rfl, ho1, hb1⟩
  rw [HRD.out] at ho1 ⊢
  simp only at ho1 ⊢
  obtain ⟨tb, htb⟩ : ∃ tb, strOfNums ms = tb := ⟨_, rfl⟩
  have HTB := Lib.hid htb
  rw [htb]
  have X1 : Hid (Ext wb w1) := ⟨hb1⟩
  have HO1 := Lib.hid ho1
  have pp : ∀ o, (w1.alloc o).heap[w1.heap.size]? = some o := at_new w1
  clear ho1 hb1 p0 p1 p2 htb
  go_upto_region 4 with
    (refine wpList_store_row_o rfl 52 (.tmp 9) (.tmp 17) rfl w1.heap.size #[.int .i64 2, .int .i64 mi, .int .i64 mt, .slice A1 mv.length k1, .string tb] rfl rfl 52 zMs (pp _) (by kernel_rfl) rfl (by simp [Value.oneCell']) ?_
     intro w2 hr2 ho2 hz2 hb2
     have HM2 := Lib.hid hr2
     have X12 : Hid (Ext w1 w2) := ⟨hb2 _ _ (inferInstance : Ext w1 (w1.alloc _)).out (Nat.le_refl _)⟩
     clear hr2 ho2 hz2 hb2 pp)
  have X2 : Hid (Ext w w2) := Ext.trans_ HW.out (Ext.trans_ X1.out X12.out)
  have HZ2 : Hid (w2.heap[w.heap.size + 1]? = some zPk) := at_ext (h := Ext.trans_ X1.out X12.out) HZ.out
  have HE2 := Lib.hid (HE.out.ext (h := X2.out))
  have HO2 := Lib.hid (own_ext (h := X12.out) HO1.out)
  have HF1 : Hid (takeR nm us s code id xs v = takeM nm us s ⟨2, mi, mt, mv, ms⟩ v) := HF0.out.trans (if_neg (by simp))
  clear HF0
  have m0 : w2.cell? ⟨w1.heap.size, 0, none⟩ = some (.int .i64 2) := at_cell HM2.out 0
  have m1 : w2.cell? ⟨w1.heap.size, 1, none⟩ = some (.int .i64 mi) := at_cell HM2.out 1
  have m2 : w2.cell? ⟨w1.heap.size, 2, none⟩ = some (.int .i64 mt) := at_cell HM2.out 2
  have m4 : w2.cell? ⟨w1.heap.size, 4, none⟩ = some (.string tb) := at_cell HM2.out 4
  have HST := Lib.hid hst
  have s4 : w2.cell? ⟨B, 4, none⟩ = some (.int .i64 1) := (at_cell HE2.out.b 4).trans (congrArg (fun x => some (Value.int .i64 x)) HST.out)
  clear hst
  have HF : Hid (takeR nm us s code id xs v = badR s 1) := HF1.out.trans (by unfold takeM; rw [if_neg (by simp), if_neg (by simp only [HST.out]; omega), if_pos z3])
  have z3b : (mi != s.id) = true := by simpa using z3
  clear z3
  have s5 : w2.cell? ⟨B, 5, none⟩ = some (.int .i64 s.id) := at_cell HE2.out.b 5
  go_upto_region 10 with fail
  refine wp_region_held_drew (S := Ext w2) (by kernel_rfl) (by exact inferInstance) (fun hHeld => ?_)
  refine wpAnyH_take (i := 0) (v := ?_) rfl (by kernel_rfl) (by kernel_rfl) (by kernel_rfl) (fun _ _ _ h => h) (Yields.yieldsIf (Or.inl ⟨by rfl, ?_⟩)) hHeld ?_
  rotate_left
  · intro W
    go_simp
    try with_reducible rfl
  simp only [List.getElem_toArray, List.getElem_cons_succ, List.getElem_cons_zero, Act.put, List.setIfInBounds_toArray, List.set_cons_zero, List.set_cons_succ]
  refine wpAnyH_take (i := 1) (v := ?_) rfl (by kernel_rfl) (by kernel_rfl) (by kernel_rfl) (fun _ _ _ h => h) (Or.inl ⟨by rfl, ?_⟩) hHeld ?_
  rotate_left
  · intro W hW
    have hcl := (cell_ext (h := hW) m1)
    go_simp
    try with_reducible rfl
  simp only [List.getElem_toArray, List.getElem_cons_succ, List.getElem_cons_zero, Act.put, List.setIfInBounds_toArray, List.set_cons_zero, List.set_cons_succ]
  refine wpAnyH_take (i := 2) (v := ?_) rfl (by kernel_rfl) (by kernel_rfl) (by kernel_rfl) (fun _ _ _ h => h) (Yields.yieldsIf (Or.inl ⟨by rfl, ?_⟩)) hHeld ?_
  rotate_left
  · intro W
    go_simp
    try with_reducible rfl
  simp only [List.getElem_toArray, List.getElem_cons_succ, List.getElem_cons_zero, Act.put, List.setIfInBounds_toArray, List.set_cons_zero, List.set_cons_succ]
  refine wpAnyH_take (i := 3) (v := ?_) rfl (by kernel_rfl) (by kernel_rfl) (by kernel_rfl) (fun _ _ _ h => h) (Yields.yieldsIf (Or.inl ⟨by rfl, ?_⟩)) hHeld ?_
  rotate_left
  · intro W
    go_simp
    try with_reducible rfl
  simp only [List.getElem_toArray, List.getElem_cons_succ, List.getElem_cons_zero, Act.put, List.setIfInBounds_toArray, List.set_cons_zero, List.set_cons_succ]
  refine wpAnyH_take (i := 4) (v := ?_) rfl (by kernel_rfl) (by kernel_rfl) (by kernel_rfl) (fun _ _ _ h => h) (Yields.yieldsIf (Or.inl ⟨by rfl, ?_⟩)) hHeld ?_
  rotate_left
  · intro W
    go_simp
    try with_reducible rfl
  simp only [List.getElem_toArray, List.getElem_cons_succ, List.getElem_cons_zero, Act.put, List.setIfInBounds_toArray, List.set_cons_zero, List.set_cons_succ]
  refine wpAnyH_take (i := 5) (v := ?_) rfl (by kernel_rfl) (by kernel_rfl) (by kernel_rfl) (fun _ _ _ h => h) (Or.inl ⟨by rfl, ?_⟩) hHeld ?_
  rotate_left
  · intro W hW
    have hcl := (cell_ext (h := hW) s5)
    go_simp
    try with_reducible rfl
  simp only [List.getElem_toArray, List.getElem_cons_succ, List.getElem_cons_zero, Act.put, List.setIfInBounds_toArray, List.set_cons_zero, List.set_cons_succ]
  refine wpAnyH_take (i := 6) (v := ?_) rfl (by kernel_rfl) (by kernel_rfl) (by kernel_rfl) (fun _ _ _ h => h) (Yields.yieldsIf (Or.inl ⟨by rfl, ?_⟩)) hHeld ?_
  rotate_left
  · intro W
    go_simp
    try with_reducible rfl
  simp only [List.getElem_toArray, List.getElem_cons_succ, List.getElem_cons_zero, Act.put, List.setIfInBounds_toArray, List.set_cons_zero, List.set_cons_succ]
  refine wpAnyH_take (i := 7) (v := ?_) rfl (by kernel_rfl) (by kernel_rfl) (by kernel_rfl) (fun _ _ _ h => h) (Yields.yieldsIf (Or.inl ⟨by rfl, ?_⟩)) hHeld ?_
  rotate_left
  · intro W
    go_simp
    try with_reducible rfl
  simp only [List.getElem_toArray, List.getElem_cons_succ, List.getElem_cons_zero, Act.put, List.setIfInBounds_toArray, List.set_cons_zero, List.set_cons_succ]
  refine wpAnyH_done (by kernel_rfl) ?_ _
  clear hHeld
  obtain ⟨w3, hw3⟩ : ∃ w3, w2.drew = w3 := ⟨_, rfl⟩
  have X23 : Hid (Ext w2 w3) := by unfold Hid; rw [← hw3]; exact inferInstance
  have X3 : Hid (Ext w w3) := Ext.trans_ X2.out X23.out
  have HE3 := Lib.hid (HE2.out.ext (h := X23.out))
  have HZ3 : Hid (w3.heap[w.heap.size + 1]? = some zPk) := at_ext (h := X23.out) HZ2.out
  have HM3 := Lib.hid (at_ext (h := X23.out) HM2.out)
  have HO3 := Lib.hid (own_ext (h := X23.out) HO2.out)
  rw [hw3]
  clear hw3 m0 m1 m2 m4 s4 s5
  have m1 : w3.cell? ⟨w1.heap.size, 1, none⟩ = some (.int .i64 mi) := at_cell HM3.out 1
  have m2 : w3.cell? ⟨w1.heap.size, 2, none⟩ = some (.int .i64 mt) := at_cell HM3.out 2
  have m4 : w3.cell? ⟨w1.heap.size, 4, none⟩ = some (.string tb) := at_cell HM3.out 4
  have s4 : w3.cell? ⟨B, 4, none⟩ = some (.int .i64 1) := (at_cell HE3.out.b 4).trans (congrArg (fun x => some (Value.int .i64 x)) HST.out)
  go_wp2_with
    (refine wpList_store_row rfl 24 (.tmp 6) (.tmp 51) rfl (w.heap.size + 1) #[.int .i64 0, .int .i64 0, .slice none 0 0] rfl rfl 24 #[.int .i64 0, .int .i64 0, .slice none 0 0] HZ3.out (by kernel_rfl) rfl (by simp [Value.oneCell']) ?_)
  refine bodyPost_ret (results_cell_row3 Try.results41 _ _ (w.heap.size + 1) 24 #[.int .i64 0, .int .i64 0, .slice none 0 0] (0, 0) _ (.bool false) (.int .i64 1) rfl rfl rfl (setRow_heap _ _ _ _ _ _ HZ3.out) Try.underlying24 rfl (by kernel_rfl)) rfl ?_
  rw [HF.out]
  refine ⟨none, 0, LA, lk, rfl, own_nil _ _ _ _, HE3.out.rowY (by have := HBL.out; omega) (fun ad ha => ?_) _, (But.of (h := X3.out)).rowY (by omega) _⟩
  have := (HE.out.far ad ha).2
  omega
set_option maxRecDepth 100000 in
set_option maxHeartbeats 4000000 in
theorem take4_b42 (B T : Nat) (nm : ByteArray) (tries : Int) (s : SS) (us : List SV) (LA : Option Addr) (lk : Nat) (code id : Int) (A : Option Addr) (n c : Nat) (xs : List Int) (V : Option Addr) (vn vc : Nat) (v : List Int) (hn : xs.length = n) (hn' : n ≤ 140737488355000) (hnc : n ≤ c) (hb : Byt xs) (hv : v.length = vn) (hv' : vn ≤ 140737488355328) (hbv : Byt v) (w : World) (hx : Cells w A (nums .u8 xs)) (hxv : Cells w V (nums .u8 v)) (hfv : ∀ ad, V = some ad → ad.block ≠ B ∧ ad.block < w.heap.size) (hE : ESrv w B T nm tries s us LA lk) (mi mt : Int) (mv ms : List Int) (hrd : rdE code id xs = (⟨2, mi, mt, mv, ms⟩, 0)) (hst : s.st = 2) (z3 : mi ≠ s.id) :
        Calls Try.prog 41 #[.pointer (some ⟨B, 0, none⟩), .agg #[.int .i64 code, .int .i64 id, .slice A n c], .slice V vn vc] w (TkTells B T nm tries us (takeR nm us s code id xs v) w) := by
  have Hn := Lib.hid hn
  have HX := Lib.hid hx
  have HB := Lib.hid hb
  have Hv := Lib.hid hv
  have HXV := Lib.hid hxv
  have HFV := Lib.hid hfv
  have HBV := Lib.hid hbv
  have HE := Lib.hid hE
  have HBL : Hid (B < w.heap.size) := at_lt hE.b
  clear hE hn hx hb hv hxv hfv hbv
  have HRD := Lib.hid hrd
  have HRA := Lib.hid (rdE_all HB.out hrd)
  have HF0 : Hid (takeR nm us s code id xs v = if 0 ≠ 0 then badR s 0 else takeM nm us s ⟨2, mi, mt, mv, ms⟩ v) := by unfold Hid takeR; rw [hrd]; try rfl
  clear hrd
  go_enter Try.func41, Try.ntmps41
  go_upto_region 1 with fail
  obtain ⟨wb, hwb⟩ : ∃ wb, (w.alloc (.cells #[.int .i64 code, .int .i64 id, .slice A n c] 24)).alloc zPk = wb := ⟨_, rfl⟩
  have HP : Hid (wb.heap[w.heap.size]? = some (.cells #[.int .i64 code, .int .i64 id, .slice A n c] 24 (0, 0))) := by unfold Hid; rw [← hwb]; exact at_ext (at_new w _)
  have HZ : Hid (wb.heap[w.heap.size + 1]? = some zPk) := by unfold Hid; rw [← hwb]; exact at_new1 (by simp)
  have HW : Hid (Ext w wb) := by unfold Hid; rw [← hwb]; exact inferInstance
  rw [hwb]
  clear hwb
  have p0 : wb.cell? ⟨w.heap.size, 0, none⟩ = some (.int .i64 code) := at_cell HP.out 0
  have p1 : wb.cell? ⟨w.heap.size, 1, none⟩ = some (.int .i64 id) := at_cell HP.out 1
  have p2 : wb.cell? ⟨w.heap.size, 2, none⟩ = some (.slice A n c) := at_cell HP.out 2
  go_wp2_with fail
  refine (eread_any code id A n c xs Hn.out hn' hnc HB.out _ (HX.out.ext (h := HW.out))).mono ?_
  rintro e w1 ⟨A1, k1, rfl, ho1, hb1⟩
  rw [HRD.out] at ho1 ⊢
  simp only at ho1 ⊢
  obtain ⟨tb, htb⟩ : ∃ tb, strOfNums ms = tb := ⟨_, rfl⟩
  have HTB := Lib.hid htb
  rw [htb]
  have X1 : Hid (Ext wb w1) := ⟨hb1⟩
  have HO1 := Lib.hid ho1
  have pp : ∀ o, (w1.alloc o).heap[w1.heap.size]? = some o := at_new w1
  clear ho1 hb1 p0 p1 p2 htb
  go_upto_region 4 with
    (refine wpList_store_row_o rfl 52 (.tmp 9) (.tmp 17) rfl w1.heap.size #[.int .i64 2, .int .i64 mi, .int .i64 mt, .slice A1 mv.length k1, .string tb] rfl rfl 52 zMs (pp _) (by kernel_rfl) rfl (by simp [Value.oneCell']) ?_
     intro w2 hr2 ho2 hz2 hb2
     have HM2 := Lib.hid hr2
     have X12 : Hid (Ext w1 w2) := ⟨hb2 _ _ (inferInstance : Ext w1 (w1.alloc _)).out (Nat.le_refl _)⟩
     clear hr2 ho2 hz2 hb2 pp)
  have X2 : Hid (Ext w w2) := Ext.trans_ HW.out (Ext.trans_ X1.out X12.out)
  have HZ2 : Hid (w2.heap[w.heap.size + 1]? = some zPk) := at_ext (h := Ext.trans_ X1.out X12.out) HZ.out
  have HE2 := Lib.hid (HE.out.ext (h := X2.out))
  have HO2 := Lib.hid (own_ext (h := X12.out) HO1.out)
  have HF1 : Hid (takeR nm us s code id xs v = takeM nm us s ⟨2, mi, mt, mv, ms⟩ v) := HF0.out.trans (if_neg (by simp))
  clear HF0
  have m0 : w2.cell? ⟨w1.heap.size, 0, none⟩ = some (.int .i64 2) := at_cell HM2.out 0
  have m1 : w2.cell? ⟨w1.heap.size, 1, none⟩ = some (.int .i64 mi) := at_cell HM2.out 1
  have m2 : w2.cell? ⟨w1.heap.size, 2, none⟩ = some (.int .i64 mt) := at_cell HM2.out 2
  have m4 : w2.cell? ⟨w1.heap.size, 4, none⟩ = some (.string tb) := at_cell HM2.out 4
  have HST := Lib.hid hst
  have s4 : w2.cell? ⟨B, 4, none⟩ = some (.int .i64 2) := (at_cell HE2.out.b 4).trans (congrArg (fun x => some (Value.int .i64 x)) HST.out)
  clear hst
  have HF : Hid (takeR nm us s code id xs v = badR s 1) := HF1.out.trans (by unfold takeM; rw [if_neg (by simp), if_neg (by simp only [HST.out]; omega), if_pos z3])
  have z3b : (mi != s.id) = true := by simpa using z3
  clear z3
  have s5 : w2.cell? ⟨B, 5, none⟩ = some (.int .i64 s.id) := at_cell HE2.out.b 5
  go_upto_region 10 with fail
  refine wp_region_held_drew (S := Ext w2) (by kernel_rfl) (by exact inferInstance) (fun hHeld => ?_)
  refine wpAnyH_take (i := 0) (v := ?_) rfl (by kernel_rfl) (by kernel_rfl) (by kernel_rfl) (fun _ _ _ h => h) (Yields.yieldsIf (Or.inl ⟨by rfl, ?_⟩)) hHeld ?_
  rotate_left
  · intro W
    go_simp
    try with_reducible rfl
  simp only [List.getElem_toArray, List.getElem_cons_succ, List.getElem_cons_zero, Act.put, List.setIfInBounds_toArray, List.set_cons_zero, List.set_cons_succ]
  refine wpAnyH_take (i := 1) (v := ?_) rfl (by kernel_rfl) (by kernel_rfl) (by kernel_rfl) (fun _ _ _ h => h) (Or.inl ⟨by rfl, ?_⟩) hHeld ?_
  rotate_left
  · intro W hW
    have hcl := (cell_ext (h := hW) m1)
    go_simp
    try with_reducible rfl
  simp only [List.getElem_toArray, List.getElem_cons_succ, List.getElem_cons_zero, Act.put, List.setIfInBounds_toArray, List.set_cons_zero, List.set_cons_succ]
  refine wpAnyH_take (i := 2) (v := ?_) rfl (by kernel_rfl) (by kernel_rfl) (by kernel_rfl) (fun _ _ _ h => h) (Yields.yieldsIf (Or.inl ⟨by rfl, ?_⟩)) hHeld ?_
  rotate_left
  · intro W
    go_simp
    try with_reducible rfl
  simp only [List.getElem_toArray, List.getElem_cons_succ, List.getElem_cons_zero, Act.put, List.setIfInBounds_toArray, List.set_cons_zero, List.set_cons_succ]
  refine wpAnyH_take (i := 3) (v := ?_) rfl (by kernel_rfl) (by kernel_rfl) (by kernel_rfl) (fun _ _ _ h => h) (Yields.yieldsIf (Or.inl ⟨by rfl, ?_⟩)) hHeld ?_
  rotate_left
  · intro W
    go_simp
    try with_reducible rfl
  simp only [List.getElem_toArray, List.getElem_cons_succ, List.getElem_cons_zero, Act.put, List.setIfInBounds_toArray, List.set_cons_zero, List.set_cons_succ]
  refine wpAnyH_take (i := 4) (v := ?_) rfl (by kernel_rfl) (by kernel_rfl) (by kernel_rfl) (fun _ _ _ h => h) (Yields.yieldsIf (Or.inl ⟨by rfl, ?_⟩)) hHeld ?_
  rotate_left
  · intro W
    go_simp
    try with_reducible rfl
  simp only [List.getElem_toArray, List.getElem_cons_succ, List.getElem_cons_zero, Act.put, List.setIfInBounds_toArray, List.set_cons_zero, List.set_cons_succ]
  refine wpAnyH_take (i := 5) (v := ?_) rfl (by kernel_rfl) (by kernel_rfl) (by kernel_rfl) (fun _ _ _ h => h) (Or.inl ⟨by rfl, ?_⟩) hHeld ?_
  rotate_left
  · intro W hW
    have hcl := (cell_ext (h := hW) s5)
    go_simp
    try with_reducible rfl
  simp only [List.getElem_toArray, List.getElem_cons_succ, List.getElem_cons_zero, Act.put, List.setIfInBounds_toArray, List.set_cons_zero, List.set_cons_succ]
  refine wpAnyH_take (i := 6) (v := ?_) rfl (by kernel_rfl) (by kernel_rfl) (by kernel_rfl) (fun _ _ _ h => h) (Yields.yieldsIf (Or.inl ⟨by rfl, ?_⟩)) hHeld ?_
  rotate_left
  · intro W
    go_simp
    try with_reducible rfl
  simp only [List.getElem_toArray, List.getElem_cons_succ, List.getElem_cons_zero, Act.put, List.setIfInBounds_toArray, List.set_cons_zero, List.set_cons_succ]
  refine wpAnyH_take (i := 7) (v := ?_) rfl (by kernel_rfl) (by kernel_rfl) (by kernel_rfl) (fun _ _ _ h => h) (Yields.yieldsIf (Or.inl ⟨by rfl, ?_⟩)) hHeld ?_
  rotate_left
  · intro W
    go_simp
    try with_reducible rfl
  simp only [List.getElem_toArray, List.getElem_cons_succ, List.getElem_cons_zero, Act.put, List.setIfInBounds_toArray, List.set_cons_zero, List.set_cons_succ]
  refine wpAnyH_done (by kernel_rfl) ?_ _
  clear hHeld
  obtain ⟨w3, hw3⟩ : ∃ w3, w2.drew = w3 := ⟨_, rfl⟩
  have X23 : Hid (Ext w2 w3) := by unfold Hid; rw [← hw3]; exact inferInstance
  have X3 : Hid (Ext w w3) := Ext.trans_ X2.out X23.out
  have HE3 := Lib.hid (HE2.out.ext (h := X23.out))
  have HZ3 : Hid (w3.heap[w.heap.size + 1]? = some zPk) := at_ext (h := X23.out) HZ2.out
  have HM3 := Lib.hid (at_ext (h := X23.out) HM2.out)
  have HO3 := Lib.hid (own_ext (h := X23.out) HO2.out)
  rw [hw3]
  clear hw3 m0 m1 m2 m4 s4 s5
  have m1 : w3.cell? ⟨w1.heap.size, 1, none⟩ = some (.int .i64 mi) := at_cell HM3.out 1
  have m2 : w3.cell? ⟨w1.heap.size, 2, none⟩ = some (.int .i64 mt) := at_cell HM3.out 2
  have m4 : w3.cell? ⟨w1.heap.size, 4, none⟩ = some (.string tb) := at_cell HM3.out 4
  have s4 : w3.cell? ⟨B, 4, none⟩ = some (.int .i64 2) := (at_cell HE3.out.b 4).trans (congrArg (fun x => some (Value.int .i64 x)) HST.out)
  go_wp2_with
    (refine wpList_store_row rfl 24 (.tmp 6) (.tmp 51) rfl (w.heap.size + 1) #[.int .i64 0, .int .i64 0, .slice none 0 0] rfl rfl 24 #[.int .i64 0, .int .i64 0, .slice none 0 0] HZ3.out (by kernel_rfl) rfl (by simp [Value.oneCell']) ?_)
  refine bodyPost_ret (results_cell_row3 Try.results41 _ _ (w.heap.size + 1) 24 #[.int .i64 0, .int .i64 0, .slice none 0 0] (0, 0) _ (.bool false) (.int .i64 1) rfl rfl rfl (setRow_heap _ _ _ _ _ _ HZ3.out) Try.underlying24 rfl (by kernel_rfl)) rfl ?_
  rw [HF.out]
  refine ⟨none, 0, LA, lk, rfl, own_nil _ _ _ _, HE3.out.rowY (by have := HBL.out; omega) (fun ad ha => ?_) _, (But.of (h := X3.out)).rowY (by omega) _⟩
  have := (HE.out.far ad ha).2
  omega
end Go.Proofs.Ytobddmpiljknpaa
