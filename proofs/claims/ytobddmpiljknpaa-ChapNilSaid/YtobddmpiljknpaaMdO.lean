/-
  md5: a stream that has taken so many bytes: Write and Sum over all of them. Conditions: the lists are no longer than the model's memory.
-/
import Derived.Test.YtobddmpiljknpaaMdJ
namespace Go.Proofs.Ytobddmpiljknpaa
open Go.RowKit
set_option linter.unusedVariables false
set_option linter.unusedSimpArgs false

theorem mdPast_len (s : W4) (L : List Int) (j : Nat) : (mdPast s L j).length = j := by simp [mdPast]
theorem mdPast_append (s : W4) (A B : List Int) (j : Nat) (hj : 64 * j ≤ A.length) : mdPast s (A ++ B) j = mdPast s A j := by
  unfold mdPast
  refine List.map_congr_left fun i hi => ?_
  rw [List.mem_range] at hi
  exact mdN_append s A B (i + 1) (by omega)
theorem mdPast_split (s : W4) (L : List Int) (i : Nat) : ∀ j, mdPast s L (i + j) = mdPast s L i ++ mdPast (mdN s L i) (L.drop (64 * i)) j
  | 0 => by simp [mdPast]
  | j + 1 => by
    rw [← Nat.add_assoc, mdPast_succ, mdPast_succ, mdPast_split s L i j, List.append_assoc, Nat.add_assoc, mdN_split s L i (j + 1)]
/-- A stream that has taken ys. -/
def StreamOf (w : World) (base g : Nat) (ys : List Int) (pv lv : Value) : Prop :=
  StreamAt w base g (mdN beginW ys (ys.length / 64)) (mdPast beginW ys (ys.length / 64)) (ys.drop (64 * (ys.length / 64))) ys.length pv lv
theorem StreamOf.ext {w w' : World} {base g : Nat} {ys : List Int} {pv lv : Value} [h : Ext w w'] (k : StreamOf w base g ys pv lv) : StreamOf w' base g ys pv lv := StreamAt.ext k
theorem StreamOf.new {w : World} {base g : Nat} (h : StreamAt w base g beginW [] [] 0 (.slice none 0 0) (.slice none 0 0)) : StreamOf w base g [] (.slice none 0 0) (.slice none 0 0) := h
def WroteAll (g base : Nat) (zs : List Int) (S : Nat → Prop) (w : World) (e : Ending) (w' : World) : Prop :=
  ∃ pv lv, e = .returned (.int .i64 0) ∧ StreamOf w' base g zs pv lv ∧ Only S w w' ∧ ∀ k, StreamS g pv lv k → S k ∨ w.heap.size ≤ k
theorem writeAll4_any (g base : Nat) (ys zs : List Int) (pv lv : Value) (A : Option Addr) (m c : Nat) (w : World) (hm : zs.length = m) (hby : Byt ys) (hbz : Byt zs) (hA : 0 < m → ∀ ad, A = some ad → ad.block ≠ g)
    (hlen : ys.length + m ≤ 140737488355328) (hs : StreamOf w base g ys pv lv) (hbw : base ≤ w.heap.size) (hz : Cells w A (nums .u8 zs)) :
    Calls Try.prog 85 #[.pointer (some ⟨g, 0, none⟩), .slice A m c] w (WroteAll g base (ys ++ zs) (StreamS g pv lv) w) := by
  have hq : 64 * (ys.length / 64) ≤ ys.length := by omega
  have hdl : (ys.drop (64 * (ys.length / 64))).length = ys.length - 64 * (ys.length / 64) := List.length_drop
  have hd : (ys ++ zs).drop (64 * (ys.length / 64)) = ys.drop (64 * (ys.length / 64)) ++ zs := List.drop_append_of_le_length hq
  refine (write4_any g base (mdN beginW ys (ys.length / 64)) (mdPast beginW ys (ys.length / 64)) (ys.drop (64 * (ys.length / 64))) zs ys.length pv lv A m c w hm (hby.drop _) hbz hA (by omega) (by omega) (by omega) (by rw [mdPast_len]; omega) hs hbw hz).mono ?_
  rintro e w' ⟨pv', lv', rfl, hst, hon, hos⟩
  refine ⟨pv', lv', rfl, ?_, hon, hos⟩
  have hl : (ys ++ zs).length / 64 = ys.length / 64 + (ys.drop (64 * (ys.length / 64)) ++ zs).length / 64 := by
    rw [List.length_append, List.length_append, hdl]
    omega
  have h1 : mdN beginW (ys ++ zs) ((ys ++ zs).length / 64) = mdN (mdN beginW ys (ys.length / 64)) (ys.drop (64 * (ys.length / 64)) ++ zs) ((ys.drop (64 * (ys.length / 64)) ++ zs).length / 64) := by
    rw [hl, mdN_split, hd, mdN_append _ _ _ _ hq]
  have h2 : mdPast beginW (ys ++ zs) ((ys ++ zs).length / 64) = mdPast beginW ys (ys.length / 64) ++ mdPast (mdN beginW ys (ys.length / 64)) (ys.drop (64 * (ys.length / 64)) ++ zs) ((ys.drop (64 * (ys.length / 64)) ++ zs).length / 64) := by
    rw [hl, mdPast_split, hd, mdN_append _ _ _ _ hq, mdPast_append _ _ _ _ hq]
  have h3 : (ys ++ zs).drop (64 * ((ys ++ zs).length / 64)) = (ys.drop (64 * (ys.length / 64)) ++ zs).drop (64 * ((ys.drop (64 * (ys.length / 64)) ++ zs).length / 64)) := by
    rw [← hd, List.drop_drop, hl]
    congr 1
    rw [hd]
    omega
  have h4 : ((ys ++ zs).length : Int) = (ys.length : Int) + (m : Int) := by rw [List.length_append, hm]; omega
  unfold StreamOf
  rw [h1, h2, h3, h4]
  exact hst
theorem sumAll4_any (g base : Nat) (ys : List Int) (pv lv : Value) (w : World) (hby : Byt ys) (hlen : ys.length ≤ 140737488355328) (hs : StreamOf w base g ys pv lv) :
    Calls Try.prog 86 #[.pointer (some ⟨g, 0, none⟩)] w fun e w' => e = .returned (.agg (nums .u8 (digest ys)).toArray) ∧ Below w.heap.size w w' :=
  ssum4_any g base _ _ _ _ pv lv w (hby.drop _) (by omega) (by omega) (by rw [List.length_drop]; omega) hs (fun L j => wok_run (wok_run wok_begin _ _) _ _)
end Go.Proofs.Ytobddmpiljknpaa
