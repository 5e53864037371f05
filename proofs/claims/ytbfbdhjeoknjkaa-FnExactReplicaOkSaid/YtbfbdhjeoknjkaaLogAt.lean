/-
  LogEnd, LogAt, the program's and the reference's, walked.
-/
import Derived.Test.YtbfbdhjeoknjkaaLogOk
import Derived.Test.YtbfbdhjeoknjkaaBox
import Derived.Test.YtbfbdhjeoknjkaaKeys
import Derived.Deep.RegionWith
namespace Go.Proofs.Ytbfbdhjeoknjkaa
open Go.RowKit

def logEnd (l : LogD) : Int := if logOk l then l.base + l.entries.length else -1
def logAt (l : LogD) (n : Int) : EntryD × Bool := if logOk l && inB n (l.base + 1) (l.base + l.entries.length) then (l.entries.getD (n - l.base - 1).toNat ⟨0, 0, ⟨0, 0, 0⟩⟩, true) else (⟨0, 0, ⟨0, 0, 0⟩⟩, false)
theorem logEnd_ok {l : LogD} (h : logOk l = true) : logEnd l = l.base + l.entries.length := if_pos h
theorem logEnd_no {l : LogD} (h : logOk l = false) : logEnd l = -1 := by simp [logEnd, h]
theorem logAt_no {l : LogD} {n : Int} (h : logOk l = false) : logAt l n = (⟨0, 0, ⟨0, 0, 0⟩⟩, false) := by simp [logAt, h]
theorem logAt_out {l : LogD} {n : Int} (h : inB n (l.base + 1) (l.base + l.entries.length) = false) : logAt l n = (⟨0, 0, ⟨0, 0, 0⟩⟩, false) := by simp [logAt, h]
theorem logAt_in {l : LogD} {k : Nat} {x : EntryD} (h : logOk l = true) (hx : l.entries[k]? = some x) : logAt l (l.base + 1 + k) = (x, true) := by
  have hk := (List.getElem?_eq_some_iff.1 hx).1
  have hin : inB (l.base + 1 + k) (l.base + 1) (l.base + l.entries.length) = true := by simp [inB]; omega
  unfold logAt
  rw [h, hin, if_pos (by rfl), show (l.base + 1 + (k : Int) - l.base - 1).toNat = k by omega, List.getD_eq_getElem?_getD, hx]
  rfl

theorem end_any (b : Int) (u s : Value) (A : Option Addr) (n c : Nat) (w : World) (h1 : 0 ≤ b ∧ b ≤ 1000000000) (h2 : n ≤ 60) :
    Calls Try.prog 118 #[.agg #[.int .i64 b, u, s, .slice A n c]] w fun e w' => e = .returned (.int .i64 (b + n)) ∧ Ext w w' := by
  go_enter Try.func118, Try.ntmps118
  go_wp2
  go_ret
  exact ⟨rfl, by repeat' (first | with_reducible exact Ext.refl _ | with_reducible assumption | with_reducible refine Ext.set ?_ ?_ _ _ | with_reducible refine Ext.alloc ?_ _ | with_reducible refine Ext.drew ?_ | with_reducible refine Ext.drewN ?_ _ | with_reducible refine Ext.trans ?_ (by with_reducible assumption) | omega | (simp; done) | (simp; omega))⟩


set_option maxRecDepth 100000 in
set_option maxHeartbeats 2000000 in
theorem logEnd_s (v : Value) (l : LogD) (w : World) (B : Nat) (hr : R_Log w B v l) (hB : B ≤ w.heap.size) :
    Calls Try.prog 116 #[v] w fun e w' => e = .returned (.int .i64 (logEnd l)) ∧ Ext w w' := by
  have hr0 := hr
  obtain ⟨u, s, t, rfl, hu, hs, ht⟩ := hr
  obtain ⟨A0, n0, c0, hv0, -⟩ := id hu
  obtain ⟨A1, n1, c1, hv1, -⟩ := id hs
  obtain ⟨A2, n2, c2, hv2, hl2, -, -, hrd⟩ := ht
  subst hv0 hv1 hv2
  have Hl2 := Lib.hid hl2
  clear hl2 hu hs
  cases hok : logOk l with
  | false =>
    have hf := Lib.hid (logEnd_no hok)
    go_enter Try.func116, Try.ntmps116
    go_wp2_with fail
    refine (logOk_s _ l _ B (by exact hr0.keep (keepE' (by repeat' (first | with_reducible exact Ext.refl _ | with_reducible assumption | with_reducible refine Ext.set ?_ ?_ _ _ | with_reducible refine Ext.alloc ?_ _ | with_reducible refine Ext.drew ?_ | with_reducible refine Ext.drewN ?_ _ | with_reducible refine Ext.trans ?_ (by with_reducible assumption) | omega | (simp; done) | (simp; omega))) hB)) (by first | omega | (simp; omega))).mono ?_
    rw [hok]
    rintro e w1 ⟨rfl, hE1⟩
    clear hok
    go_wp2
    go_ret
    exact ⟨ret_int hf.out.symm, by repeat' (first | with_reducible exact Ext.refl _ | with_reducible assumption | with_reducible refine Ext.set ?_ ?_ _ _ | with_reducible refine Ext.alloc ?_ _ | with_reducible refine Ext.drew ?_ | with_reducible refine Ext.drewN ?_ _ | with_reducible refine Ext.trans ?_ (by with_reducible assumption) | omega | (simp; done) | (simp; omega))⟩
  | true =>
    have hf : Hid (logEnd l = l.base + n2) := by show _ = _; rw [logEnd_ok hok, Hl2.out]
    have hg := logOk_iff.1 hok
    have h1 := hg.base
    have h2 := hg.many
    have h3 := hg.last
    rw [Hl2.out] at h2 h3
    go_enter Try.func116, Try.ntmps116
    go_wp2_with fail
    refine (logOk_s _ l _ B (by exact hr0.keep (keepE' (by repeat' (first | with_reducible exact Ext.refl _ | with_reducible assumption | with_reducible refine Ext.set ?_ ?_ _ _ | with_reducible refine Ext.alloc ?_ _ | with_reducible refine Ext.drew ?_ | with_reducible refine Ext.drewN ?_ _ | with_reducible refine Ext.trans ?_ (by with_reducible assumption) | omega | (simp; done) | (simp; omega))) hB)) (by first | omega | (simp; omega))).mono ?_
    rw [hok]
    rintro e w1 ⟨rfl, hE1⟩
    have q0 := hE1.cellAt (new_box w _ #[.int .i64 l.base, .slice A0 n0 c0, .slice A1 n1 c1, .slice A2 n2 c2] 42 0 (.int .i64 l.base) rfl rfl)
    have q1 := hE1.cellAt (new_box w _ #[.int .i64 l.base, .slice A0 n0 c0, .slice A1 n1 c1, .slice A2 n2 c2] 42 1 (.slice A0 n0 c0) rfl rfl)
    have q2 := hE1.cellAt (new_box w _ #[.int .i64 l.base, .slice A0 n0 c0, .slice A1 n1 c1, .slice A2 n2 c2] 42 2 (.slice A1 n1 c1) rfl rfl)
    have q3 := hE1.cellAt (new_box w _ #[.int .i64 l.base, .slice A0 n0 c0, .slice A1 n1 c1, .slice A2 n2 c2] 42 3 (.slice A2 n2 c2) rfl rfl)
    have hX1 : Ext w w1 := by repeat' (first | with_reducible exact Ext.refl _ | with_reducible assumption | with_reducible refine Ext.set ?_ ?_ _ _ | with_reducible refine Ext.alloc ?_ _ | with_reducible refine Ext.drew ?_ | with_reducible refine Ext.drewN ?_ _ | with_reducible refine Ext.trans ?_ (by with_reducible assumption) | omega | (simp; done) | (simp; omega))
    clear hok hg hE1
    go_wp2
    go_ret
    exact ⟨ret_int hf.out.symm, by repeat' (first | with_reducible exact Ext.refl _ | with_reducible assumption | with_reducible refine Ext.set ?_ ?_ _ _ | with_reducible refine Ext.alloc ?_ _ | with_reducible refine Ext.drew ?_ | with_reducible refine Ext.drewN ?_ _ | with_reducible refine Ext.trans ?_ (by with_reducible assumption) | omega | (simp; done) | (simp; omega))⟩



end Go.Proofs.Ytbfbdhjeoknjkaa
