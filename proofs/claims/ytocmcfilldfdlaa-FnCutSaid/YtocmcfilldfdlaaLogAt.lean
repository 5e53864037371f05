/-
  LogEnd, LogAt, the program's and the reference's, walked.
-/
import Derived.Test.YtocmcfilldfdlaaLogOk
import Derived.Test.YtocmcfilldfdlaaBox
import Derived.Test.YtocmcfilldfdlaaKeys
import Derived.Deep.RegionWith
namespace Go.Proofs.Ytocmcfilldfdlaa
open Go.RowKit

def logEnd (l : LogD) : Int := if logOk l then l.base + l.entries.length else -1
def logAt (l : LogD) (n : Int) : EntryD × Bool := if logOk l && inB n (l.base + 1) (l.base + l.entries.length) then (l.entries.getD (n - l.base - 1).toNat ⟨0, 0, ⟨0, 0, 0⟩⟩, true) else (⟨0, 0, ⟨0, 0, 0⟩⟩, false)
theorem logEnd_ok {l : LogD} (h : logOk l = true) : logEnd l = l.base + l.entries.length := if_pos h
theorem logEnd_no {l : LogD} (h : logOk l = false) : logEnd l = -1 := by simp [logEnd, h]
theorem logAt_no {l : LogD} {n : Int} (h : logOk l = false) : logAt l n = (⟨0, 0, ⟨0, 0, 0⟩⟩, false) := by simp [logAt, h]
theorem logAt_out {l : LogD} {n : Int} (h : inB n (l.base + 1) (l.base + l.entries.length) = false) : logAt l n = (⟨0, 0, ⟨0, 0, 0⟩⟩, false) := by simp [logAt, h]
theorem logAt_in {l : LogD} {k : Nat} {x : EntryD} (h : logOk l = true) (hx : l.entries[k]? = some x) : logAt l (l.base + 1 + k) = (x, true) := by
  have hk := (List.getElem?_eq_some_iff.1 hx).1
  have hin : inB (l.base + 1 + k) (l.base + 1) (l.base + l.entries.length) = true := by simp [inB]; omega
  unfold logAt
  rw [h, hin, if_pos (by rfl), show (l.base + 1 + (k : Int) - l.base - 1).toNat = k by omega, List.getD_eq_getElem?_getD, hx]
  rfl

theorem end_any (b : Int) (u s : Value) (A : Option Addr) (n c : Nat) (w : World) (h1 : 0 ≤ b ∧ b ≤ 1000000000) (h2 : n ≤ 60) :
    Calls Try.prog 53 #[.agg #[.int .i64 b, u, s, .slice A n c]] w fun e w' => e = .returned (.int .i64 (b + n)) ∧ Ext w w' := by
  go_enter Try.func53, Try.ntmps53
  go_wp2
  go_ret
  exact ⟨rfl, by repeat' (first | with_reducible exact Ext.refl _ | with_reducible assumption | with_reducible refine Ext.set ?_ ?_ _ _ | with_reducible refine Ext.alloc ?_ _ | with_reducible refine Ext.drew ?_ | with_reducible refine Ext.drewN ?_ _ | with_reducible refine Ext.trans ?_ (by with_reducible assumption) | omega | (simp; done) | (simp; omega))⟩

set_option maxRecDepth 100000 in
set_option maxHeartbeats 2000000 in
theorem logEnd_i (v : Value) (l : LogD) (w : World) (B : Nat) (hr : R_Log w B v l) (hB : B ≤ w.heap.size) :
    Calls Try.prog 19 #[v] w fun e w' => e = .returned (.int .i64 (logEnd l)) ∧ Ext w w' := by
  have hr0 := hr
  obtain ⟨u, s, t, rfl, hu, hs, ht⟩ := hr
  obtain ⟨A0, n0, c0, hv0, -⟩ := id hu
  obtain ⟨A1, n1, c1, hv1, -⟩ := id hs
  obtain ⟨A2, n2, c2, hv2, hl2, -, -, hrd⟩ := ht
  subst hv0 hv1 hv2
  have Hl2 := Lib.hid hl2
  clear hl2 hu hs
  cases hok : logOk l with
  | false =>
    have hf := Lib.hid (logEnd_no hok)
    go_enter Try.func19, Try.ntmps19
    go_wp2_with fail
    refine (logOk_i _ l _ B (by exact hr0.keep (keepE' (by repeat' (first | with_reducible exact Ext.refl _ | with_reducible assumption | with_reducible refine Ext.set ?_ ?_ _ _ | with_reducible refine Ext.alloc ?_ _ | with_reducible refine Ext.drew ?_ | with_reducible refine Ext.drewN ?_ _ | with_reducible refine Ext.trans ?_ (by with_reducible assumption) | omega | (simp; done) | (simp; omega))) hB)) (by first | omega | (simp; omega))).mono ?_
    rw [hok]
    rintro e w1 ⟨rfl, hE1⟩
    clear hok
    go_wp2
    go_ret
    exact ⟨ret_int hf.out.symm, by repeat' (first | with_reducible exact Ext.refl _ | with_reducible assumption | with_reducible refine Ext.set ?_ ?_ _ _ | with_reducible refine Ext.alloc ?_ _ | with_reducible refine Ext.drew ?_ | with_reducible refine Ext.drewN ?_ _ | with_reducible refine Ext.trans ?_ (by with_reducible assumption) | omega | (simp; done) | (simp; omega))⟩
  | true =>
    have hf : Hid (logEnd l = l.base + n2) := by show _ = _; rw [logEnd_ok hok, Hl2.out]
    have hg := logOk_iff.1 hok
    have h1 := hg.base
    have h2 := hg.many
    have h3 := hg.last
    rw [Hl2.out] at h2 h3
    go_enter Try.func19, Try.ntmps19
    go_wp2_with fail
    refine (logOk_i _ l _ B (by exact hr0.keep (keepE' (by repeat' (first | with_reducible exact Ext.refl _ | with_reducible assumption | with_reducible refine Ext.set ?_ ?_ _ _ | with_reducible refine Ext.alloc ?_ _ | with_reducible refine Ext.drew ?_ | with_reducible refine Ext.drewN ?_ _ | with_reducible refine Ext.trans ?_ (by with_reducible assumption) | omega | (simp; done) | (simp; omega))) hB)) (by first | omega | (simp; omega))).mono ?_
    rw [hok]
    rintro e w1 ⟨rfl, hE1⟩
    have q0 := hE1.cellAt (new_box w _ #[.int .i64 l.base, .slice A0 n0 c0, .slice A1 n1 c1, .slice A2 n2 c2] 37 0 (.int .i64 l.base) rfl rfl)
    have q1 := hE1.cellAt (new_box w _ #[.int .i64 l.base, .slice A0 n0 c0, .slice A1 n1 c1, .slice A2 n2 c2] 37 1 (.slice A0 n0 c0) rfl rfl)
    have q2 := hE1.cellAt (new_box w _ #[.int .i64 l.base, .slice A0 n0 c0, .slice A1 n1 c1, .slice A2 n2 c2] 37 2 (.slice A1 n1 c1) rfl rfl)
    have q3 := hE1.cellAt (new_box w _ #[.int .i64 l.base, .slice A0 n0 c0, .slice A1 n1 c1, .slice A2 n2 c2] 37 3 (.slice A2 n2 c2) rfl rfl)
    have hX1 : Ext w w1 := by repeat' (first | with_reducible exact Ext.refl _ | with_reducible assumption | with_reducible refine Ext.set ?_ ?_ _ _ | with_reducible refine Ext.alloc ?_ _ | with_reducible refine Ext.drew ?_ | with_reducible refine Ext.drewN ?_ _ | with_reducible refine Ext.trans ?_ (by with_reducible assumption) | omega | (simp; done) | (simp; omega))
    clear hok hg hE1
    go_wp2_with fail
    refine (end_any _ _ _ _ _ _ _ (by omega) (by omega)).mono ?_
    rintro e w2 ⟨rfl, hE2⟩
    go_wp2
    go_ret
    exact ⟨ret_int hf.out.symm, by repeat' (first | with_reducible exact Ext.refl _ | with_reducible assumption | with_reducible refine Ext.set ?_ ?_ _ _ | with_reducible refine Ext.alloc ?_ _ | with_reducible refine Ext.drew ?_ | with_reducible refine Ext.drewN ?_ _ | with_reducible refine Ext.trans ?_ (by with_reducible assumption) | omega | (simp; done) | (simp; omega))⟩

set_option maxRecDepth 100000 in
set_option maxHeartbeats 2000000 in
theorem logEnd_s (v : Value) (l : LogD) (w : World) (B : Nat) (hr : R_Log w B v l) (hB : B ≤ w.heap.size) :
    Calls Try.prog 18 #[v] w fun e w' => e = .returned (.int .i64 (logEnd l)) ∧ Ext w w' := by
  have hr0 := hr
  obtain ⟨u, s, t, rfl, hu, hs, ht⟩ := hr
  obtain ⟨A0, n0, c0, hv0, -⟩ := id hu
  obtain ⟨A1, n1, c1, hv1, -⟩ := id hs
  obtain ⟨A2, n2, c2, hv2, hl2, -, -, hrd⟩ := ht
  subst hv0 hv1 hv2
  have Hl2 := Lib.hid hl2
  clear hl2 hu hs
  cases hok : logOk l with
  | false =>
    have hf := Lib.hid (logEnd_no hok)
    go_enter Try.func18, Try.ntmps18
    go_wp2_with fail
    refine (logOk_s _ l _ B (by exact hr0.keep (keepE' (by repeat' (first | with_reducible exact Ext.refl _ | with_reducible assumption | with_reducible refine Ext.set ?_ ?_ _ _ | with_reducible refine Ext.alloc ?_ _ | with_reducible refine Ext.drew ?_ | with_reducible refine Ext.drewN ?_ _ | with_reducible refine Ext.trans ?_ (by with_reducible assumption) | omega | (simp; done) | (simp; omega))) hB)) (by first | omega | (simp; omega))).mono ?_
    rw [hok]
    rintro e w1 ⟨rfl, hE1⟩
    clear hok
    go_wp2
    go_ret
    exact ⟨ret_int hf.out.symm, by repeat' (first | with_reducible exact Ext.refl _ | with_reducible assumption | with_reducible refine Ext.set ?_ ?_ _ _ | with_reducible refine Ext.alloc ?_ _ | with_reducible refine Ext.drew ?_ | with_reducible refine Ext.drewN ?_ _ | with_reducible refine Ext.trans ?_ (by with_reducible assumption) | omega | (simp; done) | (simp; omega))⟩
  | true =>
    have hf : Hid (logEnd l = l.base + n2) := by show _ = _; rw [logEnd_ok hok, Hl2.out]
    have hg := logOk_iff.1 hok
    have h1 := hg.base
    have h2 := hg.many
    have h3 := hg.last
    rw [Hl2.out] at h2 h3
    go_enter Try.func18, Try.ntmps18
    go_wp2_with fail
    refine (logOk_s _ l _ B (by exact hr0.keep (keepE' (by repeat' (first | with_reducible exact Ext.refl _ | with_reducible assumption | with_reducible refine Ext.set ?_ ?_ _ _ | with_reducible refine Ext.alloc ?_ _ | with_reducible refine Ext.drew ?_ | with_reducible refine Ext.drewN ?_ _ | with_reducible refine Ext.trans ?_ (by with_reducible assumption) | omega | (simp; done) | (simp; omega))) hB)) (by first | omega | (simp; omega))).mono ?_
    rw [hok]
    rintro e w1 ⟨rfl, hE1⟩
    have q0 := hE1.cellAt (new_box w _ #[.int .i64 l.base, .slice A0 n0 c0, .slice A1 n1 c1, .slice A2 n2 c2] 37 0 (.int .i64 l.base) rfl rfl)
    have q1 := hE1.cellAt (new_box w _ #[.int .i64 l.base, .slice A0 n0 c0, .slice A1 n1 c1, .slice A2 n2 c2] 37 1 (.slice A0 n0 c0) rfl rfl)
    have q2 := hE1.cellAt (new_box w _ #[.int .i64 l.base, .slice A0 n0 c0, .slice A1 n1 c1, .slice A2 n2 c2] 37 2 (.slice A1 n1 c1) rfl rfl)
    have q3 := hE1.cellAt (new_box w _ #[.int .i64 l.base, .slice A0 n0 c0, .slice A1 n1 c1, .slice A2 n2 c2] 37 3 (.slice A2 n2 c2) rfl rfl)
    have hX1 : Ext w w1 := by repeat' (first | with_reducible exact Ext.refl _ | with_reducible assumption | with_reducible refine Ext.set ?_ ?_ _ _ | with_reducible refine Ext.alloc ?_ _ | with_reducible refine Ext.drew ?_ | with_reducible refine Ext.drewN ?_ _ | with_reducible refine Ext.trans ?_ (by with_reducible assumption) | omega | (simp; done) | (simp; omega))
    clear hok hg hE1
    go_wp2
    go_ret
    exact ⟨ret_int hf.out.symm, by repeat' (first | with_reducible exact Ext.refl _ | with_reducible assumption | with_reducible refine Ext.set ?_ ?_ _ _ | with_reducible refine Ext.alloc ?_ _ | with_reducible refine Ext.drew ?_ | with_reducible refine Ext.drewN ?_ _ | with_reducible refine Ext.trans ?_ (by with_reducible assumption) | omega | (simp; done) | (simp; omega))⟩

set_option maxRecDepth 100000 in
set_option maxHeartbeats 8000000 in
theorem logAt_i (v : Value) (l : LogD) (n : Int) (w : World) (B : Nat) (hr : R_Log w B v l) (hB : B ≤ w.heap.size) (hn : -9223372036854775808 ≤ n ∧ n ≤ 9223372036854775807) :
    Calls Try.prog 21 #[v, .int .i64 n] w fun e w' => e = .returned (.tuple #[.agg #[.int .i64 (logAt l n).1.client, .int .i64 (logAt l n).1.req, .int .i64 (logAt l n).1.cmd.kind, .int .i64 (logAt l n).1.cmd.key, .int .i64 (logAt l n).1.cmd.value], .bool (logAt l n).2]) ∧ Ext w w' := by
  have hr0 := hr
  obtain ⟨u, s, t, rfl, hu, hs, ht⟩ := hr
  obtain ⟨A0, n0, c0, hv0, -⟩ := id hu
  obtain ⟨A1, n1, c1, hv1, -⟩ := id hs
  obtain ⟨A2, n2, c2, hv2, hl2, -, -, hrd⟩ := ht
  subst hv0 hv1 hv2
  have Hl2 := Lib.hid hl2
  clear hl2 hu hs
  have hX0 : Ext w ((w.alloc (.cells #[.int .i64 l.base, .slice A0 n0 c0, .slice A1 n1 c1, .slice A2 n2 c2] 37)).alloc (.cells #[.int .i64 0, .int .i64 0, .int .i64 0, .int .i64 0, .int .i64 0] 46)) := by repeat' (first | with_reducible exact Ext.refl _ | with_reducible assumption | with_reducible refine Ext.set ?_ ?_ _ _ | with_reducible refine Ext.alloc ?_ _ | with_reducible refine Ext.drew ?_ | with_reducible refine Ext.drewN ?_ _ | with_reducible refine Ext.trans ?_ (by with_reducible assumption) | omega | (simp; done) | (simp; omega))
  have x00 : Bx ((w.alloc (.cells #[.int .i64 l.base, .slice A0 n0 c0, .slice A1 n1 c1, .slice A2 n2 c2] 37)).alloc (.cells #[.int .i64 0, .int .i64 0, .int .i64 0, .int .i64 0, .int .i64 0] 46)) w.heap.size 0 (.int .i64 l.base) := (Bx.new w #[.int .i64 l.base, .slice A0 n0 c0, .slice A1 n1 c1, .slice A2 n2 c2] 37 0 (.int .i64 l.base) rfl rfl).alloc _
  have x01 : Bx ((w.alloc (.cells #[.int .i64 l.base, .slice A0 n0 c0, .slice A1 n1 c1, .slice A2 n2 c2] 37)).alloc (.cells #[.int .i64 0, .int .i64 0, .int .i64 0, .int .i64 0, .int .i64 0] 46)) w.heap.size 1 (.slice A0 n0 c0) := (Bx.new w #[.int .i64 l.base, .slice A0 n0 c0, .slice A1 n1 c1, .slice A2 n2 c2] 37 1 (.slice A0 n0 c0) rfl rfl).alloc _
  have x02 : Bx ((w.alloc (.cells #[.int .i64 l.base, .slice A0 n0 c0, .slice A1 n1 c1, .slice A2 n2 c2] 37)).alloc (.cells #[.int .i64 0, .int .i64 0, .int .i64 0, .int .i64 0, .int .i64 0] 46)) w.heap.size 2 (.slice A1 n1 c1) := (Bx.new w #[.int .i64 l.base, .slice A0 n0 c0, .slice A1 n1 c1, .slice A2 n2 c2] 37 2 (.slice A1 n1 c1) rfl rfl).alloc _
  have x03 : Bx ((w.alloc (.cells #[.int .i64 l.base, .slice A0 n0 c0, .slice A1 n1 c1, .slice A2 n2 c2] 37)).alloc (.cells #[.int .i64 0, .int .i64 0, .int .i64 0, .int .i64 0, .int .i64 0] 46)) w.heap.size 3 (.slice A2 n2 c2) := (Bx.new w #[.int .i64 l.base, .slice A0 n0 c0, .slice A1 n1 c1, .slice A2 n2 c2] 37 3 (.slice A2 n2 c2) rfl rfl).alloc _
  have x10 : Bx ((w.alloc (.cells #[.int .i64 l.base, .slice A0 n0 c0, .slice A1 n1 c1, .slice A2 n2 c2] 37)).alloc (.cells #[.int .i64 0, .int .i64 0, .int .i64 0, .int .i64 0, .int .i64 0] 46)) (w.heap.size + 1) 0 (.int .i64 0) := Bx.new (w.alloc (.cells #[.int .i64 l.base, .slice A0 n0 c0, .slice A1 n1 c1, .slice A2 n2 c2] 37)) #[.int .i64 0, .int .i64 0, .int .i64 0, .int .i64 0, .int .i64 0] 46 0 (.int .i64 0) (by simp) rfl
  have x11 : Bx ((w.alloc (.cells #[.int .i64 l.base, .slice A0 n0 c0, .slice A1 n1 c1, .slice A2 n2 c2] 37)).alloc (.cells #[.int .i64 0, .int .i64 0, .int .i64 0, .int .i64 0, .int .i64 0] 46)) (w.heap.size + 1) 1 (.int .i64 0) := Bx.new (w.alloc (.cells #[.int .i64 l.base, .slice A0 n0 c0, .slice A1 n1 c1, .slice A2 n2 c2] 37)) #[.int .i64 0, .int .i64 0, .int .i64 0, .int .i64 0, .int .i64 0] 46 1 (.int .i64 0) (by simp) rfl
  have x12 : Bx ((w.alloc (.cells #[.int .i64 l.base, .slice A0 n0 c0, .slice A1 n1 c1, .slice A2 n2 c2] 37)).alloc (.cells #[.int .i64 0, .int .i64 0, .int .i64 0, .int .i64 0, .int .i64 0] 46)) (w.heap.size + 1) 2 (.int .i64 0) := Bx.new (w.alloc (.cells #[.int .i64 l.base, .slice A0 n0 c0, .slice A1 n1 c1, .slice A2 n2 c2] 37)) #[.int .i64 0, .int .i64 0, .int .i64 0, .int .i64 0, .int .i64 0] 46 2 (.int .i64 0) (by simp) rfl
  have x13 : Bx ((w.alloc (.cells #[.int .i64 l.base, .slice A0 n0 c0, .slice A1 n1 c1, .slice A2 n2 c2] 37)).alloc (.cells #[.int .i64 0, .int .i64 0, .int .i64 0, .int .i64 0, .int .i64 0] 46)) (w.heap.size + 1) 3 (.int .i64 0) := Bx.new (w.alloc (.cells #[.int .i64 l.base, .slice A0 n0 c0, .slice A1 n1 c1, .slice A2 n2 c2] 37)) #[.int .i64 0, .int .i64 0, .int .i64 0, .int .i64 0, .int .i64 0] 46 3 (.int .i64 0) (by simp) rfl
  have x14 : Bx ((w.alloc (.cells #[.int .i64 l.base, .slice A0 n0 c0, .slice A1 n1 c1, .slice A2 n2 c2] 37)).alloc (.cells #[.int .i64 0, .int .i64 0, .int .i64 0, .int .i64 0, .int .i64 0] 46)) (w.heap.size + 1) 4 (.int .i64 0) := Bx.new (w.alloc (.cells #[.int .i64 l.base, .slice A0 n0 c0, .slice A1 n1 c1, .slice A2 n2 c2] 37)) #[.int .i64 0, .int .i64 0, .int .i64 0, .int .i64 0, .int .i64 0] 46 4 (.int .i64 0) (by simp) rfl
  have zz0 : ((w.alloc (.cells #[.int .i64 l.base, .slice A0 n0 c0, .slice A1 n1 c1, .slice A2 n2 c2] 37)).alloc (.cells #[.int .i64 0, .int .i64 0, .int .i64 0, .int .i64 0, .int .i64 0] 46)).heap.size = w.heap.size + 2 := by simp
  obtain ⟨ra, hra⟩ : ∃ ra, logAt l n = ra := ⟨_, rfl⟩
  rw [hra]
  have Hra := Lib.hid hra
  clear hra
  have hno : logOk l = false → Hid (ra = (⟨0, 0, ⟨0, 0, 0⟩⟩, false)) := by intro h; show _ = _; rw [← Hra.out]; exact logAt_no h
  have hout : inB n (l.base + 1) (l.base + n2) = false → Hid (ra = (⟨0, 0, ⟨0, 0, 0⟩⟩, false)) := by intro h; show _ = _; rw [← Hra.out]; exact logAt_out (by rw [Hl2.out]; exact h)
  have Hno := Lib.hid hno
  have Hout := Lib.hid hout
  clear hno hout
  obtain ⟨ok, hok⟩ : ∃ ok, logOk l = ok := ⟨_, rfl⟩
  have Hok := Lib.hid hok
  clear hok
  go_enter Try.func21, Try.ntmps21
  go_wp2_with fail
  generalize ((w.alloc (.cells #[.int .i64 l.base, .slice A0 n0 c0, .slice A1 n1 c1, .slice A2 n2 c2] 37)).alloc (.cells #[.int .i64 0, .int .i64 0, .int .i64 0, .int .i64 0, .int .i64 0] 46)) = W0 at *
  obtain ⟨p00, f00⟩ := id x00
  obtain ⟨p01, f01⟩ := id x01
  obtain ⟨p02, f02⟩ := id x02
  obtain ⟨p03, f03⟩ := id x03
  obtain ⟨p10, f10⟩ := id x10
  obtain ⟨p11, f11⟩ := id x11
  obtain ⟨p12, f12⟩ := id x12
  obtain ⟨p13, f13⟩ := id x13
  obtain ⟨p14, f14⟩ := id x14
  cases ok with
  | false =>
    have hf := Hno.out Hok.out
    (first | (go_region_with (first
          | (go_at_call 17; refine (logOk_i _ l _ B (by exact hr0.keep (keepE' (by first | exact hX0 | exact hX0.drew | exact hX0.drewN _) hB)) (by first | omega | (simp; omega))).mono ?_; rw [Hok.out]; rintro e1 w1 ⟨rfl, hE1⟩; have hk1 : Ext W0 w1 := (by first | exact hE1 | exact ((Ext.refl _).drew).trans hE1 | exact ((Ext.refl _).drewN _).trans hE1); have hz1 := hk1.size; have hX1 := hX0.trans hk1; replace x00 := Bx.ext x00 hk1; replace x01 := Bx.ext x01 hk1; replace x02 := Bx.ext x02 hk1; replace x03 := Bx.ext x03 hk1; replace x10 := Bx.ext x10 hk1; replace x11 := Bx.ext x11 hk1; replace x12 := Bx.ext x12 hk1; replace x13 := Bx.ext x13 hk1; replace x14 := Bx.ext x14 hk1; obtain ⟨p00, f00⟩ := id x00; obtain ⟨p01, f01⟩ := id x01; obtain ⟨p02, f02⟩ := id x02; obtain ⟨p03, f03⟩ := id x03; obtain ⟨p10, f10⟩ := id x10; obtain ⟨p11, f11⟩ := id x11; obtain ⟨p12, f12⟩ := id x12; obtain ⟨p13, f13⟩ := id x13; obtain ⟨p14, f14⟩ := id x14))) | fail)
    all_goals go_wp2
    all_goals rw [hf.out]
    all_goals
      exact bodyPost_ret (v := .tuple #[.agg #[.int .i64 0, .int .i64 0, .int .i64 0, .int .i64 0, .int .i64 0], .bool false]) (by simp [results, Try.results21, go_sem, p10, p11, p12, p13, p14]) rfl ⟨rfl, by repeat' (first | with_reducible exact Ext.refl _ | with_reducible assumption | with_reducible refine Ext.set ?_ ?_ _ _ | with_reducible refine Ext.alloc ?_ _ | with_reducible refine Ext.drew ?_ | with_reducible refine Ext.drewN ?_ _ | with_reducible refine Ext.trans ?_ (by with_reducible assumption) | omega | (simp; done) | (simp; omega))⟩
  | true =>
    have hg := logOk_iff.1 Hok.out
    have h1 := hg.base
    have h2 := hg.many
    have h3 := hg.last
    rw [Hl2.out] at h2 h3
    clear hg
    have hw1 : IntKind.i64.wrap (l.base + 1) = l.base + 1 := IntWalk.i64_in _ (by omega)
    obtain ⟨ib, hib⟩ : ∃ ib, inB n (l.base + 1) (l.base + n2) = ib := ⟨_, rfl⟩
    cases ib with
    | false =>
      have hf := Hout.out hib
      (first | (go_region_with (first
          | (go_at_call 54; refine (from_any _ _ _ _).mono ?_; rw [hib]; rintro e3 w3 ⟨rfl, rfl⟩)
          | (go_at_call 53; refine (end_any _ _ _ _ _ _ _ (by omega) (by omega)).mono ?_; rintro e2 w2 ⟨rfl, hE2⟩; have hk2 : Ext w1 w2 := (by first | exact hE2 | exact ((Ext.refl _).drew).trans hE2 | exact ((Ext.refl _).drewN _).trans hE2); have hz2 := hk2.size; have hX2 := hX1.trans hk2; clear p00 f00 p01 f01 p02 f02 p03 f03 p10 f10 p11 f11 p12 f12 p13 f13 p14 f14; replace x00 := Bx.ext x00 hk2; replace x01 := Bx.ext x01 hk2; replace x02 := Bx.ext x02 hk2; replace x03 := Bx.ext x03 hk2; replace x10 := Bx.ext x10 hk2; replace x11 := Bx.ext x11 hk2; replace x12 := Bx.ext x12 hk2; replace x13 := Bx.ext x13 hk2; replace x14 := Bx.ext x14 hk2; obtain ⟨p00, f00⟩ := id x00; obtain ⟨p01, f01⟩ := id x01; obtain ⟨p02, f02⟩ := id x02; obtain ⟨p03, f03⟩ := id x03; obtain ⟨p10, f10⟩ := id x10; obtain ⟨p11, f11⟩ := id x11; obtain ⟨p12, f12⟩ := id x12; obtain ⟨p13, f13⟩ := id x13; obtain ⟨p14, f14⟩ := id x14)
          | (go_at_call 17; refine (logOk_i _ l _ B (by exact hr0.keep (keepE' (by first | exact hX0 | exact hX0.drew | exact hX0.drewN _) hB)) (by first | omega | (simp; omega))).mono ?_; rw [Hok.out]; rintro e1 w1 ⟨rfl, hE1⟩; have hk1 : Ext W0 w1 := (by first | exact hE1 | exact ((Ext.refl _).drew).trans hE1 | exact ((Ext.refl _).drewN _).trans hE1); have hz1 := hk1.size; have hX1 := hX0.trans hk1; replace x00 := Bx.ext x00 hk1; replace x01 := Bx.ext x01 hk1; replace x02 := Bx.ext x02 hk1; replace x03 := Bx.ext x03 hk1; replace x10 := Bx.ext x10 hk1; replace x11 := Bx.ext x11 hk1; replace x12 := Bx.ext x12 hk1; replace x13 := Bx.ext x13 hk1; replace x14 := Bx.ext x14 hk1; obtain ⟨p00, f00⟩ := id x00; obtain ⟨p01, f01⟩ := id x01; obtain ⟨p02, f02⟩ := id x02; obtain ⟨p03, f03⟩ := id x03; obtain ⟨p10, f10⟩ := id x10; obtain ⟨p11, f11⟩ := id x11; obtain ⟨p12, f12⟩ := id x12; obtain ⟨p13, f13⟩ := id x13; obtain ⟨p14, f14⟩ := id x14))) | fail)
      all_goals go_wp2
      all_goals rw [hf.out]
      all_goals
        exact bodyPost_ret (v := .tuple #[.agg #[.int .i64 0, .int .i64 0, .int .i64 0, .int .i64 0, .int .i64 0], .bool false]) (by simp [results, Try.results21, go_sem, p10, p11, p12, p13, p14]) rfl ⟨rfl, by repeat' (first | with_reducible exact Ext.refl _ | with_reducible assumption | with_reducible refine Ext.set ?_ ?_ _ _ | with_reducible refine Ext.alloc ?_ _ | with_reducible refine Ext.drew ?_ | with_reducible refine Ext.drewN ?_ _ | with_reducible refine Ext.trans ?_ (by with_reducible assumption) | omega | (simp; done) | (simp; omega))⟩
    | true =>
      have hb : l.base + 1 ≤ n ∧ n ≤ l.base + n2 := by simpa [inB] using hib
      obtain ⟨k, hk⟩ : ∃ k : Nat, n = l.base + 1 + k := ⟨(n - l.base - 1).toNat, by omega⟩
      subst hk
      have hkn : k < n2 := by omega
      obtain ⟨b, off, x, rfl, hb2, hx1, hc0, hc1, hc2, hc3, hc4⟩ := (hX0.rd hrd hB).Entry Hl2.out hkn
      have hf : Hid (ra = (x, true)) := by show _ = _; rw [← Hra.out]; exact logAt_in Hok.out hx1
      have hke : l.base + 1 + (k : Int) - l.base - 1 = k := by omega
      clear hx1
      (first | (go_region_with (first
          | (go_at_call 54; refine (from_any _ _ _ _).mono ?_; rw [hib]; rintro e3 w3 ⟨rfl, rfl⟩)
          | (go_at_call 53; refine (end_any _ _ _ _ _ _ _ (by omega) (by omega)).mono ?_; rintro e2 w2 ⟨rfl, hE2⟩; have hk2 : Ext w1 w2 := (by first | exact hE2 | exact ((Ext.refl _).drew).trans hE2 | exact ((Ext.refl _).drewN _).trans hE2); have hz2 := hk2.size; have hX2 := hX1.trans hk2; replace hc0 := hk2.cellAt hc0; replace hc1 := hk2.cellAt hc1; replace hc2 := hk2.cellAt hc2; replace hc3 := hk2.cellAt hc3; replace hc4 := hk2.cellAt hc4; clear p00 f00 p01 f01 p02 f02 p03 f03 p10 f10 p11 f11 p12 f12 p13 f13 p14 f14; replace x00 := Bx.ext x00 hk2; replace x01 := Bx.ext x01 hk2; replace x02 := Bx.ext x02 hk2; replace x03 := Bx.ext x03 hk2; replace x10 := Bx.ext x10 hk2; replace x11 := Bx.ext x11 hk2; replace x12 := Bx.ext x12 hk2; replace x13 := Bx.ext x13 hk2; replace x14 := Bx.ext x14 hk2; obtain ⟨p00, f00⟩ := id x00; obtain ⟨p01, f01⟩ := id x01; obtain ⟨p02, f02⟩ := id x02; obtain ⟨p03, f03⟩ := id x03; obtain ⟨p10, f10⟩ := id x10; obtain ⟨p11, f11⟩ := id x11; obtain ⟨p12, f12⟩ := id x12; obtain ⟨p13, f13⟩ := id x13; obtain ⟨p14, f14⟩ := id x14)
          | (go_at_call 17; refine (logOk_i _ l _ B (by exact hr0.keep (keepE' (by first | exact hX0 | exact hX0.drew | exact hX0.drewN _) hB)) (by first | omega | (simp; omega))).mono ?_; rw [Hok.out]; rintro e1 w1 ⟨rfl, hE1⟩; have hk1 : Ext W0 w1 := (by first | exact hE1 | exact ((Ext.refl _).drew).trans hE1 | exact ((Ext.refl _).drewN _).trans hE1); have hz1 := hk1.size; have hX1 := hX0.trans hk1; replace hc0 := hk1.cellAt hc0; replace hc1 := hk1.cellAt hc1; replace hc2 := hk1.cellAt hc2; replace hc3 := hk1.cellAt hc3; replace hc4 := hk1.cellAt hc4; replace x00 := Bx.ext x00 hk1; replace x01 := Bx.ext x01 hk1; replace x02 := Bx.ext x02 hk1; replace x03 := Bx.ext x03 hk1; replace x10 := Bx.ext x10 hk1; replace x11 := Bx.ext x11 hk1; replace x12 := Bx.ext x12 hk1; replace x13 := Bx.ext x13 hk1; replace x14 := Bx.ext x14 hk1; obtain ⟨p00, f00⟩ := id x00; obtain ⟨p01, f01⟩ := id x01; obtain ⟨p02, f02⟩ := id x02; obtain ⟨p03, f03⟩ := id x03; obtain ⟨p10, f10⟩ := id x10; obtain ⟨p11, f11⟩ := id x11; obtain ⟨p12, f12⟩ := id x12; obtain ⟨p13, f13⟩ := id x13; obtain ⟨p14, f14⟩ := id x14))) | fail)
      all_goals go_wp2
      all_goals rw [hf.out]
      all_goals
        exact bodyPost_ret (v := .tuple #[.agg #[.int .i64 x.client, .int .i64 x.req, .int .i64 x.cmd.kind, .int .i64 x.cmd.key, .int .i64 x.cmd.value], .bool true]) (by simp [results, Try.results21, go_sem, p10, p11, p12, p13, p14]) rfl ⟨rfl, by repeat' (first | with_reducible exact Ext.refl _ | with_reducible assumption | with_reducible refine Ext.set ?_ ?_ _ _ | with_reducible refine Ext.alloc ?_ _ | with_reducible refine Ext.drew ?_ | with_reducible refine Ext.drewN ?_ _ | with_reducible refine Ext.trans ?_ (by with_reducible assumption) | omega | (simp; done) | (simp; omega))⟩

set_option maxRecDepth 100000 in
set_option maxHeartbeats 8000000 in
theorem logAt_s (v : Value) (l : LogD) (n : Int) (w : World) (B : Nat) (hr : R_Log w B v l) (hB : B ≤ w.heap.size) (hn : -9223372036854775808 ≤ n ∧ n ≤ 9223372036854775807) :
    Calls Try.prog 20 #[v, .int .i64 n] w fun e w' => e = .returned (.tuple #[.agg #[.int .i64 (logAt l n).1.client, .int .i64 (logAt l n).1.req, .int .i64 (logAt l n).1.cmd.kind, .int .i64 (logAt l n).1.cmd.key, .int .i64 (logAt l n).1.cmd.value], .bool (logAt l n).2]) ∧ Ext w w' := by
  have hr0 := hr
  obtain ⟨u, s, t, rfl, hu, hs, ht⟩ := hr
  obtain ⟨A0, n0, c0, hv0, -⟩ := id hu
  obtain ⟨A1, n1, c1, hv1, -⟩ := id hs
  obtain ⟨A2, n2, c2, hv2, hl2, -, -, hrd⟩ := ht
  subst hv0 hv1 hv2
  have Hl2 := Lib.hid hl2
  clear hl2 hu hs
  have hX0 : Ext w ((w.alloc (.cells #[.int .i64 l.base, .slice A0 n0 c0, .slice A1 n1 c1, .slice A2 n2 c2] 37)).alloc (.cells #[.int .i64 0, .int .i64 0, .int .i64 0, .int .i64 0, .int .i64 0] 46)) := by repeat' (first | with_reducible exact Ext.refl _ | with_reducible assumption | with_reducible refine Ext.set ?_ ?_ _ _ | with_reducible refine Ext.alloc ?_ _ | with_reducible refine Ext.drew ?_ | with_reducible refine Ext.drewN ?_ _ | with_reducible refine Ext.trans ?_ (by with_reducible assumption) | omega | (simp; done) | (simp; omega))
  have x00 : Bx ((w.alloc (.cells #[.int .i64 l.base, .slice A0 n0 c0, .slice A1 n1 c1, .slice A2 n2 c2] 37)).alloc (.cells #[.int .i64 0, .int .i64 0, .int .i64 0, .int .i64 0, .int .i64 0] 46)) w.heap.size 0 (.int .i64 l.base) := (Bx.new w #[.int .i64 l.base, .slice A0 n0 c0, .slice A1 n1 c1, .slice A2 n2 c2] 37 0 (.int .i64 l.base) rfl rfl).alloc _
  have x01 : Bx ((w.alloc (.cells #[.int .i64 l.base, .slice A0 n0 c0, .slice A1 n1 c1, .slice A2 n2 c2] 37)).alloc (.cells #[.int .i64 0, .int .i64 0, .int .i64 0, .int .i64 0, .int .i64 0] 46)) w.heap.size 1 (.slice A0 n0 c0) := (Bx.new w #[.int .i64 l.base, .slice A0 n0 c0, .slice A1 n1 c1, .slice A2 n2 c2] 37 1 (.slice A0 n0 c0) rfl rfl).alloc _
  have x02 : Bx ((w.alloc (.cells #[.int .i64 l.base, .slice A0 n0 c0, .slice A1 n1 c1, .slice A2 n2 c2] 37)).alloc (.cells #[.int .i64 0, .int .i64 0, .int .i64 0, .int .i64 0, .int .i64 0] 46)) w.heap.size 2 (.slice A1 n1 c1) := (Bx.new w #[.int .i64 l.base, .slice A0 n0 c0, .slice A1 n1 c1, .slice A2 n2 c2] 37 2 (.slice A1 n1 c1) rfl rfl).alloc _
  have x03 : Bx ((w.alloc (.cells #[.int .i64 l.base, .slice A0 n0 c0, .slice A1 n1 c1, .slice A2 n2 c2] 37)).alloc (.cells #[.int .i64 0, .int .i64 0, .int .i64 0, .int .i64 0, .int .i64 0] 46)) w.heap.size 3 (.slice A2 n2 c2) := (Bx.new w #[.int .i64 l.base, .slice A0 n0 c0, .slice A1 n1 c1, .slice A2 n2 c2] 37 3 (.slice A2 n2 c2) rfl rfl).alloc _
  have x10 : Bx ((w.alloc (.cells #[.int .i64 l.base, .slice A0 n0 c0, .slice A1 n1 c1, .slice A2 n2 c2] 37)).alloc (.cells #[.int .i64 0, .int .i64 0, .int .i64 0, .int .i64 0, .int .i64 0] 46)) (w.heap.size + 1) 0 (.int .i64 0) := Bx.new (w.alloc (.cells #[.int .i64 l.base, .slice A0 n0 c0, .slice A1 n1 c1, .slice A2 n2 c2] 37)) #[.int .i64 0, .int .i64 0, .int .i64 0, .int .i64 0, .int .i64 0] 46 0 (.int .i64 0) (by simp) rfl
  have x11 : Bx ((w.alloc (.cells #[.int .i64 l.base, .slice A0 n0 c0, .slice A1 n1 c1, .slice A2 n2 c2] 37)).alloc (.cells #[.int .i64 0, .int .i64 0, .int .i64 0, .int .i64 0, .int .i64 0] 46)) (w.heap.size + 1) 1 (.int .i64 0) := Bx.new (w.alloc (.cells #[.int .i64 l.base, .slice A0 n0 c0, .slice A1 n1 c1, .slice A2 n2 c2] 37)) #[.int .i64 0, .int .i64 0, .int .i64 0, .int .i64 0, .int .i64 0] 46 1 (.int .i64 0) (by simp) rfl
  have x12 : Bx ((w.alloc (.cells #[.int .i64 l.base, .slice A0 n0 c0, .slice A1 n1 c1, .slice A2 n2 c2] 37)).alloc (.cells #[.int .i64 0, .int .i64 0, .int .i64 0, .int .i64 0, .int .i64 0] 46)) (w.heap.size + 1) 2 (.int .i64 0) := Bx.new (w.alloc (.cells #[.int .i64 l.base, .slice A0 n0 c0, .slice A1 n1 c1, .slice A2 n2 c2] 37)) #[.int .i64 0, .int .i64 0, .int .i64 0, .int .i64 0, .int .i64 0] 46 2 (.int .i64 0) (by simp) rfl
  have x13 : Bx ((w.alloc (.cells #[.int .i64 l.base, .slice A0 n0 c0, .slice A1 n1 c1, .slice A2 n2 c2] 37)).alloc (.cells #[.int .i64 0, .int .i64 0, .int .i64 0, .int .i64 0, .int .i64 0] 46)) (w.heap.size + 1) 3 (.int .i64 0) := Bx.new (w.alloc (.cells #[.int .i64 l.base, .slice A0 n0 c0, .slice A1 n1 c1, .slice A2 n2 c2] 37)) #[.int .i64 0, .int .i64 0, .int .i64 0, .int .i64 0, .int .i64 0] 46 3 (.int .i64 0) (by simp) rfl
  have x14 : Bx ((w.alloc (.cells #[.int .i64 l.base, .slice A0 n0 c0, .slice A1 n1 c1, .slice A2 n2 c2] 37)).alloc (.cells #[.int .i64 0, .int .i64 0, .int .i64 0, .int .i64 0, .int .i64 0] 46)) (w.heap.size + 1) 4 (.int .i64 0) := Bx.new (w.alloc (.cells #[.int .i64 l.base, .slice A0 n0 c0, .slice A1 n1 c1, .slice A2 n2 c2] 37)) #[.int .i64 0, .int .i64 0, .int .i64 0, .int .i64 0, .int .i64 0] 46 4 (.int .i64 0) (by simp) rfl
  have zz0 : ((w.alloc (.cells #[.int .i64 l.base, .slice A0 n0 c0, .slice A1 n1 c1, .slice A2 n2 c2] 37)).alloc (.cells #[.int .i64 0, .int .i64 0, .int .i64 0, .int .i64 0, .int .i64 0] 46)).heap.size = w.heap.size + 2 := by simp
  obtain ⟨ra, hra⟩ : ∃ ra, logAt l n = ra := ⟨_, rfl⟩
  rw [hra]
  have Hra := Lib.hid hra
  clear hra
  have hno : logOk l = false → Hid (ra = (⟨0, 0, ⟨0, 0, 0⟩⟩, false)) := by intro h; show _ = _; rw [← Hra.out]; exact logAt_no h
  have hout : inB n (l.base + 1) (l.base + n2) = false → Hid (ra = (⟨0, 0, ⟨0, 0, 0⟩⟩, false)) := by intro h; show _ = _; rw [← Hra.out]; exact logAt_out (by rw [Hl2.out]; exact h)
  have Hno := Lib.hid hno
  have Hout := Lib.hid hout
  clear hno hout
  obtain ⟨ok, hok⟩ : ∃ ok, logOk l = ok := ⟨_, rfl⟩
  have Hok := Lib.hid hok
  clear hok
  go_enter Try.func20, Try.ntmps20
  go_wp2_with fail
  generalize ((w.alloc (.cells #[.int .i64 l.base, .slice A0 n0 c0, .slice A1 n1 c1, .slice A2 n2 c2] 37)).alloc (.cells #[.int .i64 0, .int .i64 0, .int .i64 0, .int .i64 0, .int .i64 0] 46)) = W0 at *
  obtain ⟨p00, f00⟩ := id x00
  obtain ⟨p01, f01⟩ := id x01
  obtain ⟨p02, f02⟩ := id x02
  obtain ⟨p03, f03⟩ := id x03
  obtain ⟨p10, f10⟩ := id x10
  obtain ⟨p11, f11⟩ := id x11
  obtain ⟨p12, f12⟩ := id x12
  obtain ⟨p13, f13⟩ := id x13
  obtain ⟨p14, f14⟩ := id x14
  cases ok with
  | false =>
    have hf := Hno.out Hok.out
    refine (logOk_s _ l _ B (by exact hr0.keep (keepE' hX0 hB)) (by omega)).mono ?_
    rw [Hok.out]
    rintro e1 w1 ⟨rfl, hk1⟩
    clear p00 f00 p01 f01 p02 f02 p03 f03 p10 f10 p11 f11 p12 f12 p13 f13 p14 f14
    have hz1 := hk1.size
    have hX1 := hX0.trans hk1
    replace x00 := Bx.ext x00 hk1
    replace x01 := Bx.ext x01 hk1
    replace x02 := Bx.ext x02 hk1
    replace x03 := Bx.ext x03 hk1
    replace x10 := Bx.ext x10 hk1
    replace x11 := Bx.ext x11 hk1
    replace x12 := Bx.ext x12 hk1
    replace x13 := Bx.ext x13 hk1
    replace x14 := Bx.ext x14 hk1
    obtain ⟨p00, f00⟩ := id x00
    obtain ⟨p01, f01⟩ := id x01
    obtain ⟨p02, f02⟩ := id x02
    obtain ⟨p03, f03⟩ := id x03
    obtain ⟨p10, f10⟩ := id x10
    obtain ⟨p11, f11⟩ := id x11
    obtain ⟨p12, f12⟩ := id x12
    obtain ⟨p13, f13⟩ := id x13
    obtain ⟨p14, f14⟩ := id x14
    go_wp2
    rw [hf.out]
    exact bodyPost_ret (v := .tuple #[.agg #[.int .i64 0, .int .i64 0, .int .i64 0, .int .i64 0, .int .i64 0], .bool false]) (by simp [results, Try.results20, go_sem, p10, p11, p12, p13, p14]) rfl ⟨rfl, by repeat' (first | with_reducible exact Ext.refl _ | with_reducible assumption | with_reducible refine Ext.set ?_ ?_ _ _ | with_reducible refine Ext.alloc ?_ _ | with_reducible refine Ext.drew ?_ | with_reducible refine Ext.drewN ?_ _ | with_reducible refine Ext.trans ?_ (by with_reducible assumption) | omega | (simp; done) | (simp; omega))⟩
  | true =>
    have hg := logOk_iff.1 Hok.out
    have h1 := hg.base
    have h2 := hg.many
    have h3 := hg.last
    rw [Hl2.out] at h2 h3
    clear hg
    by_cases hlo : n ≤ l.base
    · have hf := Hout.out (by simp [inB]; omega)
      refine (logOk_s _ l _ B (by exact hr0.keep (keepE' hX0 hB)) (by omega)).mono ?_
      rw [Hok.out]
      rintro e1 w1 ⟨rfl, hk1⟩
      clear p00 f00 p01 f01 p02 f02 p03 f03 p10 f10 p11 f11 p12 f12 p13 f13 p14 f14
      have hz1 := hk1.size
      have hX1 := hX0.trans hk1
      replace x00 := Bx.ext x00 hk1
      replace x01 := Bx.ext x01 hk1
      replace x02 := Bx.ext x02 hk1
      replace x03 := Bx.ext x03 hk1
      replace x10 := Bx.ext x10 hk1
      replace x11 := Bx.ext x11 hk1
      replace x12 := Bx.ext x12 hk1
      replace x13 := Bx.ext x13 hk1
      replace x14 := Bx.ext x14 hk1
      obtain ⟨p00, f00⟩ := id x00
      obtain ⟨p01, f01⟩ := id x01
      obtain ⟨p02, f02⟩ := id x02
      obtain ⟨p03, f03⟩ := id x03
      obtain ⟨p10, f10⟩ := id x10
      obtain ⟨p11, f11⟩ := id x11
      obtain ⟨p12, f12⟩ := id x12
      obtain ⟨p13, f13⟩ := id x13
      obtain ⟨p14, f14⟩ := id x14
      go_wp2
      rw [hf.out]
      exact bodyPost_ret (v := .tuple #[.agg #[.int .i64 0, .int .i64 0, .int .i64 0, .int .i64 0, .int .i64 0], .bool false]) (by simp [results, Try.results20, go_sem, p10, p11, p12, p13, p14]) rfl ⟨rfl, by repeat' (first | with_reducible exact Ext.refl _ | with_reducible assumption | with_reducible refine Ext.set ?_ ?_ _ _ | with_reducible refine Ext.alloc ?_ _ | with_reducible refine Ext.drew ?_ | with_reducible refine Ext.drewN ?_ _ | with_reducible refine Ext.trans ?_ (by with_reducible assumption) | omega | (simp; done) | (simp; omega))⟩
    · have hle := Lib.hid (logEnd_ok Hok.out)
      refine (logOk_s _ l _ B (by exact hr0.keep (keepE' hX0 hB)) (by omega)).mono ?_
      rw [Hok.out]
      rintro e1 w1 ⟨rfl, hk1⟩
      clear p00 f00 p01 f01 p02 f02 p03 f03 p10 f10 p11 f11 p12 f12 p13 f13 p14 f14
      have hz1 := hk1.size
      have hX1 := hX0.trans hk1
      replace x00 := Bx.ext x00 hk1
      replace x01 := Bx.ext x01 hk1
      replace x02 := Bx.ext x02 hk1
      replace x03 := Bx.ext x03 hk1
      replace x10 := Bx.ext x10 hk1
      replace x11 := Bx.ext x11 hk1
      replace x12 := Bx.ext x12 hk1
      replace x13 := Bx.ext x13 hk1
      replace x14 := Bx.ext x14 hk1
      obtain ⟨p00, f00⟩ := id x00
      obtain ⟨p01, f01⟩ := id x01
      obtain ⟨p02, f02⟩ := id x02
      obtain ⟨p03, f03⟩ := id x03
      obtain ⟨p10, f10⟩ := id x10
      obtain ⟨p11, f11⟩ := id x11
      obtain ⟨p12, f12⟩ := id x12
      obtain ⟨p13, f13⟩ := id x13
      obtain ⟨p14, f14⟩ := id x14
      go_wp2_with fail
      refine (logEnd_s _ l _ B (by exact hr0.keep (keepE' hX1 hB)) (by omega)).mono ?_
      rw [hle.out, Hl2.out]
      rintro e2 w2 ⟨rfl, hk2⟩
      have hz2 := hk2.size
      have hX2 := hX1.trans hk2
      clear p00 f00 p01 f01 p02 f02 p03 f03 p10 f10 p11 f11 p12 f12 p13 f13 p14 f14
      replace x00 := Bx.ext x00 hk2
      replace x01 := Bx.ext x01 hk2
      replace x02 := Bx.ext x02 hk2
      replace x03 := Bx.ext x03 hk2
      replace x10 := Bx.ext x10 hk2
      replace x11 := Bx.ext x11 hk2
      replace x12 := Bx.ext x12 hk2
      replace x13 := Bx.ext x13 hk2
      replace x14 := Bx.ext x14 hk2
      obtain ⟨p00, f00⟩ := id x00
      obtain ⟨p01, f01⟩ := id x01
      obtain ⟨p02, f02⟩ := id x02
      obtain ⟨p03, f03⟩ := id x03
      obtain ⟨p10, f10⟩ := id x10
      obtain ⟨p11, f11⟩ := id x11
      obtain ⟨p12, f12⟩ := id x12
      obtain ⟨p13, f13⟩ := id x13
      obtain ⟨p14, f14⟩ := id x14
      by_cases hhi : l.base + n2 < n
      · have hf := Hout.out (by simp [inB]; omega)
        go_wp2
        rw [hf.out]
        exact bodyPost_ret (v := .tuple #[.agg #[.int .i64 0, .int .i64 0, .int .i64 0, .int .i64 0, .int .i64 0], .bool false]) (by simp [results, Try.results20, go_sem, p10, p11, p12, p13, p14]) rfl ⟨rfl, by repeat' (first | with_reducible exact Ext.refl _ | with_reducible assumption | with_reducible refine Ext.set ?_ ?_ _ _ | with_reducible refine Ext.alloc ?_ _ | with_reducible refine Ext.drew ?_ | with_reducible refine Ext.drewN ?_ _ | with_reducible refine Ext.trans ?_ (by with_reducible assumption) | omega | (simp; done) | (simp; omega))⟩
      · obtain ⟨k, hk⟩ : ∃ k : Nat, n = l.base + 1 + k := ⟨(n - l.base - 1).toNat, by omega⟩
        subst hk
        have hkn : k < n2 := by omega
        obtain ⟨b, off, x, rfl, hb2, hx1, hc0, hc1, hc2, hc3, hc4⟩ := (hX2.rd hrd hB).Entry Hl2.out hkn
        have hf : Hid (ra = (x, true)) := by show _ = _; rw [← Hra.out]; exact logAt_in Hok.out hx1
        have hke : l.base + 1 + (k : Int) - l.base - 1 = k := by omega
        clear hx1
        go_wp2
        rw [hf.out]
        exact bodyPost_ret (v := .tuple #[.agg #[.int .i64 x.client, .int .i64 x.req, .int .i64 x.cmd.kind, .int .i64 x.cmd.key, .int .i64 x.cmd.value], .bool true]) (by simp [results, Try.results20, go_sem, p10, p11, p12, p13, p14]) rfl ⟨rfl, by repeat' (first | with_reducible exact Ext.refl _ | with_reducible assumption | with_reducible refine Ext.set ?_ ?_ _ _ | with_reducible refine Ext.alloc ?_ _ | with_reducible refine Ext.drew ?_ | with_reducible refine Ext.drewN ?_ _ | with_reducible refine Ext.trans ?_ (by with_reducible assumption) | omega | (simp; done) | (simp; omega))⟩

end Go.Proofs.Ytocmcfilldfdlaa
