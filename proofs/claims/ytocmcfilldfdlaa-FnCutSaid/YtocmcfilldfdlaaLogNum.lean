/-
  hasNumber, l3Among, LogFrom, walked.
-/
import Derived.Test.YtocmcfilldfdlaaLogAt
import Derived.Test.YtocmcfilldfdlaaCopy
namespace Go.Proofs.Ytocmcfilldfdlaa
open Go.RowKit

def hasNum (l : LogD) (n : Int) : Bool := logOk l && inB n l.base (l.base + l.entries.length)
def logFrom (l : LogD) (n : Int) : List EntryD × Bool := if hasNum l n then (l.entries.drop (n - l.base).toNat, true) else ([], false)
theorem hasNum_no {l : LogD} {n : Int} (h : logOk l = false) : hasNum l n = false := by simp [hasNum, h]
theorem hasNum_in {l : LogD} {n : Int} (h : logOk l = true) : hasNum l n = inB n l.base (l.base + l.entries.length) := by simp [hasNum, h]
theorem hasNum_parts {l : LogD} {n : Int} (h : hasNum l n = true) : GoodL l ∧ ∃ k : Nat, n = l.base + k ∧ k ≤ l.entries.length := by
  simp only [hasNum, Bool.and_eq_true, inB, decide_eq_true_eq] at h
  exact ⟨logOk_iff.1 h.1, (n - l.base).toNat, by omega, by omega⟩
theorem logFrom_no {l : LogD} {n : Int} (h : hasNum l n = false) : logFrom l n = ([], false) := by simp [logFrom, h]
theorem logFrom_nk (l : LogD) (n : Int) : NK_EntryS (logFrom l n).1 ≤ 8388608 := by
  cases h : hasNum l n with
  | false => rw [logFrom_no h]; simp [NK_EntryS]
  | true =>
    obtain ⟨hg, k, rfl, hk⟩ := hasNum_parts h
    have := hg.many
    unfold logFrom NK_EntryS
    rw [if_pos h]
    simp only [List.length_drop]
    omega
theorem logFrom_in {l : LogD} {k : Nat} (h : hasNum l (l.base + k) = true) : logFrom l (l.base + k) = (l.entries.drop k, true) := by
  unfold logFrom
  rw [if_pos h, show (l.base + (k : Int) - l.base).toNat = k by omega]

set_option maxRecDepth 100000 in
set_option maxHeartbeats 8000000 in
theorem hasNumber_i (v : Value) (l : LogD) (n : Int) (w : World) (B : Nat) (hr : R_Log w B v l) (hB : B ≤ w.heap.size) :
    Calls Try.prog 57 #[v, .int .i64 n] w fun e w' => e = .returned (.bool (hasNum l n)) ∧ Ext w w' := by
  have hr0 := hr
  obtain ⟨u, s, t, rfl, hu, hs, ht⟩ := hr
  obtain ⟨A0, n0, c0, hv0, -⟩ := id hu
  obtain ⟨A1, n1, c1, hv1, -⟩ := id hs
  obtain ⟨A2, n2, c2, hv2, hl2, hnc2, hcm2, hrd⟩ := ht
  subst hv0 hv1 hv2
  have Hl2 := Lib.hid hl2
  clear hl2 hu hs
  have hX0 : Ext w (w.alloc (.cells #[.int .i64 l.base, .slice A0 n0 c0, .slice A1 n1 c1, .slice A2 n2 c2] 37)) := by repeat' (first | with_reducible exact Ext.refl _ | with_reducible assumption | with_reducible refine Ext.set ?_ ?_ _ _ | with_reducible refine Ext.alloc ?_ _ | with_reducible refine Ext.drew ?_ | with_reducible refine Ext.drewN ?_ _ | with_reducible refine Ext.trans ?_ (by with_reducible assumption) | omega | (simp; done) | (simp; omega))
  have x00 : Bx (w.alloc (.cells #[.int .i64 l.base, .slice A0 n0 c0, .slice A1 n1 c1, .slice A2 n2 c2] 37)) w.heap.size 0 (.int .i64 l.base) := (Bx.new w #[.int .i64 l.base, .slice A0 n0 c0, .slice A1 n1 c1, .slice A2 n2 c2] 37 0 (.int .i64 l.base) rfl rfl)
  have x01 : Bx (w.alloc (.cells #[.int .i64 l.base, .slice A0 n0 c0, .slice A1 n1 c1, .slice A2 n2 c2] 37)) w.heap.size 1 (.slice A0 n0 c0) := (Bx.new w #[.int .i64 l.base, .slice A0 n0 c0, .slice A1 n1 c1, .slice A2 n2 c2] 37 1 (.slice A0 n0 c0) rfl rfl)
  have x02 : Bx (w.alloc (.cells #[.int .i64 l.base, .slice A0 n0 c0, .slice A1 n1 c1, .slice A2 n2 c2] 37)) w.heap.size 2 (.slice A1 n1 c1) := (Bx.new w #[.int .i64 l.base, .slice A0 n0 c0, .slice A1 n1 c1, .slice A2 n2 c2] 37 2 (.slice A1 n1 c1) rfl rfl)
  have x03 : Bx (w.alloc (.cells #[.int .i64 l.base, .slice A0 n0 c0, .slice A1 n1 c1, .slice A2 n2 c2] 37)) w.heap.size 3 (.slice A2 n2 c2) := (Bx.new w #[.int .i64 l.base, .slice A0 n0 c0, .slice A1 n1 c1, .slice A2 n2 c2] 37 3 (.slice A2 n2 c2) rfl rfl)
  have zz0 : (w.alloc (.cells #[.int .i64 l.base, .slice A0 n0 c0, .slice A1 n1 c1, .slice A2 n2 c2] 37)).heap.size = w.heap.size + 1 := by simp
  obtain ⟨ok, hok⟩ : ∃ ok, logOk l = ok := ⟨_, rfl⟩
  have Hok := Lib.hid hok
  clear hok
  go_enter Try.func57, Try.ntmps57
  go_wp2_with fail
  generalize (w.alloc (.cells #[.int .i64 l.base, .slice A0 n0 c0, .slice A1 n1 c1, .slice A2 n2 c2] 37)) = W0 at *
  obtain ⟨p00, f00⟩ := id x00
  obtain ⟨p01, f01⟩ := id x01
  obtain ⟨p02, f02⟩ := id x02
  obtain ⟨p03, f03⟩ := id x03
  cases ok with
  | false =>
    have hf := Lib.hid (hasNum_no (n := n) Hok.out)
    (first | (go_region_with (first
        | (go_at_call 17; refine (logOk_i _ l _ B (by exact hr0.keep (keepE' (by first | exact hX0 | exact hX0.drew | exact hX0.drewN _) hB)) (by first | omega | (simp; omega))).mono ?_; rw [Hok.out]; rintro e1 w1 ⟨rfl, hE1⟩; have hk1 : Ext W0 w1 := (by first | exact hE1 | exact ((Ext.refl _).drew).trans hE1 | exact ((Ext.refl _).drewN _).trans hE1); have hz1 := hk1.size; have hX1 := hX0.trans hk1; replace x00 := Bx.ext x00 hk1; replace x01 := Bx.ext x01 hk1; replace x02 := Bx.ext x02 hk1; replace x03 := Bx.ext x03 hk1; obtain ⟨p00, f00⟩ := id x00; obtain ⟨p01, f01⟩ := id x01; obtain ⟨p02, f02⟩ := id x02; obtain ⟨p03, f03⟩ := id x03))) | fail)
    all_goals go_wp2
    all_goals go_ret
    all_goals exact ⟨ret_bool hf.out.symm, by repeat' (first | with_reducible exact Ext.refl _ | with_reducible assumption | with_reducible refine Ext.set ?_ ?_ _ _ | with_reducible refine Ext.alloc ?_ _ | with_reducible refine Ext.drew ?_ | with_reducible refine Ext.drewN ?_ _ | with_reducible refine Ext.trans ?_ (by with_reducible assumption) | omega | (simp; done) | (simp; omega))⟩
  | true =>
    have hf := Lib.hid (hasNum_in (n := n) Hok.out)
    have hf2 : Hid (hasNum l n = inB n l.base (l.base + n2)) := by show _ = _; rw [hf.out, Hl2.out]
    have hg := logOk_iff.1 Hok.out
    have h1 := hg.base
    have h2 := hg.many
    have h3 := hg.last
    rw [Hl2.out] at h2 h3
    clear hg hf
    (first | (go_region_with (first
        | (go_at_call 54; refine (from_any _ _ _ _).mono ?_; rintro e3 w3 ⟨rfl, rfl⟩)
        | (go_at_call 53; refine (end_any _ _ _ _ _ _ _ (by omega) (by omega)).mono ?_; rintro e2 w2 ⟨rfl, hE2⟩; have hk2 : Ext w1 w2 := (by first | exact hE2 | exact ((Ext.refl _).drew).trans hE2 | exact ((Ext.refl _).drewN _).trans hE2); have hz2 := hk2.size; have hX2 := hX1.trans hk2; clear p00 f00 p01 f01 p02 f02 p03 f03; replace x00 := Bx.ext x00 hk2; replace x01 := Bx.ext x01 hk2; replace x02 := Bx.ext x02 hk2; replace x03 := Bx.ext x03 hk2; obtain ⟨p00, f00⟩ := id x00; obtain ⟨p01, f01⟩ := id x01; obtain ⟨p02, f02⟩ := id x02; obtain ⟨p03, f03⟩ := id x03)
        | (go_at_call 17; refine (logOk_i _ l _ B (by exact hr0.keep (keepE' (by first | exact hX0 | exact hX0.drew | exact hX0.drewN _) hB)) (by first | omega | (simp; omega))).mono ?_; rw [Hok.out]; rintro e1 w1 ⟨rfl, hE1⟩; have hk1 : Ext W0 w1 := (by first | exact hE1 | exact ((Ext.refl _).drew).trans hE1 | exact ((Ext.refl _).drewN _).trans hE1); have hz1 := hk1.size; have hX1 := hX0.trans hk1; replace x00 := Bx.ext x00 hk1; replace x01 := Bx.ext x01 hk1; replace x02 := Bx.ext x02 hk1; replace x03 := Bx.ext x03 hk1; obtain ⟨p00, f00⟩ := id x00; obtain ⟨p01, f01⟩ := id x01; obtain ⟨p02, f02⟩ := id x02; obtain ⟨p03, f03⟩ := id x03))) | fail)
    all_goals go_wp2
    all_goals go_ret
    all_goals exact ⟨ret_bool hf2.out.symm, by repeat' (first | with_reducible exact Ext.refl _ | with_reducible assumption | with_reducible refine Ext.set ?_ ?_ _ _ | with_reducible refine Ext.alloc ?_ _ | with_reducible refine Ext.drew ?_ | with_reducible refine Ext.drewN ?_ _ | with_reducible refine Ext.trans ?_ (by with_reducible assumption) | omega | (simp; done) | (simp; omega))⟩

set_option maxRecDepth 100000 in
set_option maxHeartbeats 8000000 in
theorem hasNumber_s (v : Value) (l : LogD) (n : Int) (w : World) (B : Nat) (hr : R_Log w B v l) (hB : B ≤ w.heap.size) :
    Calls Try.prog 56 #[v, .int .i64 n] w fun e w' => e = .returned (.bool (hasNum l n)) ∧ Ext w w' := by
  have hr0 := hr
  obtain ⟨u, s, t, rfl, hu, hs, ht⟩ := hr
  obtain ⟨A0, n0, c0, hv0, -⟩ := id hu
  obtain ⟨A1, n1, c1, hv1, -⟩ := id hs
  obtain ⟨A2, n2, c2, hv2, hl2, hnc2, hcm2, hrd⟩ := ht
  subst hv0 hv1 hv2
  have Hl2 := Lib.hid hl2
  clear hl2 hu hs
  have hX0 : Ext w (w.alloc (.cells #[.int .i64 l.base, .slice A0 n0 c0, .slice A1 n1 c1, .slice A2 n2 c2] 37)) := by repeat' (first | with_reducible exact Ext.refl _ | with_reducible assumption | with_reducible refine Ext.set ?_ ?_ _ _ | with_reducible refine Ext.alloc ?_ _ | with_reducible refine Ext.drew ?_ | with_reducible refine Ext.drewN ?_ _ | with_reducible refine Ext.trans ?_ (by with_reducible assumption) | omega | (simp; done) | (simp; omega))
  have x00 : Bx (w.alloc (.cells #[.int .i64 l.base, .slice A0 n0 c0, .slice A1 n1 c1, .slice A2 n2 c2] 37)) w.heap.size 0 (.int .i64 l.base) := (Bx.new w #[.int .i64 l.base, .slice A0 n0 c0, .slice A1 n1 c1, .slice A2 n2 c2] 37 0 (.int .i64 l.base) rfl rfl)
  have x01 : Bx (w.alloc (.cells #[.int .i64 l.base, .slice A0 n0 c0, .slice A1 n1 c1, .slice A2 n2 c2] 37)) w.heap.size 1 (.slice A0 n0 c0) := (Bx.new w #[.int .i64 l.base, .slice A0 n0 c0, .slice A1 n1 c1, .slice A2 n2 c2] 37 1 (.slice A0 n0 c0) rfl rfl)
  have x02 : Bx (w.alloc (.cells #[.int .i64 l.base, .slice A0 n0 c0, .slice A1 n1 c1, .slice A2 n2 c2] 37)) w.heap.size 2 (.slice A1 n1 c1) := (Bx.new w #[.int .i64 l.base, .slice A0 n0 c0, .slice A1 n1 c1, .slice A2 n2 c2] 37 2 (.slice A1 n1 c1) rfl rfl)
  have x03 : Bx (w.alloc (.cells #[.int .i64 l.base, .slice A0 n0 c0, .slice A1 n1 c1, .slice A2 n2 c2] 37)) w.heap.size 3 (.slice A2 n2 c2) := (Bx.new w #[.int .i64 l.base, .slice A0 n0 c0, .slice A1 n1 c1, .slice A2 n2 c2] 37 3 (.slice A2 n2 c2) rfl rfl)
  have zz0 : (w.alloc (.cells #[.int .i64 l.base, .slice A0 n0 c0, .slice A1 n1 c1, .slice A2 n2 c2] 37)).heap.size = w.heap.size + 1 := by simp
  obtain ⟨ok, hok⟩ : ∃ ok, logOk l = ok := ⟨_, rfl⟩
  have Hok := Lib.hid hok
  clear hok
  go_enter Try.func56, Try.ntmps56
  go_wp2_with fail
  generalize (w.alloc (.cells #[.int .i64 l.base, .slice A0 n0 c0, .slice A1 n1 c1, .slice A2 n2 c2] 37)) = W0 at *
  obtain ⟨p00, f00⟩ := id x00
  obtain ⟨p01, f01⟩ := id x01
  obtain ⟨p02, f02⟩ := id x02
  obtain ⟨p03, f03⟩ := id x03
  cases ok with
  | false =>
    have hf := Lib.hid (hasNum_no (n := n) Hok.out)
    (first | (go_region_with (first
        | (go_at_call 16; refine (logOk_s _ l _ B (by exact hr0.keep (keepE' (by first | exact hX0 | exact hX0.drew | exact hX0.drewN _) hB)) (by first | omega | (simp; omega))).mono ?_; rw [Hok.out]; rintro e1 w1 ⟨rfl, hE1⟩; have hk1 : Ext W0 w1 := (by first | exact hE1 | exact ((Ext.refl _).drew).trans hE1 | exact ((Ext.refl _).drewN _).trans hE1); have hz1 := hk1.size; have hX1 := hX0.trans hk1; replace x00 := Bx.ext x00 hk1; replace x01 := Bx.ext x01 hk1; replace x02 := Bx.ext x02 hk1; replace x03 := Bx.ext x03 hk1; obtain ⟨p00, f00⟩ := id x00; obtain ⟨p01, f01⟩ := id x01; obtain ⟨p02, f02⟩ := id x02; obtain ⟨p03, f03⟩ := id x03))) | fail)
    all_goals go_wp2
    all_goals go_ret
    all_goals exact ⟨ret_bool hf.out.symm, by repeat' (first | with_reducible exact Ext.refl _ | with_reducible assumption | with_reducible refine Ext.set ?_ ?_ _ _ | with_reducible refine Ext.alloc ?_ _ | with_reducible refine Ext.drew ?_ | with_reducible refine Ext.drewN ?_ _ | with_reducible refine Ext.trans ?_ (by with_reducible assumption) | omega | (simp; done) | (simp; omega))⟩
  | true =>
    have hf := Lib.hid (hasNum_in (n := n) Hok.out)
    have hf2 : Hid (hasNum l n = inB n l.base (l.base + n2)) := by show _ = _; rw [hf.out, Hl2.out]
    have hg := logOk_iff.1 Hok.out
    have h1 := hg.base
    have h2 := hg.many
    have h3 := hg.last
    rw [Hl2.out] at h2 h3
    clear hg hf
    have hle : Hid (logEnd l = l.base + n2) := by show _ = _; rw [logEnd_ok Hok.out, Hl2.out]
    (first | (go_region_with (first
        | (go_at_call 73; refine (l1In_any _ _ _ _).mono ?_; rintro e3 w3 ⟨rfl, rfl⟩)
        | (go_at_call 18; refine (logEnd_s _ l _ B (by exact hr0.keep (keepE' (by first | exact hX1 | exact hX1.drew | exact hX1.drewN _) hB)) (by first | omega | (simp; omega))).mono ?_; rw [hle.out]; rintro e2 w2 ⟨rfl, hE2⟩; have hk2 : Ext w1 w2 := (by first | exact hE2 | exact ((Ext.refl _).drew).trans hE2 | exact ((Ext.refl _).drewN _).trans hE2); have hz2 := hk2.size; have hX2 := hX1.trans hk2; clear p00 f00 p01 f01 p02 f02 p03 f03; replace x00 := Bx.ext x00 hk2; replace x01 := Bx.ext x01 hk2; replace x02 := Bx.ext x02 hk2; replace x03 := Bx.ext x03 hk2; obtain ⟨p00, f00⟩ := id x00; obtain ⟨p01, f01⟩ := id x01; obtain ⟨p02, f02⟩ := id x02; obtain ⟨p03, f03⟩ := id x03)
        | (go_at_call 16; refine (logOk_s _ l _ B (by exact hr0.keep (keepE' (by first | exact hX0 | exact hX0.drew | exact hX0.drewN _) hB)) (by first | omega | (simp; omega))).mono ?_; rw [Hok.out]; rintro e1 w1 ⟨rfl, hE1⟩; have hk1 : Ext W0 w1 := (by first | exact hE1 | exact ((Ext.refl _).drew).trans hE1 | exact ((Ext.refl _).drewN _).trans hE1); have hz1 := hk1.size; have hX1 := hX0.trans hk1; replace x00 := Bx.ext x00 hk1; replace x01 := Bx.ext x01 hk1; replace x02 := Bx.ext x02 hk1; replace x03 := Bx.ext x03 hk1; obtain ⟨p00, f00⟩ := id x00; obtain ⟨p01, f01⟩ := id x01; obtain ⟨p02, f02⟩ := id x02; obtain ⟨p03, f03⟩ := id x03))) | fail)
    all_goals go_wp2
    all_goals go_ret
    all_goals exact ⟨ret_bool hf2.out.symm, by repeat' (first | with_reducible exact Ext.refl _ | with_reducible assumption | with_reducible refine Ext.set ?_ ?_ _ _ | with_reducible refine Ext.alloc ?_ _ | with_reducible refine Ext.drew ?_ | with_reducible refine Ext.drewN ?_ _ | with_reducible refine Ext.trans ?_ (by with_reducible assumption) | omega | (simp; done) | (simp; omega))⟩

set_option maxRecDepth 100000 in
set_option maxHeartbeats 4000000 in
theorem logFrom_i (v : Value) (l : LogD) (n : Int) (w : World) (B : Nat) (hr : R_Log w B v l) (hB : B ≤ w.heap.size) (hn : -9223372036854775808 ≤ n ∧ n ≤ 9223372036854775807) :
    Calls Try.prog 24 #[v, .int .i64 n] w fun e w' => ∃ v', e = .returned (.tuple #[v', .bool (logFrom l n).2]) ∧ O_EntryS w' w.heap.size w'.heap.size v' (logFrom l n).1 ∧ Ext w w' := by
  have hr0 := hr
  obtain ⟨u, s, t, rfl, hu, hs, ht⟩ := hr
  obtain ⟨A0, n0, c0, hv0, -⟩ := id hu
  obtain ⟨A1, n1, c1, hv1, -⟩ := id hs
  obtain ⟨A2, n2, c2, hv2, hl2, hnc2, hcm2, hrd⟩ := ht
  subst hv0 hv1 hv2
  have Hl2 := Lib.hid hl2
  clear hl2 hu hs
  have hX0 : Ext w (w.alloc (.cells #[.int .i64 l.base, .slice A0 n0 c0, .slice A1 n1 c1, .slice A2 n2 c2] 37)) := by repeat' (first | with_reducible exact Ext.refl _ | with_reducible assumption | with_reducible refine Ext.set ?_ ?_ _ _ | with_reducible refine Ext.alloc ?_ _ | with_reducible refine Ext.drew ?_ | with_reducible refine Ext.drewN ?_ _ | with_reducible refine Ext.trans ?_ (by with_reducible assumption) | omega | (simp; done) | (simp; omega))
  have x00 : Bx (w.alloc (.cells #[.int .i64 l.base, .slice A0 n0 c0, .slice A1 n1 c1, .slice A2 n2 c2] 37)) w.heap.size 0 (.int .i64 l.base) := (Bx.new w #[.int .i64 l.base, .slice A0 n0 c0, .slice A1 n1 c1, .slice A2 n2 c2] 37 0 (.int .i64 l.base) rfl rfl)
  have x01 : Bx (w.alloc (.cells #[.int .i64 l.base, .slice A0 n0 c0, .slice A1 n1 c1, .slice A2 n2 c2] 37)) w.heap.size 1 (.slice A0 n0 c0) := (Bx.new w #[.int .i64 l.base, .slice A0 n0 c0, .slice A1 n1 c1, .slice A2 n2 c2] 37 1 (.slice A0 n0 c0) rfl rfl)
  have x02 : Bx (w.alloc (.cells #[.int .i64 l.base, .slice A0 n0 c0, .slice A1 n1 c1, .slice A2 n2 c2] 37)) w.heap.size 2 (.slice A1 n1 c1) := (Bx.new w #[.int .i64 l.base, .slice A0 n0 c0, .slice A1 n1 c1, .slice A2 n2 c2] 37 2 (.slice A1 n1 c1) rfl rfl)
  have x03 : Bx (w.alloc (.cells #[.int .i64 l.base, .slice A0 n0 c0, .slice A1 n1 c1, .slice A2 n2 c2] 37)) w.heap.size 3 (.slice A2 n2 c2) := (Bx.new w #[.int .i64 l.base, .slice A0 n0 c0, .slice A1 n1 c1, .slice A2 n2 c2] 37 3 (.slice A2 n2 c2) rfl rfl)
  have zz0 : (w.alloc (.cells #[.int .i64 l.base, .slice A0 n0 c0, .slice A1 n1 c1, .slice A2 n2 c2] 37)).heap.size = w.heap.size + 1 := by simp
  obtain ⟨ok, hok⟩ : ∃ ok, hasNum l n = ok := ⟨_, rfl⟩
  have Hok := Lib.hid hok
  clear hok
  go_enter Try.func24, Try.ntmps24
  go_wp2_with fail
  generalize (w.alloc (.cells #[.int .i64 l.base, .slice A0 n0 c0, .slice A1 n1 c1, .slice A2 n2 c2] 37)) = W0 at *
  refine (hasNumber_i _ l n _ B (by exact hr0.keep (keepE' hX0 hB)) (by omega)).mono ?_
  rw [Hok.out]
  rintro e w1 ⟨rfl, hE1⟩
  have hz3 := hE1.size
  have hX1 : Ext w w1 := hX0.trans hE1
  replace x00 := Bx.ext x00 hE1
  replace x01 := Bx.ext x01 hE1
  replace x02 := Bx.ext x02 hE1
  replace x03 := Bx.ext x03 hE1
  obtain ⟨p00, f00⟩ := id x00
  obtain ⟨p01, f01⟩ := id x01
  obtain ⟨p02, f02⟩ := id x02
  obtain ⟨p03, f03⟩ := id x03
  cases ok with
  | false =>
    have hf := Lib.hid (logFrom_no Hok.out)
    go_wp2
    rw [hf.out]
    exact bodyPost_ret (v := .tuple #[.slice none 0 0, .bool false]) (by simp [results, Try.results24, go_sem]) rfl ⟨_, rfl, OwnS.nil _, by repeat' (first | with_reducible exact Ext.refl _ | with_reducible assumption | with_reducible refine Ext.set ?_ ?_ _ _ | with_reducible refine Ext.alloc ?_ _ | with_reducible refine Ext.drew ?_ | with_reducible refine Ext.drewN ?_ _ | with_reducible refine Ext.trans ?_ (by with_reducible assumption) | omega | (simp; done) | (simp; omega))⟩
  | true =>
    obtain ⟨hg, k, hk, hkl⟩ := hasNum_parts Hok.out
    have h1 := hg.base
    have h2 := hg.many
    have h3 := hg.last
    rw [Hl2.out] at h2 h3 hkl
    clear hg
    subst hk
    have hf := Lib.hid (logFrom_in Hok.out)
    have hcut : Rd w1 B 5 (if c2 = k then A2 else A2.map (·.add (k * 5))) (n2 - k) ((l.entries.drop k).flatMap eEntry) := by
      have h := (hX1.rd hrd hB).cut hkl hnc2
      rwa [flat_drop eEntry_len] at h
    have hlen : Hid ((l.entries.drop k).length = n2 - k) := by show _ = _; rw [List.length_drop, Hl2.out]
    have hke : l.base + (k : Int) - l.base = k := by omega
    clear hE1
    by_cases hck : c2 = k
    · have hnz : n2 - k = 0 := by omega
      rw [hnz] at hcut hlen
     
      have hr2 : Rd w1 B 5 A2 (0) ((l.entries.drop k).flatMap eEntry) := by
        rw [if_pos hck] at hcut
        exact hcut
      have hm2 : c2 ≤ maxLen := hcm2
      have hlt0 := Bx.lt x00
      clear hcut
      have hnk : n2 = k := by omega
      subst hck
      go_wp2_with fail
      refine (cloneEntry_any _ (l.entries.drop c2) _ B (by exact RdS.of hr2 hlen.out (by omega) (by omega)) (by omega) (by rw [hlen.out]; omega)).mono ?_
      rintro e w2 ⟨v2, rfl, o2, hE2⟩
      have hz4 := hE2.size
      obtain ⟨A3, n3, c3, hv3, -⟩ := id o2
      subst hv3
      go_wp2
      rw [hf.out]
      exact bodyPost_ret (v := .tuple #[.slice A3 n3 c3, .bool true]) (by simp [results, Try.results24, go_sem]) rfl ⟨_, rfl, o2.wide (by omega) (Nat.le_refl _), by repeat' (first | with_reducible exact Ext.refl _ | with_reducible assumption | with_reducible refine Ext.set ?_ ?_ _ _ | with_reducible refine Ext.alloc ?_ _ | with_reducible refine Ext.drew ?_ | with_reducible refine Ext.drewN ?_ _ | with_reducible refine Ext.trans ?_ (by with_reducible assumption) | omega | (simp; done) | (simp; omega))⟩
    ·
      have hr2 : Rd w1 B 5 (Option.map (fun x => x.add (k * 5)) A2) (n2 - k) ((l.entries.drop k).flatMap eEntry) := by
        rw [if_neg hck] at hcut
        exact hcut
      have hm2 : c2 ≤ maxLen := hcm2
      have hlt0 := Bx.lt x00
      clear hcut
      go_wp2_with fail
      refine (cloneEntry_any _ (l.entries.drop k) _ B (by exact RdS.of hr2 hlen.out (by omega) (by omega)) (by omega) (by rw [hlen.out]; omega)).mono ?_
      rintro e w2 ⟨v2, rfl, o2, hE2⟩
      have hz4 := hE2.size
      obtain ⟨A3, n3, c3, hv3, -⟩ := id o2
      subst hv3
      go_wp2
      rw [hf.out]
      exact bodyPost_ret (v := .tuple #[.slice A3 n3 c3, .bool true]) (by simp [results, Try.results24, go_sem]) rfl ⟨_, rfl, o2.wide (by omega) (Nat.le_refl _), by repeat' (first | with_reducible exact Ext.refl _ | with_reducible assumption | with_reducible refine Ext.set ?_ ?_ _ _ | with_reducible refine Ext.alloc ?_ _ | with_reducible refine Ext.drew ?_ | with_reducible refine Ext.drewN ?_ _ | with_reducible refine Ext.trans ?_ (by with_reducible assumption) | omega | (simp; done) | (simp; omega))⟩

set_option maxRecDepth 100000 in
set_option maxHeartbeats 4000000 in
theorem logFrom_s (v : Value) (l : LogD) (n : Int) (w : World) (B : Nat) (hr : R_Log w B v l) (hB : B ≤ w.heap.size) (hn : -9223372036854775808 ≤ n ∧ n ≤ 9223372036854775807) :
    Calls Try.prog 23 #[v, .int .i64 n] w fun e w' => ∃ v', e = .returned (.tuple #[v', .bool (logFrom l n).2]) ∧ O_EntryS w' w.heap.size w'.heap.size v' (logFrom l n).1 ∧ Ext w w' := by
  have hr0 := hr
  obtain ⟨u, s, t, rfl, hu, hs, ht⟩ := hr
  obtain ⟨A0, n0, c0, hv0, -⟩ := id hu
  obtain ⟨A1, n1, c1, hv1, -⟩ := id hs
  obtain ⟨A2, n2, c2, hv2, hl2, hnc2, hcm2, hrd⟩ := ht
  subst hv0 hv1 hv2
  have Hl2 := Lib.hid hl2
  clear hl2 hu hs
  obtain ⟨i0, hi0, hz0, hz1, hz2⟩ := info_parts info_Entry
  have hX0 : Ext w (w.alloc (.cells #[.int .i64 l.base, .slice A0 n0 c0, .slice A1 n1 c1, .slice A2 n2 c2] 37)) := by repeat' (first | with_reducible exact Ext.refl _ | with_reducible assumption | with_reducible refine Ext.set ?_ ?_ _ _ | with_reducible refine Ext.alloc ?_ _ | with_reducible refine Ext.drew ?_ | with_reducible refine Ext.drewN ?_ _ | with_reducible refine Ext.trans ?_ (by with_reducible assumption) | omega | (simp; done) | (simp; omega))
  have x00 : Bx (w.alloc (.cells #[.int .i64 l.base, .slice A0 n0 c0, .slice A1 n1 c1, .slice A2 n2 c2] 37)) w.heap.size 0 (.int .i64 l.base) := (Bx.new w #[.int .i64 l.base, .slice A0 n0 c0, .slice A1 n1 c1, .slice A2 n2 c2] 37 0 (.int .i64 l.base) rfl rfl)
  have x01 : Bx (w.alloc (.cells #[.int .i64 l.base, .slice A0 n0 c0, .slice A1 n1 c1, .slice A2 n2 c2] 37)) w.heap.size 1 (.slice A0 n0 c0) := (Bx.new w #[.int .i64 l.base, .slice A0 n0 c0, .slice A1 n1 c1, .slice A2 n2 c2] 37 1 (.slice A0 n0 c0) rfl rfl)
  have x02 : Bx (w.alloc (.cells #[.int .i64 l.base, .slice A0 n0 c0, .slice A1 n1 c1, .slice A2 n2 c2] 37)) w.heap.size 2 (.slice A1 n1 c1) := (Bx.new w #[.int .i64 l.base, .slice A0 n0 c0, .slice A1 n1 c1, .slice A2 n2 c2] 37 2 (.slice A1 n1 c1) rfl rfl)
  have x03 : Bx (w.alloc (.cells #[.int .i64 l.base, .slice A0 n0 c0, .slice A1 n1 c1, .slice A2 n2 c2] 37)) w.heap.size 3 (.slice A2 n2 c2) := (Bx.new w #[.int .i64 l.base, .slice A0 n0 c0, .slice A1 n1 c1, .slice A2 n2 c2] 37 3 (.slice A2 n2 c2) rfl rfl)
  have zz0 : (w.alloc (.cells #[.int .i64 l.base, .slice A0 n0 c0, .slice A1 n1 c1, .slice A2 n2 c2] 37)).heap.size = w.heap.size + 1 := by simp
  obtain ⟨ok, hok⟩ : ∃ ok, hasNum l n = ok := ⟨_, rfl⟩
  have Hok := Lib.hid hok
  clear hok
  go_enter Try.func23, Try.ntmps23
  go_wp2_with fail
  generalize (w.alloc (.cells #[.int .i64 l.base, .slice A0 n0 c0, .slice A1 n1 c1, .slice A2 n2 c2] 37)) = W0 at *
  refine (hasNumber_s _ l n _ B (by exact hr0.keep (keepE' hX0 hB)) (by omega)).mono ?_
  rw [Hok.out]
  rintro e w1 ⟨rfl, hE1⟩
  have hz3 := hE1.size
  have hX1 : Ext w w1 := hX0.trans hE1
  replace x00 := Bx.ext x00 hE1
  replace x01 := Bx.ext x01 hE1
  replace x02 := Bx.ext x02 hE1
  replace x03 := Bx.ext x03 hE1
  obtain ⟨p00, f00⟩ := id x00
  obtain ⟨p01, f01⟩ := id x01
  obtain ⟨p02, f02⟩ := id x02
  obtain ⟨p03, f03⟩ := id x03
  cases ok with
  | false =>
    have hf := Lib.hid (logFrom_no Hok.out)
    go_wp2
    rw [hf.out]
    exact bodyPost_ret (v := .tuple #[.slice (some ⟨w1.heap.size, 0, none⟩) 0 0, .bool false]) (by simp [results, Try.results23, go_sem]) rfl ⟨_, rfl, OwnS.nil _, by repeat' (first | with_reducible exact Ext.refl _ | with_reducible assumption | with_reducible refine Ext.set ?_ ?_ _ _ | with_reducible refine Ext.alloc ?_ _ | with_reducible refine Ext.drew ?_ | with_reducible refine Ext.drewN ?_ _ | with_reducible refine Ext.trans ?_ (by with_reducible assumption) | omega | (simp; done) | (simp; omega))⟩
  | true =>
    obtain ⟨hg, k, hk, hkl⟩ := hasNum_parts Hok.out
    have h1 := hg.base
    have h2 := hg.many
    have h3 := hg.last
    rw [Hl2.out] at h2 h3 hkl
    clear hg
    subst hk
    have hf := Lib.hid (logFrom_in Hok.out)
    have hcut : Rd w1 B 5 (if c2 = k then A2 else A2.map (·.add (k * 5))) (n2 - k) ((l.entries.drop k).flatMap eEntry) := by
      have h := (hX1.rd hrd hB).cut hkl hnc2
      rwa [flat_drop eEntry_len] at h
    have hlen : Hid ((l.entries.drop k).length = n2 - k) := by show _ = _; rw [List.length_drop, Hl2.out]
    have hke : l.base + (k : Int) - l.base = k := by omega
    clear hE1
    by_cases hck : c2 = k
    · have hnz : n2 - k = 0 := by omega
      rw [hnz] at hcut hlen
     
      have hr2 : Rd w1 B 5 A2 (0) ((l.entries.drop k).flatMap eEntry) := by
        rw [if_pos hck] at hcut
        exact hcut
      have hm2 : c2 ≤ maxLen := hcm2
      have hlt0 := Bx.lt x00
      clear hcut
      have hnk : n2 = k := by omega
      subst hck
      go_wp2_with (at_builtin; refine wpList_app _ rfl _ _ 35 rfl 46 i0 _ 5 40 Try.underlying35 hi0 hz0 hz1 hz2 rfl (by omega) (w1.heap.size + 1) (w1.heap.size + 1) (.slice (some ⟨w1.heap.size, 0, none⟩) 0 0) 0 [] rfl (Own.nil _ _ _ _ _ _) (by simp) (by simp) B A2 0 0 _ rfl (((Ext.refl w1).alloc _).rd hr2 (by omega)) (oneCell_Entry _) (by unfold maxLen; omega) (by omega) ?_)
      intro A3 c3 w2 o2 hb2
      have hE2 : Ext w1 w2 := ((Ext.refl w1).alloc _).grown hb2 (fun g h => by simp [blk] at h)
      try simp only [Nat.zero_add, List.nil_append] at o2
      have k3 : O_EntryS w2 _ _ (.slice A3 0 c3) (l.entries.drop c2) := OwnS.of o2 hlen.out
      have hz4 := hE2.size
      go_wp2
      rw [hf.out]
      exact bodyPost_ret (v := .tuple #[.slice A3 0 c3, .bool true]) (by simp [results, Try.results23, go_sem]) rfl ⟨_, rfl, k3.wide (by omega) (Nat.le_refl _), by repeat' (first | with_reducible exact Ext.refl _ | with_reducible assumption | with_reducible refine Ext.set ?_ ?_ _ _ | with_reducible refine Ext.alloc ?_ _ | with_reducible refine Ext.drew ?_ | with_reducible refine Ext.drewN ?_ _ | with_reducible refine Ext.trans ?_ (by with_reducible assumption) | omega | (simp; done) | (simp; omega))⟩
    ·
      have hr2 : Rd w1 B 5 (Option.map (fun x => x.add (k * 5)) A2) (n2 - k) ((l.entries.drop k).flatMap eEntry) := by
        rw [if_neg hck] at hcut
        exact hcut
      have hm2 : c2 ≤ maxLen := hcm2
      have hlt0 := Bx.lt x00
      clear hcut
      go_wp2_with (at_builtin; refine wpList_app _ rfl _ _ 35 rfl 46 i0 _ 5 40 Try.underlying35 hi0 hz0 hz1 hz2 rfl (by omega) (w1.heap.size + 1) (w1.heap.size + 1) (.slice (some ⟨w1.heap.size, 0, none⟩) 0 0) 0 [] rfl (Own.nil _ _ _ _ _ _) (by simp) (by simp) B (Option.map (fun x => x.add (k * 5)) A2) (n2 - k) (c2 - k) _ rfl (((Ext.refl w1).alloc _).rd hr2 (by omega)) (oneCell_Entry _) (by unfold maxLen; omega) (by omega) ?_)
      intro A3 c3 w2 o2 hb2
      have hE2 : Ext w1 w2 := ((Ext.refl w1).alloc _).grown hb2 (fun g h => by simp [blk] at h)
      try simp only [Nat.zero_add, List.nil_append] at o2
      have k3 : O_EntryS w2 _ _ (.slice A3 (n2 - k) c3) (l.entries.drop k) := OwnS.of o2 hlen.out
      have hz4 := hE2.size
      go_wp2
      rw [hf.out]
      exact bodyPost_ret (v := .tuple #[.slice A3 (n2 - k) c3, .bool true]) (by simp [results, Try.results23, go_sem]) rfl ⟨_, rfl, k3.wide (by omega) (Nat.le_refl _), by repeat' (first | with_reducible exact Ext.refl _ | with_reducible assumption | with_reducible refine Ext.set ?_ ?_ _ _ | with_reducible refine Ext.alloc ?_ _ | with_reducible refine Ext.drew ?_ | with_reducible refine Ext.drewN ?_ _ | with_reducible refine Ext.trans ?_ (by with_reducible assumption) | omega | (simp; done) | (simp; omega))⟩

end Go.Proofs.Ytocmcfilldfdlaa
