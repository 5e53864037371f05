/-
  hasNumber, l3Among, LogFrom, walked.
-/
import Derived.Test.YtbfbdhjeoknjkaaLogAt
import Derived.Test.YtbfbdhjeoknjkaaCopy
namespace Go.Proofs.Ytbfbdhjeoknjkaa
open Go.RowKit

def hasNum (l : LogD) (n : Int) : Bool := logOk l && inB n l.base (l.base + l.entries.length)
def logFrom (l : LogD) (n : Int) : List EntryD × Bool := if hasNum l n then (l.entries.drop (n - l.base).toNat, true) else ([], false)
theorem hasNum_no {l : LogD} {n : Int} (h : logOk l = false) : hasNum l n = false := by simp [hasNum, h]
theorem hasNum_in {l : LogD} {n : Int} (h : logOk l = true) : hasNum l n = inB n l.base (l.base + l.entries.length) := by simp [hasNum, h]
theorem hasNum_parts {l : LogD} {n : Int} (h : hasNum l n = true) : GoodL l ∧ ∃ k : Nat, n = l.base + k ∧ k ≤ l.entries.length := by
  simp only [hasNum, Bool.and_eq_true, inB, decide_eq_true_eq] at h
  exact ⟨logOk_iff.1 h.1, (n - l.base).toNat, by omega, by omega⟩
theorem logFrom_no {l : LogD} {n : Int} (h : hasNum l n = false) : logFrom l n = ([], false) := by simp [logFrom, h]
theorem logFrom_nk (l : LogD) (n : Int) : NK_EntryS (logFrom l n).1 ≤ 8388608 := by
  cases h : hasNum l n with
  | false => rw [logFrom_no h]; simp [NK_EntryS]
  | true =>
    obtain ⟨hg, k, rfl, hk⟩ := hasNum_parts h
    have := hg.many
    unfold logFrom NK_EntryS
    rw [if_pos h]
    simp only [List.length_drop]
    omega
theorem logFrom_in {l : LogD} {k : Nat} (h : hasNum l (l.base + k) = true) : logFrom l (l.base + k) = (l.entries.drop k, true) := by
  unfold logFrom
  rw [if_pos h, show (l.base + (k : Int) - l.base).toNat = k by omega]

set_option maxRecDepth 100000 in
set_option maxHeartbeats 8000000 in
theorem hasNumber_i (v : Value) (l : LogD) (n : Int) (w : World) (B : Nat) (hr : R_Log w B v l) (hB : B ≤ w.heap.size) :
    Calls Try.prog 79 #[v, .int .i64 n] w fun e w' => e = .returned (.bool (hasNum l n)) ∧ Ext w w' := by
  have hr0 := hr
  obtain ⟨u, s, t, rfl, hu, hs, ht⟩ := hr
  obtain ⟨A0, n0, c0, hv0, -⟩ := id hu
  obtain ⟨A1, n1, c1, hv1, -⟩ := id hs
  obtain ⟨A2, n2, c2, hv2, hl2, hnc2, hcm2, hrd⟩ := ht
  subst hv0 hv1 hv2
  have Hl2 := Lib.hid hl2
  clear hl2 hu hs
  have hX0 : Ext w (w.alloc (.cells #[.int .i64 l.base, .slice A0 n0 c0, .slice A1 n1 c1, .slice A2 n2 c2] 42)) := by repeat' (first | with_reducible exact Ext.refl _ | with_reducible assumption | with_reducible refine Ext.set ?_ ?_ _ _ | with_reducible refine Ext.alloc ?_ _ | with_reducible refine Ext.drew ?_ | with_reducible refine Ext.drewN ?_ _ | with_reducible refine Ext.trans ?_ (by with_reducible assumption) | omega | (simp; done) | (simp; omega))
  have x00 : Bx (w.alloc (.cells #[.int .i64 l.base, .slice A0 n0 c0, .slice A1 n1 c1, .slice A2 n2 c2] 42)) w.heap.size 0 (.int .i64 l.base) := (Bx.new w #[.int .i64 l.base, .slice A0 n0 c0, .slice A1 n1 c1, .slice A2 n2 c2] 42 0 (.int .i64 l.base) rfl rfl)
  have x01 : Bx (w.alloc (.cells #[.int .i64 l.base, .slice A0 n0 c0, .slice A1 n1 c1, .slice A2 n2 c2] 42)) w.heap.size 1 (.slice A0 n0 c0) := (Bx.new w #[.int .i64 l.base, .slice A0 n0 c0, .slice A1 n1 c1, .slice A2 n2 c2] 42 1 (.slice A0 n0 c0) rfl rfl)
  have x02 : Bx (w.alloc (.cells #[.int .i64 l.base, .slice A0 n0 c0, .slice A1 n1 c1, .slice A2 n2 c2] 42)) w.heap.size 2 (.slice A1 n1 c1) := (Bx.new w #[.int .i64 l.base, .slice A0 n0 c0, .slice A1 n1 c1, .slice A2 n2 c2] 42 2 (.slice A1 n1 c1) rfl rfl)
  have x03 : Bx (w.alloc (.cells #[.int .i64 l.base, .slice A0 n0 c0, .slice A1 n1 c1, .slice A2 n2 c2] 42)) w.heap.size 3 (.slice A2 n2 c2) := (Bx.new w #[.int .i64 l.base, .slice A0 n0 c0, .slice A1 n1 c1, .slice A2 n2 c2] 42 3 (.slice A2 n2 c2) rfl rfl)
  have zz0 : (w.alloc (.cells #[.int .i64 l.base, .slice A0 n0 c0, .slice A1 n1 c1, .slice A2 n2 c2] 42)).heap.size = w.heap.size + 1 := by simp
  obtain ⟨ok, hok⟩ : ∃ ok, logOk l = ok := ⟨_, rfl⟩
  have Hok := Lib.hid hok
  clear hok
  go_enter Try.func79, Try.ntmps79
  go_wp2_with fail
  generalize (w.alloc (.cells #[.int .i64 l.base, .slice A0 n0 c0, .slice A1 n1 c1, .slice A2 n2 c2] 42)) = W0 at *
  obtain ⟨p00, f00⟩ := id x00
  obtain ⟨p01, f01⟩ := id x01
  obtain ⟨p02, f02⟩ := id x02
  obtain ⟨p03, f03⟩ := id x03
  cases ok with
  | false =>
    have hf := Lib.hid (hasNum_no (n := n) Hok.out)
    (first | (go_region_with (first
        | (go_at_call 50; refine (logOk_i _ l _ B (by exact hr0.keep (keepE' (by first | exact hX0 | exact hX0.drew | exact hX0.drewN _) hB)) (by first | omega | (simp; omega))).mono ?_; rw [Hok.out]; rintro e1 w1 ⟨rfl, hE1⟩; have hk1 : Ext W0 w1 := (by first | exact hE1 | exact ((Ext.refl _).drew).trans hE1 | exact ((Ext.refl _).drewN _).trans hE1); have hz1 := hk1.size; have hX1 := hX0.trans hk1; replace x00 := Bx.ext x00 hk1; replace x01 := Bx.ext x01 hk1; replace x02 := Bx.ext x02 hk1; replace x03 := Bx.ext x03 hk1; obtain ⟨p00, f00⟩ := id x00; obtain ⟨p01, f01⟩ := id x01; obtain ⟨p02, f02⟩ := id x02; obtain ⟨p03, f03⟩ := id x03))) | fail)
    all_goals go_wp2
    all_goals go_ret
    all_goals exact ⟨ret_bool hf.out.symm, by repeat' (first | with_reducible exact Ext.refl _ | with_reducible assumption | with_reducible refine Ext.set ?_ ?_ _ _ | with_reducible refine Ext.alloc ?_ _ | with_reducible refine Ext.drew ?_ | with_reducible refine Ext.drewN ?_ _ | with_reducible refine Ext.trans ?_ (by with_reducible assumption) | omega | (simp; done) | (simp; omega))⟩
  | true =>
    have hf := Lib.hid (hasNum_in (n := n) Hok.out)
    have hf2 : Hid (hasNum l n = inB n l.base (l.base + n2)) := by show _ = _; rw [hf.out, Hl2.out]
    have hg := logOk_iff.1 Hok.out
    have h1 := hg.base
    have h2 := hg.many
    have h3 := hg.last
    rw [Hl2.out] at h2 h3
    clear hg hf
    (first | (go_region_with (first
        | (go_at_call 77; refine (from_any _ _ _ _).mono ?_; rintro e3 w3 ⟨rfl, rfl⟩)
        | (go_at_call 118; refine (end_any _ _ _ _ _ _ _ (by omega) (by omega)).mono ?_; rintro e2 w2 ⟨rfl, hE2⟩; have hk2 : Ext w1 w2 := (by first | exact hE2 | exact ((Ext.refl _).drew).trans hE2 | exact ((Ext.refl _).drewN _).trans hE2); have hz2 := hk2.size; have hX2 := hX1.trans hk2; clear p00 f00 p01 f01 p02 f02 p03 f03; replace x00 := Bx.ext x00 hk2; replace x01 := Bx.ext x01 hk2; replace x02 := Bx.ext x02 hk2; replace x03 := Bx.ext x03 hk2; obtain ⟨p00, f00⟩ := id x00; obtain ⟨p01, f01⟩ := id x01; obtain ⟨p02, f02⟩ := id x02; obtain ⟨p03, f03⟩ := id x03)
        | (go_at_call 50; refine (logOk_i _ l _ B (by exact hr0.keep (keepE' (by first | exact hX0 | exact hX0.drew | exact hX0.drewN _) hB)) (by first | omega | (simp; omega))).mono ?_; rw [Hok.out]; rintro e1 w1 ⟨rfl, hE1⟩; have hk1 : Ext W0 w1 := (by first | exact hE1 | exact ((Ext.refl _).drew).trans hE1 | exact ((Ext.refl _).drewN _).trans hE1); have hz1 := hk1.size; have hX1 := hX0.trans hk1; replace x00 := Bx.ext x00 hk1; replace x01 := Bx.ext x01 hk1; replace x02 := Bx.ext x02 hk1; replace x03 := Bx.ext x03 hk1; obtain ⟨p00, f00⟩ := id x00; obtain ⟨p01, f01⟩ := id x01; obtain ⟨p02, f02⟩ := id x02; obtain ⟨p03, f03⟩ := id x03))) | fail)
    all_goals go_wp2
    all_goals go_ret
    all_goals exact ⟨ret_bool hf2.out.symm, by repeat' (first | with_reducible exact Ext.refl _ | with_reducible assumption | with_reducible refine Ext.set ?_ ?_ _ _ | with_reducible refine Ext.alloc ?_ _ | with_reducible refine Ext.drew ?_ | with_reducible refine Ext.drewN ?_ _ | with_reducible refine Ext.trans ?_ (by with_reducible assumption) | omega | (simp; done) | (simp; omega))⟩

set_option maxRecDepth 100000 in
set_option maxHeartbeats 8000000 in
theorem hasNumber_s (v : Value) (l : LogD) (n : Int) (w : World) (B : Nat) (hr : R_Log w B v l) (hB : B ≤ w.heap.size) :
    Calls Try.prog 138 #[v, .int .i64 n] w fun e w' => e = .returned (.bool (hasNum l n)) ∧ Ext w w' := by
  have hr0 := hr
  obtain ⟨u, s, t, rfl, hu, hs, ht⟩ := hr
  obtain ⟨A0, n0, c0, hv0, -⟩ := id hu
  obtain ⟨A1, n1, c1, hv1, -⟩ := id hs
  obtain ⟨A2, n2, c2, hv2, hl2, hnc2, hcm2, hrd⟩ := ht
  subst hv0 hv1 hv2
  have Hl2 := Lib.hid hl2
  clear hl2 hu hs
  have hX0 : Ext w (w.alloc (.cells #[.int .i64 l.base, .slice A0 n0 c0, .slice A1 n1 c1, .slice A2 n2 c2] 42)) := by repeat' (first | with_reducible exact Ext.refl _ | with_reducible assumption | with_reducible refine Ext.set ?_ ?_ _ _ | with_reducible refine Ext.alloc ?_ _ | with_reducible refine Ext.drew ?_ | with_reducible refine Ext.drewN ?_ _ | with_reducible refine Ext.trans ?_ (by with_reducible assumption) | omega | (simp; done) | (simp; omega))
  have x00 : Bx (w.alloc (.cells #[.int .i64 l.base, .slice A0 n0 c0, .slice A1 n1 c1, .slice A2 n2 c2] 42)) w.heap.size 0 (.int .i64 l.base) := (Bx.new w #[.int .i64 l.base, .slice A0 n0 c0, .slice A1 n1 c1, .slice A2 n2 c2] 42 0 (.int .i64 l.base) rfl rfl)
  have x01 : Bx (w.alloc (.cells #[.int .i64 l.base, .slice A0 n0 c0, .slice A1 n1 c1, .slice A2 n2 c2] 42)) w.heap.size 1 (.slice A0 n0 c0) := (Bx.new w #[.int .i64 l.base, .slice A0 n0 c0, .slice A1 n1 c1, .slice A2 n2 c2] 42 1 (.slice A0 n0 c0) rfl rfl)
  have x02 : Bx (w.alloc (.cells #[.int .i64 l.base, .slice A0 n0 c0, .slice A1 n1 c1, .slice A2 n2 c2] 42)) w.heap.size 2 (.slice A1 n1 c1) := (Bx.new w #[.int .i64 l.base, .slice A0 n0 c0, .slice A1 n1 c1, .slice A2 n2 c2] 42 2 (.slice A1 n1 c1) rfl rfl)
  have x03 : Bx (w.alloc (.cells #[.int .i64 l.base, .slice A0 n0 c0, .slice A1 n1 c1, .slice A2 n2 c2] 42)) w.heap.size 3 (.slice A2 n2 c2) := (Bx.new w #[.int .i64 l.base, .slice A0 n0 c0, .slice A1 n1 c1, .slice A2 n2 c2] 42 3 (.slice A2 n2 c2) rfl rfl)
  have zz0 : (w.alloc (.cells #[.int .i64 l.base, .slice A0 n0 c0, .slice A1 n1 c1, .slice A2 n2 c2] 42)).heap.size = w.heap.size + 1 := by simp
  obtain ⟨ok, hok⟩ : ∃ ok, logOk l = ok := ⟨_, rfl⟩
  have Hok := Lib.hid hok
  clear hok
  go_enter Try.func138, Try.ntmps138
  go_wp2_with fail
  generalize (w.alloc (.cells #[.int .i64 l.base, .slice A0 n0 c0, .slice A1 n1 c1, .slice A2 n2 c2] 42)) = W0 at *
  obtain ⟨p00, f00⟩ := id x00
  obtain ⟨p01, f01⟩ := id x01
  obtain ⟨p02, f02⟩ := id x02
  obtain ⟨p03, f03⟩ := id x03
  cases ok with
  | false =>
    have hf := Lib.hid (hasNum_no (n := n) Hok.out)
    (first | (go_region_with (first
        | (go_at_call 25; refine (logOk_s _ l _ B (by exact hr0.keep (keepE' (by first | exact hX0 | exact hX0.drew | exact hX0.drewN _) hB)) (by first | omega | (simp; omega))).mono ?_; rw [Hok.out]; rintro e1 w1 ⟨rfl, hE1⟩; have hk1 : Ext W0 w1 := (by first | exact hE1 | exact ((Ext.refl _).drew).trans hE1 | exact ((Ext.refl _).drewN _).trans hE1); have hz1 := hk1.size; have hX1 := hX0.trans hk1; replace x00 := Bx.ext x00 hk1; replace x01 := Bx.ext x01 hk1; replace x02 := Bx.ext x02 hk1; replace x03 := Bx.ext x03 hk1; obtain ⟨p00, f00⟩ := id x00; obtain ⟨p01, f01⟩ := id x01; obtain ⟨p02, f02⟩ := id x02; obtain ⟨p03, f03⟩ := id x03))) | fail)
    all_goals go_wp2
    all_goals go_ret
    all_goals exact ⟨ret_bool hf.out.symm, by repeat' (first | with_reducible exact Ext.refl _ | with_reducible assumption | with_reducible refine Ext.set ?_ ?_ _ _ | with_reducible refine Ext.alloc ?_ _ | with_reducible refine Ext.drew ?_ | with_reducible refine Ext.drewN ?_ _ | with_reducible refine Ext.trans ?_ (by with_reducible assumption) | omega | (simp; done) | (simp; omega))⟩
  | true =>
    have hf := Lib.hid (hasNum_in (n := n) Hok.out)
    have hf2 : Hid (hasNum l n = inB n l.base (l.base + n2)) := by show _ = _; rw [hf.out, Hl2.out]
    have hg := logOk_iff.1 Hok.out
    have h1 := hg.base
    have h2 := hg.many
    have h3 := hg.last
    rw [Hl2.out] at h2 h3
    clear hg hf
    have hle : Hid (logEnd l = l.base + n2) := by show _ = _; rw [logEnd_ok Hok.out, Hl2.out]
    (first | (go_region_with (first
        | (go_at_call 72; refine (l1In_any _ _ _ _).mono ?_; rintro e3 w3 ⟨rfl, rfl⟩)
        | (go_at_call 116; refine (logEnd_s _ l _ B (by exact hr0.keep (keepE' (by first | exact hX1 | exact hX1.drew | exact hX1.drewN _) hB)) (by first | omega | (simp; omega))).mono ?_; rw [hle.out]; rintro e2 w2 ⟨rfl, hE2⟩; have hk2 : Ext w1 w2 := (by first | exact hE2 | exact ((Ext.refl _).drew).trans hE2 | exact ((Ext.refl _).drewN _).trans hE2); have hz2 := hk2.size; have hX2 := hX1.trans hk2; clear p00 f00 p01 f01 p02 f02 p03 f03; replace x00 := Bx.ext x00 hk2; replace x01 := Bx.ext x01 hk2; replace x02 := Bx.ext x02 hk2; replace x03 := Bx.ext x03 hk2; obtain ⟨p00, f00⟩ := id x00; obtain ⟨p01, f01⟩ := id x01; obtain ⟨p02, f02⟩ := id x02; obtain ⟨p03, f03⟩ := id x03)
        | (go_at_call 25; refine (logOk_s _ l _ B (by exact hr0.keep (keepE' (by first | exact hX0 | exact hX0.drew | exact hX0.drewN _) hB)) (by first | omega | (simp; omega))).mono ?_; rw [Hok.out]; rintro e1 w1 ⟨rfl, hE1⟩; have hk1 : Ext W0 w1 := (by first | exact hE1 | exact ((Ext.refl _).drew).trans hE1 | exact ((Ext.refl _).drewN _).trans hE1); have hz1 := hk1.size; have hX1 := hX0.trans hk1; replace x00 := Bx.ext x00 hk1; replace x01 := Bx.ext x01 hk1; replace x02 := Bx.ext x02 hk1; replace x03 := Bx.ext x03 hk1; obtain ⟨p00, f00⟩ := id x00; obtain ⟨p01, f01⟩ := id x01; obtain ⟨p02, f02⟩ := id x02; obtain ⟨p03, f03⟩ := id x03))) | fail)
    all_goals go_wp2
    all_goals go_ret
    all_goals exact ⟨ret_bool hf2.out.symm, by repeat' (first | with_reducible exact Ext.refl _ | with_reducible assumption | with_reducible refine Ext.set ?_ ?_ _ _ | with_reducible refine Ext.alloc ?_ _ | with_reducible refine Ext.drew ?_ | with_reducible refine Ext.drewN ?_ _ | with_reducible refine Ext.trans ?_ (by with_reducible assumption) | omega | (simp; done) | (simp; omega))⟩



end Go.Proofs.Ytbfbdhjeoknjkaa
