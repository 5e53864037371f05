/-
  SameImage, the program's and the reference's, walked.
-/
import Derived.Test.YtacbcnobenffdaaFind
namespace Go.Proofs.Ytacbcnobenffdaa
open Go.RowKit

set_option maxRecDepth 100000 in
set_option maxHeartbeats 1000000 in
theorem sameImage_i (u v : Value) (x y : ImageD) (w : World) (X Y : Nat) (hu : R_Image w X u x) (hX : X ≤ w.heap.size) (hv : R_Image w Y v y) (hY : Y ≤ w.heap.size) :
    Calls Try.prog 21 #[u, v] w fun e w' => e = .returned (.bool (decide (x = y))) ∧ Ext w w' := by
  obtain ⟨u1, u2, rfl, hu1, hu2⟩ := hu
  obtain ⟨v1, v2, rfl, hv1, hv2⟩ := hv
  obtain ⟨A0, n0, c0, hw0, -⟩ := id hu1
  obtain ⟨A1, n1, c1, hw1, -⟩ := id hu2
  obtain ⟨A2, n2, c2, hw2, -⟩ := id hv1
  obtain ⟨A3, n3, c3, hw3, -⟩ := id hv2
  subst hw0 hw1 hw2 hw3
  obtain ⟨x1, x2⟩ := x
  obtain ⟨y1, y2⟩ := y
  dsimp only at *
  go_enter Try.func21, Try.ntmps21
  go_wp2_with fail
  refine (equalCell_v _ _ _ _ _ X Y (by exact hu1.keep (keepE' (by repeat' (first | with_reducible exact Ext.refl _ | with_reducible assumption | with_reducible refine Ext.set ?_ ?_ _ _ | with_reducible refine Ext.alloc ?_ _ | with_reducible refine Ext.drew ?_ | with_reducible refine Ext.drewN ?_ _ | with_reducible refine Ext.trans ?_ (by with_reducible assumption) | omega | (simp; done) | (simp; omega))) hX)) (by exact hv1.keep (keepE' (by repeat' (first | with_reducible exact Ext.refl _ | with_reducible assumption | with_reducible refine Ext.set ?_ ?_ _ _ | with_reducible refine Ext.alloc ?_ _ | with_reducible refine Ext.drew ?_ | with_reducible refine Ext.drewN ?_ _ | with_reducible refine Ext.trans ?_ (by with_reducible assumption) | omega | (simp; done) | (simp; omega))) hY))).mono ?_
  rintro e w1 ⟨rfl, hs1⟩
  have hE1 := hs1.ext
  obtain ⟨hc1, hf1, hz1⟩ := hs1.look
  have hz2 : w.heap.size + 1 < w1.heap.size := by simp at hz1; omega
  clear hz1 hs1
  by_cases h1 : x1 = y1
  · rw [decide_eq_true h1]
    go_wp2_with fail
    refine (equalSeat_v _ _ _ _ _ X Y (by exact hu2.keep (keepE' (by repeat' (first | with_reducible exact Ext.refl _ | with_reducible assumption | with_reducible refine Ext.set ?_ ?_ _ _ | with_reducible refine Ext.alloc ?_ _ | with_reducible refine Ext.drew ?_ | with_reducible refine Ext.drewN ?_ _ | with_reducible refine Ext.trans ?_ (by with_reducible assumption) | omega | (simp; done) | (simp; omega))) hX)) (by exact hv2.keep (keepE' (by repeat' (first | with_reducible exact Ext.refl _ | with_reducible assumption | with_reducible refine Ext.set ?_ ?_ _ _ | with_reducible refine Ext.alloc ?_ _ | with_reducible refine Ext.drew ?_ | with_reducible refine Ext.drewN ?_ _ | with_reducible refine Ext.trans ?_ (by with_reducible assumption) | omega | (simp; done) | (simp; omega))) hY))).mono ?_
    rintro e w2 ⟨rfl, hs2⟩
    have hE2 := hs2.ext
    by_cases h2 : x2 = y2
    · rw [decide_eq_true h2]
      go_wp2
      go_ret
      exact ⟨ret_bool (by simp [h1, h2]), by repeat' (first | with_reducible exact Ext.refl _ | with_reducible assumption | with_reducible refine Ext.set ?_ ?_ _ _ | with_reducible refine Ext.alloc ?_ _ | with_reducible refine Ext.drew ?_ | with_reducible refine Ext.drewN ?_ _ | with_reducible refine Ext.trans ?_ (by with_reducible assumption) | omega | (simp; done) | (simp; omega))⟩
    · rw [decide_eq_false h2]
      go_wp2
      go_ret
      exact ⟨ret_bool (by simp [h2]), by repeat' (first | with_reducible exact Ext.refl _ | with_reducible assumption | with_reducible refine Ext.set ?_ ?_ _ _ | with_reducible refine Ext.alloc ?_ _ | with_reducible refine Ext.drew ?_ | with_reducible refine Ext.drewN ?_ _ | with_reducible refine Ext.trans ?_ (by with_reducible assumption) | omega | (simp; done) | (simp; omega))⟩
  · rw [decide_eq_false h1]
    go_wp2
    go_ret
    exact ⟨ret_bool (by simp [h1]), by repeat' (first | with_reducible exact Ext.refl _ | with_reducible assumption | with_reducible refine Ext.set ?_ ?_ _ _ | with_reducible refine Ext.alloc ?_ _ | with_reducible refine Ext.drew ?_ | with_reducible refine Ext.drewN ?_ _ | with_reducible refine Ext.trans ?_ (by with_reducible assumption) | omega | (simp; done) | (simp; omega))⟩

end Go.Proofs.Ytacbcnobenffdaa
