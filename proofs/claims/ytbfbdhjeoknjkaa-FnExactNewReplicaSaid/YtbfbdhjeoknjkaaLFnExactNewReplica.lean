/-
  FnExactNewReplica returns true for every input: the program's NewReplica returns what the reference's does, and returns memory of its own.
  Conditions: none: for every argument, in whatever memory.
-/
import Derived.Test.YtbfbdhjeoknjkaaOpen
import Derived.Test.YtbfbdhjeoknjkaaNewRep
namespace Go.Proofs.Ytbfbdhjeoknjkaa.fnExactNewReplica
open Go.ChangeShapes Go.WideShapes Go.ChangeAt Go.RowKit
set_option linter.unusedVariables false
set_option maxRecDepth 1000000

set_option maxRecDepth 100000 in
set_option maxHeartbeats 4000000 in
theorem walk (a0 : Int) (a1 : Int) (w : World) (f0 : Fits a0) (f1 : Fits a1) :
    Calls Try.prog 8 #[.int .i64 a0, .int .i64 a1] w fun e w' => e = .returned (.bool true) ∧ Ext w w' := by
  obtain ⟨⟨a, b, c⟩, ht⟩ : ∃ t, newRep a0 a1 = t := ⟨_, rfl⟩
  have HT := Lib.hid ht
  go_enter Try.func8, Try.ntmps8
  go_wp2_with fail
  refine (newReplica_s _ _ _).mono ?_
  rw [ht]
  rintro e w1 ⟨rfl, hE1⟩
  simp only [repV]
  have hW1 : Ext w1 (w1.alloc (.cells #[.int .i64 a, .int .i64 b, .int .i64 c, .int .i64 0, .int .i64 0, .int .i64 0, .int .i64 0, .slice none 0 0, .slice none 0 0, .slice none 0 0, .slice none 0 0, .int .i64 0, .int .i64 0] 71)) := by repeat' (first | with_reducible exact Ext.refl _ | with_reducible assumption | with_reducible refine Ext.set ?_ ?_ _ _ | with_reducible refine Ext.alloc ?_ _ | with_reducible refine Ext.drew ?_ | with_reducible refine Ext.drewN ?_ _ | with_reducible refine Ext.trans ?_ (by with_reducible assumption) | omega | (simp; done) | (simp; omega))
  have zW1 : w1.heap.size + 1 ≤ (w1.alloc (.cells #[.int .i64 a, .int .i64 b, .int .i64 c, .int .i64 0, .int .i64 0, .int .i64 0, .int .i64 0, .slice none 0 0, .slice none 0 0, .slice none 0 0, .slice none 0 0, .int .i64 0, .int .i64 0] 71)).heap.size := by simp
  have p : Blk (w1.alloc (.cells #[.int .i64 a, .int .i64 b, .int .i64 c, .int .i64 0, .int .i64 0, .int .i64 0, .int .i64 0, .slice none 0 0, .slice none 0 0, .slice none 0 0, .slice none 0 0, .int .i64 0, .int .i64 0] 71)) w1.heap.size 71 [.int .i64 a, .int .i64 b, .int .i64 c, .int .i64 0, .int .i64 0, .int .i64 0, .int .i64 0, .slice none 0 0, .slice none 0 0, .slice none 0 0, .slice none 0 0, .int .i64 0, .int .i64 0] := (Blk.new w1 #[.int .i64 a, .int .i64 b, .int .i64 c, .int .i64 0, .int .i64 0, .int .i64 0, .int .i64 0, .slice none 0 0, .slice none 0 0, .slice none 0 0, .slice none 0 0, .int .i64 0, .int .i64 0] 71 (by first | rfl | simp))
  go_upto_region 2 with (fail)
  generalize (w1.alloc (.cells #[.int .i64 a, .int .i64 b, .int .i64 c, .int .i64 0, .int .i64 0, .int .i64 0, .int .i64 0, .slice none 0 0, .slice none 0 0, .slice none 0 0, .slice none 0 0, .int .i64 0, .int .i64 0] 71)) = W1 at *
  have hX1 := hE1.trans hW1
  clear hE1 hW1
  go_wp2_with fail
  refine (newReplica_i _ _ _).mono ?_
  rw [ht]
  rintro e w2 ⟨rfl, hE2⟩
  simp only [repV]
  replace p := p.ext hE2
  have hX2 := hX1.trans hE2
  have hW2 : Ext w2 (w2.alloc (.cells #[.int .i64 a, .int .i64 b, .int .i64 c, .int .i64 0, .int .i64 0, .int .i64 0, .int .i64 0, .slice none 0 0, .slice none 0 0, .slice none 0 0, .slice none 0 0, .int .i64 0, .int .i64 0] 71)) := by repeat' (first | with_reducible exact Ext.refl _ | with_reducible assumption | with_reducible refine Ext.set ?_ ?_ _ _ | with_reducible refine Ext.alloc ?_ _ | with_reducible refine Ext.drew ?_ | with_reducible refine Ext.drewN ?_ _ | with_reducible refine Ext.trans ?_ (by with_reducible assumption) | omega | (simp; done) | (simp; omega))
  have zW2 : w2.heap.size + 1 ≤ (w2.alloc (.cells #[.int .i64 a, .int .i64 b, .int .i64 c, .int .i64 0, .int .i64 0, .int .i64 0, .int .i64 0, .slice none 0 0, .slice none 0 0, .slice none 0 0, .slice none 0 0, .int .i64 0, .int .i64 0] 71)).heap.size := by simp
  have q : Blk (w2.alloc (.cells #[.int .i64 a, .int .i64 b, .int .i64 c, .int .i64 0, .int .i64 0, .int .i64 0, .int .i64 0, .slice none 0 0, .slice none 0 0, .slice none 0 0, .slice none 0 0, .int .i64 0, .int .i64 0] 71)) w2.heap.size 71 [.int .i64 a, .int .i64 b, .int .i64 c, .int .i64 0, .int .i64 0, .int .i64 0, .int .i64 0, .slice none 0 0, .slice none 0 0, .slice none 0 0, .slice none 0 0, .int .i64 0, .int .i64 0] := (Blk.new w2 #[.int .i64 a, .int .i64 b, .int .i64 c, .int .i64 0, .int .i64 0, .int .i64 0, .int .i64 0, .slice none 0 0, .slice none 0 0, .slice none 0 0, .slice none 0 0, .int .i64 0, .int .i64 0] 71 (by first | rfl | simp))
  replace p := p.ext hW2
  go_upto_region 3 with (fail)
  generalize (w2.alloc (.cells #[.int .i64 a, .int .i64 b, .int .i64 c, .int .i64 0, .int .i64 0, .int .i64 0, .int .i64 0, .slice none 0 0, .slice none 0 0, .slice none 0 0, .slice none 0 0, .int .i64 0, .int .i64 0] 71)) = W2 at *
  have hX3 := hX2.trans hW2
  clear hE2 hW2 ht
  obtain ⟨p_p0, p_f0⟩ := p.at 0 _ rfl
  obtain ⟨p_p1, p_f1⟩ := p.at 1 _ rfl
  obtain ⟨p_p2, p_f2⟩ := p.at 2 _ rfl
  obtain ⟨p_p3, p_f3⟩ := p.at 3 _ rfl
  obtain ⟨p_p4, p_f4⟩ := p.at 4 _ rfl
  obtain ⟨p_p5, p_f5⟩ := p.at 5 _ rfl
  obtain ⟨p_p6, p_f6⟩ := p.at 6 _ rfl
  obtain ⟨p_p7, p_f7⟩ := p.at 7 _ rfl
  obtain ⟨p_p8, p_f8⟩ := p.at 8 _ rfl
  obtain ⟨p_p9, p_f9⟩ := p.at 9 _ rfl
  obtain ⟨p_p10, p_f10⟩ := p.at 10 _ rfl
  obtain ⟨p_p11, p_f11⟩ := p.at 11 _ rfl
  obtain ⟨p_p12, p_f12⟩ := p.at 12 _ rfl
  obtain ⟨q_p0, q_f0⟩ := q.at 0 _ rfl
  obtain ⟨q_p1, q_f1⟩ := q.at 1 _ rfl
  obtain ⟨q_p2, q_f2⟩ := q.at 2 _ rfl
  obtain ⟨q_p3, q_f3⟩ := q.at 3 _ rfl
  obtain ⟨q_p4, q_f4⟩ := q.at 4 _ rfl
  obtain ⟨q_p5, q_f5⟩ := q.at 5 _ rfl
  obtain ⟨q_p6, q_f6⟩ := q.at 6 _ rfl
  obtain ⟨q_p7, q_f7⟩ := q.at 7 _ rfl
  obtain ⟨q_p8, q_f8⟩ := q.at 8 _ rfl
  obtain ⟨q_p9, q_f9⟩ := q.at 9 _ rfl
  obtain ⟨q_p10, q_f10⟩ := q.at 10 _ rfl
  obtain ⟨q_p11, q_f11⟩ := q.at 11 _ rfl
  obtain ⟨q_p12, q_f12⟩ := q.at 12 _ rfl
  go_wp2_with fail
  refine (eqReplica_z a b c _).mono ?_
  rintro e w3 ⟨rfl, hE3⟩
  clear p_p0 p_f0 p_p1 p_f1 p_p2 p_f2 p_p3 p_f3 p_p4 p_f4 p_p5 p_f5 p_p6 p_f6 p_p7 p_f7 p_p8 p_f8 p_p9 p_f9 p_p10 p_f10 p_p11 p_f11 p_p12 p_f12 q_p0 q_f0 q_p1 q_f1 q_p2 q_f2 q_p3 q_f3 q_p4 q_f4 q_p5 q_f5 q_p6 q_f6 q_p7 q_f7 q_p8 q_f8 q_p9 q_f9 q_p10 q_f10 q_p11 q_f11 q_p12 q_f12
  replace p := p.ext hE3
  replace q := q.ext hE3
  obtain ⟨p_p0, p_f0⟩ := p.at 0 _ rfl
  obtain ⟨p_p1, p_f1⟩ := p.at 1 _ rfl
  obtain ⟨p_p2, p_f2⟩ := p.at 2 _ rfl
  obtain ⟨p_p3, p_f3⟩ := p.at 3 _ rfl
  obtain ⟨p_p4, p_f4⟩ := p.at 4 _ rfl
  obtain ⟨p_p5, p_f5⟩ := p.at 5 _ rfl
  obtain ⟨p_p6, p_f6⟩ := p.at 6 _ rfl
  obtain ⟨p_p7, p_f7⟩ := p.at 7 _ rfl
  obtain ⟨p_p8, p_f8⟩ := p.at 8 _ rfl
  obtain ⟨p_p9, p_f9⟩ := p.at 9 _ rfl
  obtain ⟨p_p10, p_f10⟩ := p.at 10 _ rfl
  obtain ⟨p_p11, p_f11⟩ := p.at 11 _ rfl
  obtain ⟨p_p12, p_f12⟩ := p.at 12 _ rfl
  obtain ⟨q_p0, q_f0⟩ := q.at 0 _ rfl
  obtain ⟨q_p1, q_f1⟩ := q.at 1 _ rfl
  obtain ⟨q_p2, q_f2⟩ := q.at 2 _ rfl
  obtain ⟨q_p3, q_f3⟩ := q.at 3 _ rfl
  obtain ⟨q_p4, q_f4⟩ := q.at 4 _ rfl
  obtain ⟨q_p5, q_f5⟩ := q.at 5 _ rfl
  obtain ⟨q_p6, q_f6⟩ := q.at 6 _ rfl
  obtain ⟨q_p7, q_f7⟩ := q.at 7 _ rfl
  obtain ⟨q_p8, q_f8⟩ := q.at 8 _ rfl
  obtain ⟨q_p9, q_f9⟩ := q.at 9 _ rfl
  obtain ⟨q_p10, q_f10⟩ := q.at 10 _ rfl
  obtain ⟨q_p11, q_f11⟩ := q.at 11 _ rfl
  obtain ⟨q_p12, q_f12⟩ := q.at 12 _ rfl
  have hX4 := hX3.trans hE3
  clear hE3
  go_wp2_with fail
  refine (markReplica_z a b c 1 _ (by omega) (by omega)).mono ?_
  rintro e w4 ⟨rfl, hE4⟩
  clear p_p0 p_f0 p_p1 p_f1 p_p2 p_f2 p_p3 p_f3 p_p4 p_f4 p_p5 p_f5 p_p6 p_f6 p_p7 p_f7 p_p8 p_f8 p_p9 p_f9 p_p10 p_f10 p_p11 p_f11 p_p12 p_f12 q_p0 q_f0 q_p1 q_f1 q_p2 q_f2 q_p3 q_f3 q_p4 q_f4 q_p5 q_f5 q_p6 q_f6 q_p7 q_f7 q_p8 q_f8 q_p9 q_f9 q_p10 q_f10 q_p11 q_f11 q_p12 q_f12
  replace p := p.ext hE4
  replace q := q.ext hE4
  obtain ⟨p_p0, p_f0⟩ := p.at 0 _ rfl
  obtain ⟨p_p1, p_f1⟩ := p.at 1 _ rfl
  obtain ⟨p_p2, p_f2⟩ := p.at 2 _ rfl
  obtain ⟨p_p3, p_f3⟩ := p.at 3 _ rfl
  obtain ⟨p_p4, p_f4⟩ := p.at 4 _ rfl
  obtain ⟨p_p5, p_f5⟩ := p.at 5 _ rfl
  obtain ⟨p_p6, p_f6⟩ := p.at 6 _ rfl
  obtain ⟨p_p7, p_f7⟩ := p.at 7 _ rfl
  obtain ⟨p_p8, p_f8⟩ := p.at 8 _ rfl
  obtain ⟨p_p9, p_f9⟩ := p.at 9 _ rfl
  obtain ⟨p_p10, p_f10⟩ := p.at 10 _ rfl
  obtain ⟨p_p11, p_f11⟩ := p.at 11 _ rfl
  obtain ⟨p_p12, p_f12⟩ := p.at 12 _ rfl
  obtain ⟨q_p0, q_f0⟩ := q.at 0 _ rfl
  obtain ⟨q_p1, q_f1⟩ := q.at 1 _ rfl
  obtain ⟨q_p2, q_f2⟩ := q.at 2 _ rfl
  obtain ⟨q_p3, q_f3⟩ := q.at 3 _ rfl
  obtain ⟨q_p4, q_f4⟩ := q.at 4 _ rfl
  obtain ⟨q_p5, q_f5⟩ := q.at 5 _ rfl
  obtain ⟨q_p6, q_f6⟩ := q.at 6 _ rfl
  obtain ⟨q_p7, q_f7⟩ := q.at 7 _ rfl
  obtain ⟨q_p8, q_f8⟩ := q.at 8 _ rfl
  obtain ⟨q_p9, q_f9⟩ := q.at 9 _ rfl
  obtain ⟨q_p10, q_f10⟩ := q.at 10 _ rfl
  obtain ⟨q_p11, q_f11⟩ := q.at 11 _ rfl
  obtain ⟨q_p12, q_f12⟩ := q.at 12 _ rfl
  have hX5 := hX4.trans hE4
  clear hE4
  go_wp2_with fail
  refine (heldReplica_z a b c 1 _ (by omega) (by omega)).mono ?_
  rintro e w5 ⟨rfl, hE5⟩
  clear p_p0 p_f0 p_p1 p_f1 p_p2 p_f2 p_p3 p_f3 p_p4 p_f4 p_p5 p_f5 p_p6 p_f6 p_p7 p_f7 p_p8 p_f8 p_p9 p_f9 p_p10 p_f10 p_p11 p_f11 p_p12 p_f12 q_p0 q_f0 q_p1 q_f1 q_p2 q_f2 q_p3 q_f3 q_p4 q_f4 q_p5 q_f5 q_p6 q_f6 q_p7 q_f7 q_p8 q_f8 q_p9 q_f9 q_p10 q_f10 q_p11 q_f11 q_p12 q_f12
  replace p := p.ext hE5
  replace q := q.ext hE5
  obtain ⟨p_p0, p_f0⟩ := p.at 0 _ rfl
  obtain ⟨p_p1, p_f1⟩ := p.at 1 _ rfl
  obtain ⟨p_p2, p_f2⟩ := p.at 2 _ rfl
  obtain ⟨p_p3, p_f3⟩ := p.at 3 _ rfl
  obtain ⟨p_p4, p_f4⟩ := p.at 4 _ rfl
  obtain ⟨p_p5, p_f5⟩ := p.at 5 _ rfl
  obtain ⟨p_p6, p_f6⟩ := p.at 6 _ rfl
  obtain ⟨p_p7, p_f7⟩ := p.at 7 _ rfl
  obtain ⟨p_p8, p_f8⟩ := p.at 8 _ rfl
  obtain ⟨p_p9, p_f9⟩ := p.at 9 _ rfl
  obtain ⟨p_p10, p_f10⟩ := p.at 10 _ rfl
  obtain ⟨p_p11, p_f11⟩ := p.at 11 _ rfl
  obtain ⟨p_p12, p_f12⟩ := p.at 12 _ rfl
  obtain ⟨q_p0, q_f0⟩ := q.at 0 _ rfl
  obtain ⟨q_p1, q_f1⟩ := q.at 1 _ rfl
  obtain ⟨q_p2, q_f2⟩ := q.at 2 _ rfl
  obtain ⟨q_p3, q_f3⟩ := q.at 3 _ rfl
  obtain ⟨q_p4, q_f4⟩ := q.at 4 _ rfl
  obtain ⟨q_p5, q_f5⟩ := q.at 5 _ rfl
  obtain ⟨q_p6, q_f6⟩ := q.at 6 _ rfl
  obtain ⟨q_p7, q_f7⟩ := q.at 7 _ rfl
  obtain ⟨q_p8, q_f8⟩ := q.at 8 _ rfl
  obtain ⟨q_p9, q_f9⟩ := q.at 9 _ rfl
  obtain ⟨q_p10, q_f10⟩ := q.at 10 _ rfl
  obtain ⟨q_p11, q_f11⟩ := q.at 11 _ rfl
  obtain ⟨q_p12, q_f12⟩ := q.at 12 _ rfl
  have hX6 := hX5.trans hE5
  clear hE5
  have ht : newRep a0 a1 = (a, b, c) := HT.out
  go_wp2_with fail
  refine (newReplica_i _ _ _).mono ?_
  rw [ht]
  rintro e w6 ⟨rfl, hE6⟩
  simp only [repV]
  clear p_p0 p_f0 p_p1 p_f1 p_p2 p_f2 p_p3 p_f3 p_p4 p_f4 p_p5 p_f5 p_p6 p_f6 p_p7 p_f7 p_p8 p_f8 p_p9 p_f9 p_p10 p_f10 p_p11 p_f11 p_p12 p_f12 q_p0 q_f0 q_p1 q_f1 q_p2 q_f2 q_p3 q_f3 q_p4 q_f4 q_p5 q_f5 q_p6 q_f6 q_p7 q_f7 q_p8 q_f8 q_p9 q_f9 q_p10 q_f10 q_p11 q_f11 q_p12 q_f12
  replace p := p.ext hE6
  replace q := q.ext hE6
  have hX7 := hX6.trans hE6
  have hW6 : Ext w6 (w6.alloc (.cells #[.int .i64 a, .int .i64 b, .int .i64 c, .int .i64 0, .int .i64 0, .int .i64 0, .int .i64 0, .slice none 0 0, .slice none 0 0, .slice none 0 0, .slice none 0 0, .int .i64 0, .int .i64 0] 71)) := by repeat' (first | with_reducible exact Ext.refl _ | with_reducible assumption | with_reducible refine Ext.set ?_ ?_ _ _ | with_reducible refine Ext.alloc ?_ _ | with_reducible refine Ext.drew ?_ | with_reducible refine Ext.drewN ?_ _ | with_reducible refine Ext.trans ?_ (by with_reducible assumption) | omega | (simp; done) | (simp; omega))
  have zW6 : w6.heap.size + 1 ≤ (w6.alloc (.cells #[.int .i64 a, .int .i64 b, .int .i64 c, .int .i64 0, .int .i64 0, .int .i64 0, .int .i64 0, .slice none 0 0, .slice none 0 0, .slice none 0 0, .slice none 0 0, .int .i64 0, .int .i64 0] 71)).heap.size := by simp
  have r : Blk (w6.alloc (.cells #[.int .i64 a, .int .i64 b, .int .i64 c, .int .i64 0, .int .i64 0, .int .i64 0, .int .i64 0, .slice none 0 0, .slice none 0 0, .slice none 0 0, .slice none 0 0, .int .i64 0, .int .i64 0] 71)) w6.heap.size 71 [.int .i64 a, .int .i64 b, .int .i64 c, .int .i64 0, .int .i64 0, .int .i64 0, .int .i64 0, .slice none 0 0, .slice none 0 0, .slice none 0 0, .slice none 0 0, .int .i64 0, .int .i64 0] := (Blk.new w6 #[.int .i64 a, .int .i64 b, .int .i64 c, .int .i64 0, .int .i64 0, .int .i64 0, .int .i64 0, .slice none 0 0, .slice none 0 0, .slice none 0 0, .slice none 0 0, .int .i64 0, .int .i64 0] 71 (by first | rfl | simp))
  replace p := p.ext hW6
  replace q := q.ext hW6
  go_upto_region 14 with (fail)
  generalize (w6.alloc (.cells #[.int .i64 a, .int .i64 b, .int .i64 c, .int .i64 0, .int .i64 0, .int .i64 0, .int .i64 0, .slice none 0 0, .slice none 0 0, .slice none 0 0, .slice none 0 0, .int .i64 0, .int .i64 0] 71)) = W6 at *
  have hX8 := hX7.trans hW6
  clear hE6 hW6 ht
  obtain ⟨p_p0, p_f0⟩ := p.at 0 _ rfl
  obtain ⟨p_p1, p_f1⟩ := p.at 1 _ rfl
  obtain ⟨p_p2, p_f2⟩ := p.at 2 _ rfl
  obtain ⟨p_p3, p_f3⟩ := p.at 3 _ rfl
  obtain ⟨p_p4, p_f4⟩ := p.at 4 _ rfl
  obtain ⟨p_p5, p_f5⟩ := p.at 5 _ rfl
  obtain ⟨p_p6, p_f6⟩ := p.at 6 _ rfl
  obtain ⟨p_p7, p_f7⟩ := p.at 7 _ rfl
  obtain ⟨p_p8, p_f8⟩ := p.at 8 _ rfl
  obtain ⟨p_p9, p_f9⟩ := p.at 9 _ rfl
  obtain ⟨p_p10, p_f10⟩ := p.at 10 _ rfl
  obtain ⟨p_p11, p_f11⟩ := p.at 11 _ rfl
  obtain ⟨p_p12, p_f12⟩ := p.at 12 _ rfl
  obtain ⟨q_p0, q_f0⟩ := q.at 0 _ rfl
  obtain ⟨q_p1, q_f1⟩ := q.at 1 _ rfl
  obtain ⟨q_p2, q_f2⟩ := q.at 2 _ rfl
  obtain ⟨q_p3, q_f3⟩ := q.at 3 _ rfl
  obtain ⟨q_p4, q_f4⟩ := q.at 4 _ rfl
  obtain ⟨q_p5, q_f5⟩ := q.at 5 _ rfl
  obtain ⟨q_p6, q_f6⟩ := q.at 6 _ rfl
  obtain ⟨q_p7, q_f7⟩ := q.at 7 _ rfl
  obtain ⟨q_p8, q_f8⟩ := q.at 8 _ rfl
  obtain ⟨q_p9, q_f9⟩ := q.at 9 _ rfl
  obtain ⟨q_p10, q_f10⟩ := q.at 10 _ rfl
  obtain ⟨q_p11, q_f11⟩ := q.at 11 _ rfl
  obtain ⟨q_p12, q_f12⟩ := q.at 12 _ rfl
  obtain ⟨r_p0, r_f0⟩ := r.at 0 _ rfl
  obtain ⟨r_p1, r_f1⟩ := r.at 1 _ rfl
  obtain ⟨r_p2, r_f2⟩ := r.at 2 _ rfl
  obtain ⟨r_p3, r_f3⟩ := r.at 3 _ rfl
  obtain ⟨r_p4, r_f4⟩ := r.at 4 _ rfl
  obtain ⟨r_p5, r_f5⟩ := r.at 5 _ rfl
  obtain ⟨r_p6, r_f6⟩ := r.at 6 _ rfl
  obtain ⟨r_p7, r_f7⟩ := r.at 7 _ rfl
  obtain ⟨r_p8, r_f8⟩ := r.at 8 _ rfl
  obtain ⟨r_p9, r_f9⟩ := r.at 9 _ rfl
  obtain ⟨r_p10, r_f10⟩ := r.at 10 _ rfl
  obtain ⟨r_p11, r_f11⟩ := r.at 11 _ rfl
  obtain ⟨r_p12, r_f12⟩ := r.at 12 _ rfl
  go_wp2_with fail
  refine (eqReplica_z a b c _).mono ?_
  rintro e w7 ⟨rfl, hE7⟩
  clear p_p0 p_f0 p_p1 p_f1 p_p2 p_f2 p_p3 p_f3 p_p4 p_f4 p_p5 p_f5 p_p6 p_f6 p_p7 p_f7 p_p8 p_f8 p_p9 p_f9 p_p10 p_f10 p_p11 p_f11 p_p12 p_f12 q_p0 q_f0 q_p1 q_f1 q_p2 q_f2 q_p3 q_f3 q_p4 q_f4 q_p5 q_f5 q_p6 q_f6 q_p7 q_f7 q_p8 q_f8 q_p9 q_f9 q_p10 q_f10 q_p11 q_f11 q_p12 q_f12
  replace p := p.ext hE7
  replace q := q.ext hE7
  obtain ⟨p_p0, p_f0⟩ := p.at 0 _ rfl
  obtain ⟨p_p1, p_f1⟩ := p.at 1 _ rfl
  obtain ⟨p_p2, p_f2⟩ := p.at 2 _ rfl
  obtain ⟨p_p3, p_f3⟩ := p.at 3 _ rfl
  obtain ⟨p_p4, p_f4⟩ := p.at 4 _ rfl
  obtain ⟨p_p5, p_f5⟩ := p.at 5 _ rfl
  obtain ⟨p_p6, p_f6⟩ := p.at 6 _ rfl
  obtain ⟨p_p7, p_f7⟩ := p.at 7 _ rfl
  obtain ⟨p_p8, p_f8⟩ := p.at 8 _ rfl
  obtain ⟨p_p9, p_f9⟩ := p.at 9 _ rfl
  obtain ⟨p_p10, p_f10⟩ := p.at 10 _ rfl
  obtain ⟨p_p11, p_f11⟩ := p.at 11 _ rfl
  obtain ⟨p_p12, p_f12⟩ := p.at 12 _ rfl
  obtain ⟨q_p0, q_f0⟩ := q.at 0 _ rfl
  obtain ⟨q_p1, q_f1⟩ := q.at 1 _ rfl
  obtain ⟨q_p2, q_f2⟩ := q.at 2 _ rfl
  obtain ⟨q_p3, q_f3⟩ := q.at 3 _ rfl
  obtain ⟨q_p4, q_f4⟩ := q.at 4 _ rfl
  obtain ⟨q_p5, q_f5⟩ := q.at 5 _ rfl
  obtain ⟨q_p6, q_f6⟩ := q.at 6 _ rfl
  obtain ⟨q_p7, q_f7⟩ := q.at 7 _ rfl
  obtain ⟨q_p8, q_f8⟩ := q.at 8 _ rfl
  obtain ⟨q_p9, q_f9⟩ := q.at 9 _ rfl
  obtain ⟨q_p10, q_f10⟩ := q.at 10 _ rfl
  obtain ⟨q_p11, q_f11⟩ := q.at 11 _ rfl
  obtain ⟨q_p12, q_f12⟩ := q.at 12 _ rfl
  have hX9 := hX8.trans hE7
  clear hE7
  go_wp2_with fail
  refine (heldReplica_z a b c 1 _ (by omega) (by omega)).mono ?_
  rintro e w8 ⟨rfl, hE8⟩
  have hX10 := hX9.trans hE8
  go_wp2
  go_ret
  exact ⟨rfl, hX10⟩

set_option maxRecDepth 100000 in
theorem lifted (os : Os) (started : os.Started) (H : Type) (enc : TypeId × Value → H) :
    ReturnsInHanded {} Try.checked os 8 .any (Rows.fnExactNewReplicaSpec.pre6 enc Try.prog Try.f8 Rows.fnExactNewReplicaRow.domain false) (Rows.fnExactNewReplicaSpec.post enc Try.prog Try.f8 false true false false) := by
  refine returnsInHanded_of_change (C := Try.checked) own started (by kernel_rfl) Try.func8
    (ChangeSpec.witness6 (enc := enc) (C := Try.checked) false ⟨#[], #[.int .i64 0, .int .i64 0], []⟩ 8 (by kernel_rfl) (by kernel_rfl) (by kernel_rfl) (by kernel_rfl)) ?_
  intro W base args ds gs before hval0 hW hcnd _
  have hval : ∀ (j : Nat) t v, Try.f8.params[j]? = some t → args[j]? = some v → Value.okWide Try.prog W .any base t v := hval0
  have hW' := hW
  obtain ⟨p, q, hA0, hV, rfl, hfz, hnd⟩ := hW
  have hA : DataW.TrodAll enc Try.prog W 0 (fun _ => true) true Try.f8.params.toList args.toList ds p := hA0
  rw [Try.params8] at hA hval
  obtain ⟨vv0, vs0, dd0, ds0, pp0, qq0, hargs, rfl, rfl, ht0, rr0⟩ := trodAll_cons hA
  obtain ⟨vv1, vs1, dd1, ds1, pp1, qq1, rfl, rfl, rfl, ht1, rr1⟩ := trodAll_cons rr0
  obtain ⟨rfl, rfl, rfl⟩ := trodAll_nil rr1
  obtain rfl : args = #[vv0, vv1] := by cases args; simp_all
  obtain ⟨rfl, rfl⟩ := trodVars_none hV
  have trd0 := ht0
  have lts0 : ∀ x ∈ pp0, x.block < W.heap.size := by obtain ⟨m, hm⟩ := trd0; exact DataW.trod_lt m _ _ _ hm
  obtain ⟨a0, rfl, f0⟩ := open_int_arg (hval 0 3 vv0 rfl rfl) ht0
  have trd1 := ht1
  have lts1 : ∀ x ∈ pp1, x.block < W.heap.size := by obtain ⟨m, hm⟩ := trd1; exact DataW.trod_lt m _ _ _ hm
  obtain ⟨a1, rfl, f1⟩ := open_int_arg (hval 1 3 vv1 rfl rfl) ht1
  clear hA0 hval0
  refine (walk a0  a1  W f0 f1).mono fun e W' ⟨he, bel⟩ => ?_
  subst he
  exact ⟨_, rfl, _, _, _, [], _, [], hW', trodAll_mk1 (shut_bool Try.underlying4 _), (trodAll_cons_mk (Below.trod laidOut (by kernel_rfl) (of_decide_eq_true (by kernel_rfl)) trd0 bel lts0) (trodAll_cons_mk (Below.trod laidOut (by kernel_rfl) (of_decide_eq_true (by kernel_rfl)) trd1 bel lts1) trodAll_mk0)), rfl, Below.frame bel _, fun h => by cases h⟩

theorem over : Rows.fnExactNewReplicaRow.holds Try.pinned (OpenSpec.ofChange Rows.fnExactNewReplicaSpec) :=
  OpenClaim.holds_of_wide 8 Try.f8 rfl rfl rfl rfl rfl rfl rfl ⟨rfl, rfl, rfl, rfl, rfl⟩ rfl rfl rfl rfl rfl (by as_aux_lemma => kernel_rfl) Try.func8 (by as_aux_lemma => kernel_rfl)
    (of_decide_eq_true (by as_aux_lemma => kernel_rfl)) (by as_aux_lemma => unfold Func.isWrapper; first | (rw [if_pos (by decide +kernel)]; kernel_rfl) | (rw [if_neg (by decide +kernel)]; exact ⟨rfl, rfl⟩))
    (fun os started H enc _ => lifted os started H enc)

theorem proved : Rows.FnExactNewReplicaSaid := over
#print axioms proved
end Go.Proofs.Ytbfbdhjeoknjkaa.fnExactNewReplica
