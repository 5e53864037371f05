/-
  FnExactSameLog returns true for every input: the program's SameLog returns what the reference's does, leaves its arguments alone, and returns memory of its own.
  Conditions: none: for every argument, in whatever memory.
-/
import Derived.Test.YtocmcfilldfdlaaOpen
import Derived.Test.YtocmcfilldfdlaaSameLog
import Derived.Test.YtocmcfilldfdlaaLog
namespace Go.Proofs.Ytocmcfilldfdlaa.fnExactSameLog
open Go.ChangeShapes Go.WideShapes Go.ChangeAt Go.RowKit
set_option linter.unusedVariables false
set_option maxRecDepth 1000000

set_option maxRecDepth 100000 in
set_option maxHeartbeats 2000000 in
theorem walk (vv0 : Value) (l0 : LogD) (vv1 : Value) (l1 : LogD) (w : World) (r0 : R_Log w w.heap.size vv0 l0) (g0 : FitsL l0) (r1 : R_Log w w.heap.size vv1 l1) (g1 : FitsL l1) :
    Calls Try.prog 3 #[vv0, vv1] w fun e w' => e = .returned (.bool true) ∧ Ext w w' := by
  by_cases hbig0 : szL l0 ≤ 1048576
  · skip
    by_cases hbig1 : szL l0 + szL l1 ≤ 1048576
    · skip
      have hbig := hbig1
      obtain ⟨u0, s0, t0, hv0, -⟩ := id r0
      subst hv0
      obtain ⟨u1, s1, t1, hv1, -⟩ := id r1
      subst hv1
      go_enter Try.func3, Try.ntmps3
      go_wp2_with fail
      refine (szLog_ok _ _ _ _ _ (by exact r0.keep (keepE' (by repeat' (first | with_reducible exact Ext.refl _ | with_reducible assumption | with_reducible refine Ext.set ?_ ?_ _ _ | with_reducible refine Ext.alloc ?_ _ | with_reducible refine Ext.drew ?_ | with_reducible refine Ext.drewN ?_ _ | with_reducible refine Ext.trans ?_ (by with_reducible assumption) | omega | (simp; done) | (simp; omega))) (Nat.le_refl _))) (by first | omega | (simp; done) | (simp; omega)) (by omega) (by omega)).mono ?_
      rintro e1 w1 ⟨rfl, hb1⟩
      have hk1 : Ext w w1 := by repeat' (first | with_reducible exact Ext.refl _ | with_reducible assumption | with_reducible refine Ext.set ?_ ?_ _ _ | with_reducible refine Ext.alloc ?_ _ | with_reducible refine Ext.drew ?_ | with_reducible refine Ext.drewN ?_ _ | with_reducible refine Ext.trans ?_ (by with_reducible assumption) | omega | (simp; done) | (simp; omega))
      have q0_0 : w1.cell? ⟨w.heap.size, 0, none⟩ = some (.int .i64 l0.base) := hb1.cellAt (Ext.cellAt ((Ext.refl _).alloc _) (new_box _ _ #[.int .i64 l0.base, u0, s0, t0] _ 0 _ (by simp) rfl))
      have q0_1 : w1.cell? ⟨w.heap.size, 1, none⟩ = some u0 := hb1.cellAt (Ext.cellAt ((Ext.refl _).alloc _) (new_box _ _ #[.int .i64 l0.base, u0, s0, t0] _ 1 _ (by simp) rfl))
      have q0_2 : w1.cell? ⟨w.heap.size, 2, none⟩ = some s0 := hb1.cellAt (Ext.cellAt ((Ext.refl _).alloc _) (new_box _ _ #[.int .i64 l0.base, u0, s0, t0] _ 2 _ (by simp) rfl))
      have q0_3 : w1.cell? ⟨w.heap.size, 3, none⟩ = some t0 := hb1.cellAt (Ext.cellAt ((Ext.refl _).alloc _) (new_box _ _ #[.int .i64 l0.base, u0, s0, t0] _ 3 _ (by simp) rfl))
      have q1_0 : w1.cell? ⟨w.heap.size + 1, 0, none⟩ = some (.int .i64 l1.base) := hb1.cellAt (new_box _ _ #[.int .i64 l1.base, u1, s1, t1] _ 0 _ (by simp) rfl)
      have q1_1 : w1.cell? ⟨w.heap.size + 1, 1, none⟩ = some u1 := hb1.cellAt (new_box _ _ #[.int .i64 l1.base, u1, s1, t1] _ 1 _ (by simp) rfl)
      have q1_2 : w1.cell? ⟨w.heap.size + 1, 2, none⟩ = some s1 := hb1.cellAt (new_box _ _ #[.int .i64 l1.base, u1, s1, t1] _ 2 _ (by simp) rfl)
      have q1_3 : w1.cell? ⟨w.heap.size + 1, 3, none⟩ = some t1 := hb1.cellAt (new_box _ _ #[.int .i64 l1.base, u1, s1, t1] _ 3 _ (by simp) rfl)
      have z1 := hk1.size
      have hB1 := hk1
      clear hk1
      have hE1 : Ext w w1 := hB1
      clear hb1
      go_wp2_with fail
      refine (szLog_ok _ _ _ _ _ (by exact r1.keep (keepE' (by repeat' (first | with_reducible exact Ext.refl _ | with_reducible assumption | with_reducible refine Ext.set ?_ ?_ _ _ | with_reducible refine Ext.alloc ?_ _ | with_reducible refine Ext.drew ?_ | with_reducible refine Ext.drewN ?_ _ | with_reducible refine Ext.trans ?_ (by with_reducible assumption) | omega | (simp; done) | (simp; omega))) (Nat.le_refl _))) (by first | omega | (simp; done) | (simp; omega)) (by omega) (by omega)).mono ?_
      rintro e2 w2 ⟨rfl, hb2⟩
      have hk2 : Ext w1 w2 := by repeat' (first | with_reducible exact Ext.refl _ | with_reducible assumption | with_reducible refine Ext.set ?_ ?_ _ _ | with_reducible refine Ext.alloc ?_ _ | with_reducible refine Ext.drew ?_ | with_reducible refine Ext.drewN ?_ _ | with_reducible refine Ext.trans ?_ (by with_reducible assumption) | omega | (simp; done) | (simp; omega))
      replace q0_0 := hk2.cellAt q0_0
      replace q0_1 := hk2.cellAt q0_1
      replace q0_2 := hk2.cellAt q0_2
      replace q0_3 := hk2.cellAt q0_3
      replace q1_0 := hk2.cellAt q1_0
      replace q1_1 := hk2.cellAt q1_1
      replace q1_2 := hk2.cellAt q1_2
      replace q1_3 := hk2.cellAt q1_3
      have z2 := hk2.size
      have hB2 := hB1.trans hk2
      clear hk2
      have hE2 : Ext w w2 := hB2
      clear hb2
      go_wp2_with fail
      go_region_held3 (fun w' => w'.cell? ⟨w.heap.size, 0, none⟩ = some (.int .i64 l0.base) ∧ w'.cell? ⟨w.heap.size, 1, none⟩ = some (u0) ∧ w'.cell? ⟨w.heap.size, 2, none⟩ = some (s0) ∧ w'.cell? ⟨w.heap.size, 3, none⟩ = some (t0) ∧ w'.cell? ⟨w.heap.size + 1, 0, none⟩ = some (.int .i64 l1.base) ∧ w'.cell? ⟨w.heap.size + 1, 1, none⟩ = some (u1) ∧ w'.cell? ⟨w.heap.size + 1, 2, none⟩ = some (s1) ∧ w'.cell? ⟨w.heap.size + 1, 3, none⟩ = some (t1)) (exact ⟨q0_0, q0_1, q0_2, q0_3, q1_0, q1_1, q1_2, q1_3⟩)
        (first
          | (go_at_call 12; refine (sameLog_s _ _ _ _ _ _ _ (by exact ox0.rd.keep (keepE' (by first | exact Ext.refl _ | exact (Ext.refl _).drew | exact (Ext.refl _).drewN _) (by first | omega | (simp; done) | (simp; omega)))) (by first | omega | (simp; done) | (simp; omega)) (by exact ox1.rd.keep (keepE' (by first | exact Ext.refl _ | exact (Ext.refl _).drew | exact (Ext.refl _).drewN _) (by first | omega | (simp; done) | (simp; omega)))) (by first | omega | (simp; done) | (simp; omega))).mono ?_; rintro e5 w5 ⟨rfl, hb5⟩; have hk5 : Ext w4 w5 := (by first | exact hb5 | exact ((Ext.refl _).drew).trans hb5 | exact ((Ext.refl _).drewN _).trans hb5); replace q0_0 := hk5.cellAt q0_0; replace q0_1 := hk5.cellAt q0_1; replace q0_2 := hk5.cellAt q0_2; replace q0_3 := hk5.cellAt q0_3; replace q1_0 := hk5.cellAt q1_0; replace q1_1 := hk5.cellAt q1_1; replace q1_2 := hk5.cellAt q1_2; replace q1_3 := hk5.cellAt q1_3; have z5 := hk5.size; replace ox0 := ox0.keep (keepE hk5 (by omega)); replace ox1 := ox1.keep (keepE hk5 (by omega)); have hB5 := hB4.trans hk5; clear hk5; have hE5 : Ext w w5 := hB5; clear hb5)
          | (go_at_call 13; refine (toLog_v _ _ _ _ (by exact r1.keep (keepE' (by first | exact hB3 | exact hB3.drew | exact hB3.drewN _) (Nat.le_refl _))) (by first | omega | (simp; done) | (simp; omega)) (by omega)).mono ?_; rintro e4 w4 ⟨vx1, rfl, ox1, hb4⟩; have hk4 : Ext w3 w4 := (by first | exact hb4 | exact ((Ext.refl _).drew).trans hb4 | exact ((Ext.refl _).drewN _).trans hb4); replace q0_0 := hk4.cellAt q0_0; replace q0_1 := hk4.cellAt q0_1; replace q0_2 := hk4.cellAt q0_2; replace q0_3 := hk4.cellAt q0_3; replace q1_0 := hk4.cellAt q1_0; replace q1_1 := hk4.cellAt q1_1; replace q1_2 := hk4.cellAt q1_2; replace q1_3 := hk4.cellAt q1_3; have z4 := hk4.size; replace ox0 := ox0.keep (keepE hk4 (by omega)); have hB4 := hB3.trans hk4; clear hk4; have hE4 : Ext w w4 := hB4; clear hb4; obtain ⟨vx1u, vx1s, vx1t, hvx1, ⟨vx1A, vx1n, vx1c, hvx1a, -⟩, ⟨vx1B, vx1m, vx1d, hvx1b, -⟩, ⟨vx1C, vx1k, vx1e, hvx1t, -⟩⟩ := id ox1; subst hvx1a hvx1b hvx1t hvx1)
          | (go_at_call 13; refine (toLog_v _ _ _ _ (by exact r0.keep (keepE' (by first | exact hB2 | exact hB2.drew | exact hB2.drewN _) (Nat.le_refl _))) (by first | omega | (simp; done) | (simp; omega)) (by omega)).mono ?_; rintro e3 w3 ⟨vx0, rfl, ox0, hb3⟩; have hk3 : Ext w2 w3 := (by first | exact hb3 | exact ((Ext.refl _).drew).trans hb3 | exact ((Ext.refl _).drewN _).trans hb3); replace q0_0 := hk3.cellAt q0_0; replace q0_1 := hk3.cellAt q0_1; replace q0_2 := hk3.cellAt q0_2; replace q0_3 := hk3.cellAt q0_3; replace q1_0 := hk3.cellAt q1_0; replace q1_1 := hk3.cellAt q1_1; replace q1_2 := hk3.cellAt q1_2; replace q1_3 := hk3.cellAt q1_3; have z3 := hk3.size; have hB3 := hB2.trans hk3; clear hk3; have hE3 : Ext w w3 := hB3; clear hb3; obtain ⟨vx0u, vx0s, vx0t, hvx0, ⟨vx0A, vx0n, vx0c, hvx0a, -⟩, ⟨vx0B, vx0m, vx0d, hvx0b, -⟩, ⟨vx0C, vx0k, vx0e, hvx0t, -⟩⟩ := id ox0; subst hvx0a hvx0b hvx0t hvx0))
      clear ox0
      clear ox1
      go_wp2_with fail
      refine (toLog_v _ _ _ _ (by exact r0.keep (keepE' (by repeat' (first | with_reducible exact Ext.refl _ | with_reducible assumption | with_reducible refine Ext.set ?_ ?_ _ _ | with_reducible refine Ext.alloc ?_ _ | with_reducible refine Ext.drew ?_ | with_reducible refine Ext.drewN ?_ _ | with_reducible refine Ext.trans ?_ (by with_reducible assumption) | omega | (simp; done) | (simp; omega))) (Nat.le_refl _))) (by first | omega | (simp; done) | (simp; omega)) (by omega)).mono ?_
      rintro e6 w6 ⟨vx2, rfl, ox2, hb6⟩
      have hk6 : Ext w5 w6 := by repeat' (first | with_reducible exact Ext.refl _ | with_reducible assumption | with_reducible refine Ext.set ?_ ?_ _ _ | with_reducible refine Ext.alloc ?_ _ | with_reducible refine Ext.drew ?_ | with_reducible refine Ext.drewN ?_ _ | with_reducible refine Ext.trans ?_ (by with_reducible assumption) | omega | (simp; done) | (simp; omega))
      replace q0_0 := hk6.cellAt q0_0
      replace q0_1 := hk6.cellAt q0_1
      replace q0_2 := hk6.cellAt q0_2
      replace q0_3 := hk6.cellAt q0_3
      replace q1_0 := hk6.cellAt q1_0
      replace q1_1 := hk6.cellAt q1_1
      replace q1_2 := hk6.cellAt q1_2
      replace q1_3 := hk6.cellAt q1_3
      have z6 := hk6.size
      have hB6 := hB5.trans hk6
      clear hk6
      have hE6 : Ext w w6 := hB6
      clear hb6
      obtain ⟨vx2u, vx2s, vx2t, hvx2, ⟨vx2A, vx2n, vx2c, hvx2a, -⟩, ⟨vx2B, vx2m, vx2d, hvx2b, -⟩, ⟨vx2C, vx2k, vx2e, hvx2t, -⟩⟩ := id ox2
      subst hvx2a hvx2b hvx2t hvx2
      have zb1 : w.heap.size < w6.heap.size := World.block_lt_of_cell? _ _ q0_0
      have zb2 : w.heap.size + 1 < w6.heap.size := World.block_lt_of_cell? _ _ q1_0
      go_wp2_with fail
      refine (toLog_v _ _ _ _ (by exact r1.keep (keepE' (by repeat' (first | with_reducible exact Ext.refl _ | with_reducible assumption | with_reducible refine Ext.set ?_ ?_ _ _ | with_reducible refine Ext.alloc ?_ _ | with_reducible refine Ext.drew ?_ | with_reducible refine Ext.drewN ?_ _ | with_reducible refine Ext.trans ?_ (by with_reducible assumption) | omega | (simp; done) | (simp; omega))) (Nat.le_refl _))) (by first | omega | (simp; done) | (simp; omega)) (by omega)).mono ?_
      rintro e7 w7 ⟨vx3, rfl, ox3, hb7⟩
      have hk7 : Ext w6 w7 := by repeat' (first | with_reducible exact Ext.refl _ | with_reducible assumption | with_reducible refine Ext.set ?_ ?_ _ _ | with_reducible refine Ext.alloc ?_ _ | with_reducible refine Ext.drew ?_ | with_reducible refine Ext.drewN ?_ _ | with_reducible refine Ext.trans ?_ (by with_reducible assumption) | omega | (simp; done) | (simp; omega))
      have q2_0 : w7.cell? ⟨w6.heap.size, 0, none⟩ = some (.int .i64 (l0).base) := hb7.cellAt (new_box _ _ #[.int .i64 (l0).base, .slice vx2A vx2n vx2c, .slice vx2B vx2m vx2d, .slice vx2C vx2k vx2e] _ 0 _ (by simp) rfl)
      have q2_1 : w7.cell? ⟨w6.heap.size, 1, none⟩ = some (.slice vx2A vx2n vx2c) := hb7.cellAt (new_box _ _ #[.int .i64 (l0).base, .slice vx2A vx2n vx2c, .slice vx2B vx2m vx2d, .slice vx2C vx2k vx2e] _ 1 _ (by simp) rfl)
      have q2_2 : w7.cell? ⟨w6.heap.size, 2, none⟩ = some (.slice vx2B vx2m vx2d) := hb7.cellAt (new_box _ _ #[.int .i64 (l0).base, .slice vx2A vx2n vx2c, .slice vx2B vx2m vx2d, .slice vx2C vx2k vx2e] _ 2 _ (by simp) rfl)
      have q2_3 : w7.cell? ⟨w6.heap.size, 3, none⟩ = some (.slice vx2C vx2k vx2e) := hb7.cellAt (new_box _ _ #[.int .i64 (l0).base, .slice vx2A vx2n vx2c, .slice vx2B vx2m vx2d, .slice vx2C vx2k vx2e] _ 3 _ (by simp) rfl)
      replace q0_0 := hk7.cellAt q0_0
      replace q0_1 := hk7.cellAt q0_1
      replace q0_2 := hk7.cellAt q0_2
      replace q0_3 := hk7.cellAt q0_3
      replace q1_0 := hk7.cellAt q1_0
      replace q1_1 := hk7.cellAt q1_1
      replace q1_2 := hk7.cellAt q1_2
      replace q1_3 := hk7.cellAt q1_3
      have z7 := hk7.size
      replace ox2 := ox2.keep (keepE hk7 (by omega))
      have hB7 := hB6.trans hk7
      clear hk7
      have hE7 : Ext w w7 := hB7
      clear hb7
      obtain ⟨vx3u, vx3s, vx3t, hvx3, ⟨vx3A, vx3n, vx3c, hvx3a, -⟩, ⟨vx3B, vx3m, vx3d, hvx3b, -⟩, ⟨vx3C, vx3k, vx3e, hvx3t, -⟩⟩ := id ox3
      subst hvx3a hvx3b hvx3t hvx3
      have zb3 : w.heap.size < w7.heap.size := World.block_lt_of_cell? _ _ q0_0
      have zb4 : w.heap.size + 1 < w7.heap.size := World.block_lt_of_cell? _ _ q1_0
      have zb5 : w6.heap.size < w7.heap.size := World.block_lt_of_cell? _ _ q2_0
      go_wp2_with fail
      refine (sameLog_i _ _ _ _ _ _ _ (by exact ox2.rd.keep (keepE' (by repeat' (first | with_reducible exact Ext.refl _ | with_reducible assumption | with_reducible refine Ext.set ?_ ?_ _ _ | with_reducible refine Ext.alloc ?_ _ | with_reducible refine Ext.drew ?_ | with_reducible refine Ext.drewN ?_ _ | with_reducible refine Ext.trans ?_ (by with_reducible assumption) | omega | (simp; done) | (simp; omega))) (by first | omega | (simp; done) | (simp; omega)))) (by first | omega | (simp; done) | (simp; omega)) (by exact ox3.rd.keep (keepE' (by repeat' (first | with_reducible exact Ext.refl _ | with_reducible assumption | with_reducible refine Ext.set ?_ ?_ _ _ | with_reducible refine Ext.alloc ?_ _ | with_reducible refine Ext.drew ?_ | with_reducible refine Ext.drewN ?_ _ | with_reducible refine Ext.trans ?_ (by with_reducible assumption) | omega | (simp; done) | (simp; omega))) (by first | omega | (simp; done) | (simp; omega)))) (by first | omega | (simp; done) | (simp; omega))).mono ?_
      rintro e8 w8 ⟨rfl, hb8⟩
      have hk8 : Ext w7 w8 := by repeat' (first | with_reducible exact Ext.refl _ | with_reducible assumption | with_reducible refine Ext.set ?_ ?_ _ _ | with_reducible refine Ext.alloc ?_ _ | with_reducible refine Ext.drew ?_ | with_reducible refine Ext.drewN ?_ _ | with_reducible refine Ext.trans ?_ (by with_reducible assumption) | omega | (simp; done) | (simp; omega))
      have q3_0 : w8.cell? ⟨w7.heap.size, 0, none⟩ = some (.int .i64 (l1).base) := hb8.cellAt (new_box _ _ #[.int .i64 (l1).base, .slice vx3A vx3n vx3c, .slice vx3B vx3m vx3d, .slice vx3C vx3k vx3e] _ 0 _ (by simp) rfl)
      have q3_1 : w8.cell? ⟨w7.heap.size, 1, none⟩ = some (.slice vx3A vx3n vx3c) := hb8.cellAt (new_box _ _ #[.int .i64 (l1).base, .slice vx3A vx3n vx3c, .slice vx3B vx3m vx3d, .slice vx3C vx3k vx3e] _ 1 _ (by simp) rfl)
      have q3_2 : w8.cell? ⟨w7.heap.size, 2, none⟩ = some (.slice vx3B vx3m vx3d) := hb8.cellAt (new_box _ _ #[.int .i64 (l1).base, .slice vx3A vx3n vx3c, .slice vx3B vx3m vx3d, .slice vx3C vx3k vx3e] _ 2 _ (by simp) rfl)
      have q3_3 : w8.cell? ⟨w7.heap.size, 3, none⟩ = some (.slice vx3C vx3k vx3e) := hb8.cellAt (new_box _ _ #[.int .i64 (l1).base, .slice vx3A vx3n vx3c, .slice vx3B vx3m vx3d, .slice vx3C vx3k vx3e] _ 3 _ (by simp) rfl)
      replace q0_0 := hk8.cellAt q0_0
      replace q0_1 := hk8.cellAt q0_1
      replace q0_2 := hk8.cellAt q0_2
      replace q0_3 := hk8.cellAt q0_3
      replace q1_0 := hk8.cellAt q1_0
      replace q1_1 := hk8.cellAt q1_1
      replace q1_2 := hk8.cellAt q1_2
      replace q1_3 := hk8.cellAt q1_3
      replace q2_0 := hk8.cellAt q2_0
      replace q2_1 := hk8.cellAt q2_1
      replace q2_2 := hk8.cellAt q2_2
      replace q2_3 := hk8.cellAt q2_3
      have z8 := hk8.size
      replace ox2 := ox2.keep (keepE hk8 (by omega))
      replace ox3 := ox3.keep (keepE hk8 (by omega))
      have hB8 := hB7.trans hk8
      clear hk8
      have hE8 : Ext w w8 := hB8
      clear hb8
      go_wp2_with fail
      go_region_held3 (fun w' => w'.cell? ⟨w.heap.size, 0, none⟩ = some (.int .i64 l0.base) ∧ w'.cell? ⟨w.heap.size, 1, none⟩ = some (u0) ∧ w'.cell? ⟨w.heap.size, 2, none⟩ = some (s0) ∧ w'.cell? ⟨w.heap.size, 3, none⟩ = some (t0) ∧ w'.cell? ⟨w.heap.size + 1, 0, none⟩ = some (.int .i64 l1.base) ∧ w'.cell? ⟨w.heap.size + 1, 1, none⟩ = some (u1) ∧ w'.cell? ⟨w.heap.size + 1, 2, none⟩ = some (s1) ∧ w'.cell? ⟨w.heap.size + 1, 3, none⟩ = some (t1) ∧ w'.cell? ⟨w6.heap.size, 0, none⟩ = some (.int .i64 (l0).base) ∧ w'.cell? ⟨w6.heap.size, 1, none⟩ = some (.slice vx2A vx2n vx2c) ∧ w'.cell? ⟨w6.heap.size, 2, none⟩ = some (.slice vx2B vx2m vx2d) ∧ w'.cell? ⟨w6.heap.size, 3, none⟩ = some (.slice vx2C vx2k vx2e) ∧ w'.cell? ⟨w7.heap.size, 0, none⟩ = some (.int .i64 (l1).base) ∧ w'.cell? ⟨w7.heap.size, 1, none⟩ = some (.slice vx3A vx3n vx3c) ∧ w'.cell? ⟨w7.heap.size, 2, none⟩ = some (.slice vx3B vx3m vx3d) ∧ w'.cell? ⟨w7.heap.size, 3, none⟩ = some (.slice vx3C vx3k vx3e)) (exact ⟨q0_0, q0_1, q0_2, q0_3, q1_0, q1_1, q1_2, q1_3, q2_0, q2_1, q2_2, q2_3, q3_0, q3_1, q3_2, q3_3⟩)
        (first
          | (go_at_call 15; refine (eqLog_v _ _ _ _ _ _ _ (by exact ox2.rd.keep (keepE' (by first | exact Ext.refl _ | exact (Ext.refl _).drew | exact (Ext.refl _).drewN _) (by first | omega | (simp; done) | (simp; omega)))) (by first | omega | (simp; done) | (simp; omega)) (by exact ox4.rd.keep (keepE' (by first | exact Ext.refl _ | exact (Ext.refl _).drew | exact (Ext.refl _).drewN _) (by first | omega | (simp; done) | (simp; omega)))) (by first | omega | (simp; done) | (simp; omega))).mono ?_; rintro e10 w10 ⟨rfl, hb10⟩; have hk10 : Ext w9 w10 := (by first | exact hb10 | exact ((Ext.refl _).drew).trans hb10 | exact ((Ext.refl _).drewN _).trans hb10); replace q0_0 := hk10.cellAt q0_0; replace q0_1 := hk10.cellAt q0_1; replace q0_2 := hk10.cellAt q0_2; replace q0_3 := hk10.cellAt q0_3; replace q1_0 := hk10.cellAt q1_0; replace q1_1 := hk10.cellAt q1_1; replace q1_2 := hk10.cellAt q1_2; replace q1_3 := hk10.cellAt q1_3; replace q2_0 := hk10.cellAt q2_0; replace q2_1 := hk10.cellAt q2_1; replace q2_2 := hk10.cellAt q2_2; replace q2_3 := hk10.cellAt q2_3; replace q3_0 := hk10.cellAt q3_0; replace q3_1 := hk10.cellAt q3_1; replace q3_2 := hk10.cellAt q3_2; replace q3_3 := hk10.cellAt q3_3; have z10 := hk10.size; replace ox2 := ox2.keep (keepE hk10 (by omega)); replace ox3 := ox3.keep (keepE hk10 (by omega)); replace ox4 := ox4.keep (keepE hk10 (by omega)); have hB10 := hB9.trans hk10; clear hk10; have hE10 : Ext w w10 := hB10; clear hb10; clear ox4)
          | (go_at_call 13; refine (toLog_v _ _ _ _ (by exact r0.keep (keepE' (by first | exact hB8 | exact hB8.drew | exact hB8.drewN _) (Nat.le_refl _))) (by first | omega | (simp; done) | (simp; omega)) (by omega)).mono ?_; rintro e9 w9 ⟨vx4, rfl, ox4, hb9⟩; have hk9 : Ext w8 w9 := (by first | exact hb9 | exact ((Ext.refl _).drew).trans hb9 | exact ((Ext.refl _).drewN _).trans hb9); replace q0_0 := hk9.cellAt q0_0; replace q0_1 := hk9.cellAt q0_1; replace q0_2 := hk9.cellAt q0_2; replace q0_3 := hk9.cellAt q0_3; replace q1_0 := hk9.cellAt q1_0; replace q1_1 := hk9.cellAt q1_1; replace q1_2 := hk9.cellAt q1_2; replace q1_3 := hk9.cellAt q1_3; replace q2_0 := hk9.cellAt q2_0; replace q2_1 := hk9.cellAt q2_1; replace q2_2 := hk9.cellAt q2_2; replace q2_3 := hk9.cellAt q2_3; replace q3_0 := hk9.cellAt q3_0; replace q3_1 := hk9.cellAt q3_1; replace q3_2 := hk9.cellAt q3_2; replace q3_3 := hk9.cellAt q3_3; have z9 := hk9.size; replace ox2 := ox2.keep (keepE hk9 (by omega)); replace ox3 := ox3.keep (keepE hk9 (by omega)); have hB9 := hB8.trans hk9; clear hk9; have hE9 : Ext w w9 := hB9; clear hb9))
      go_wp2_with fail
      go_region_held3 (fun w' => w'.cell? ⟨w.heap.size, 0, none⟩ = some (.int .i64 l0.base) ∧ w'.cell? ⟨w.heap.size, 1, none⟩ = some (u0) ∧ w'.cell? ⟨w.heap.size, 2, none⟩ = some (s0) ∧ w'.cell? ⟨w.heap.size, 3, none⟩ = some (t0) ∧ w'.cell? ⟨w.heap.size + 1, 0, none⟩ = some (.int .i64 l1.base) ∧ w'.cell? ⟨w.heap.size + 1, 1, none⟩ = some (u1) ∧ w'.cell? ⟨w.heap.size + 1, 2, none⟩ = some (s1) ∧ w'.cell? ⟨w.heap.size + 1, 3, none⟩ = some (t1) ∧ w'.cell? ⟨w6.heap.size, 0, none⟩ = some (.int .i64 (l0).base) ∧ w'.cell? ⟨w6.heap.size, 1, none⟩ = some (.slice vx2A vx2n vx2c) ∧ w'.cell? ⟨w6.heap.size, 2, none⟩ = some (.slice vx2B vx2m vx2d) ∧ w'.cell? ⟨w6.heap.size, 3, none⟩ = some (.slice vx2C vx2k vx2e) ∧ w'.cell? ⟨w7.heap.size, 0, none⟩ = some (.int .i64 (l1).base) ∧ w'.cell? ⟨w7.heap.size, 1, none⟩ = some (.slice vx3A vx3n vx3c) ∧ w'.cell? ⟨w7.heap.size, 2, none⟩ = some (.slice vx3B vx3m vx3d) ∧ w'.cell? ⟨w7.heap.size, 3, none⟩ = some (.slice vx3C vx3k vx3e)) (exact ⟨q0_0, q0_1, q0_2, q0_3, q1_0, q1_1, q1_2, q1_3, q2_0, q2_1, q2_2, q2_3, q3_0, q3_1, q3_2, q3_3⟩)
        (first
          | (go_at_call 15; refine (eqLog_v _ _ _ _ _ _ _ (by exact ox3.rd.keep (keepE' (by first | exact Ext.refl _ | exact (Ext.refl _).drew | exact (Ext.refl _).drewN _) (by first | omega | (simp; done) | (simp; omega)))) (by first | omega | (simp; done) | (simp; omega)) (by exact ox5.rd.keep (keepE' (by first | exact Ext.refl _ | exact (Ext.refl _).drew | exact (Ext.refl _).drewN _) (by first | omega | (simp; done) | (simp; omega)))) (by first | omega | (simp; done) | (simp; omega))).mono ?_; rintro e12 w12 ⟨rfl, hb12⟩; have hk12 : Ext w11 w12 := (by first | exact hb12 | exact ((Ext.refl _).drew).trans hb12 | exact ((Ext.refl _).drewN _).trans hb12); replace q0_0 := hk12.cellAt q0_0; replace q0_1 := hk12.cellAt q0_1; replace q0_2 := hk12.cellAt q0_2; replace q0_3 := hk12.cellAt q0_3; replace q1_0 := hk12.cellAt q1_0; replace q1_1 := hk12.cellAt q1_1; replace q1_2 := hk12.cellAt q1_2; replace q1_3 := hk12.cellAt q1_3; replace q2_0 := hk12.cellAt q2_0; replace q2_1 := hk12.cellAt q2_1; replace q2_2 := hk12.cellAt q2_2; replace q2_3 := hk12.cellAt q2_3; replace q3_0 := hk12.cellAt q3_0; replace q3_1 := hk12.cellAt q3_1; replace q3_2 := hk12.cellAt q3_2; replace q3_3 := hk12.cellAt q3_3; have z12 := hk12.size; replace ox2 := ox2.keep (keepE hk12 (by omega)); replace ox3 := ox3.keep (keepE hk12 (by omega)); replace ox5 := ox5.keep (keepE hk12 (by omega)); have hB12 := hB11.trans hk12; clear hk12; have hE12 : Ext w w12 := hB12; clear hb12; clear ox5)
          | (go_at_call 13; refine (toLog_v _ _ _ _ (by exact r1.keep (keepE' (by first | exact hB10 | exact hB10.drew | exact hB10.drewN _) (Nat.le_refl _))) (by first | omega | (simp; done) | (simp; omega)) (by omega)).mono ?_; rintro e11 w11 ⟨vx5, rfl, ox5, hb11⟩; have hk11 : Ext w10 w11 := (by first | exact hb11 | exact ((Ext.refl _).drew).trans hb11 | exact ((Ext.refl _).drewN _).trans hb11); replace q0_0 := hk11.cellAt q0_0; replace q0_1 := hk11.cellAt q0_1; replace q0_2 := hk11.cellAt q0_2; replace q0_3 := hk11.cellAt q0_3; replace q1_0 := hk11.cellAt q1_0; replace q1_1 := hk11.cellAt q1_1; replace q1_2 := hk11.cellAt q1_2; replace q1_3 := hk11.cellAt q1_3; replace q2_0 := hk11.cellAt q2_0; replace q2_1 := hk11.cellAt q2_1; replace q2_2 := hk11.cellAt q2_2; replace q2_3 := hk11.cellAt q2_3; replace q3_0 := hk11.cellAt q3_0; replace q3_1 := hk11.cellAt q3_1; replace q3_2 := hk11.cellAt q3_2; replace q3_3 := hk11.cellAt q3_3; have z11 := hk11.size; replace ox2 := ox2.keep (keepE hk11 (by omega)); replace ox3 := ox3.keep (keepE hk11 (by omega)); have hB11 := hB10.trans hk11; clear hk11; have hE11 : Ext w w11 := hB11; clear hb11))
      go_wp2
      go_ret
      exact ⟨rfl, hE12⟩
    · skip
      obtain ⟨u0, s0, t0, hv0, -⟩ := id r0
      subst hv0
      obtain ⟨u1, s1, t1, hv1, -⟩ := id r1
      subst hv1
      go_enter Try.func3, Try.ntmps3
      go_wp2_with fail
      refine (szLog_ok _ _ _ _ _ (by exact r0.keep (keepE' (by repeat' (first | with_reducible exact Ext.refl _ | with_reducible assumption | with_reducible refine Ext.set ?_ ?_ _ _ | with_reducible refine Ext.alloc ?_ _ | with_reducible refine Ext.drew ?_ | with_reducible refine Ext.drewN ?_ _ | with_reducible refine Ext.trans ?_ (by with_reducible assumption) | omega | (simp; done) | (simp; omega))) (Nat.le_refl _))) (by first | omega | (simp; done) | (simp; omega)) (by omega) (by omega)).mono ?_
      rintro e1 w1 ⟨rfl, hb1⟩
      have hk1 : Ext w w1 := by repeat' (first | with_reducible exact Ext.refl _ | with_reducible assumption | with_reducible refine Ext.set ?_ ?_ _ _ | with_reducible refine Ext.alloc ?_ _ | with_reducible refine Ext.drew ?_ | with_reducible refine Ext.drewN ?_ _ | with_reducible refine Ext.trans ?_ (by with_reducible assumption) | omega | (simp; done) | (simp; omega))
      have q0_0 : w1.cell? ⟨w.heap.size, 0, none⟩ = some (.int .i64 l0.base) := hb1.cellAt (Ext.cellAt ((Ext.refl _).alloc _) (new_box _ _ #[.int .i64 l0.base, u0, s0, t0] _ 0 _ (by simp) rfl))
      have q0_1 : w1.cell? ⟨w.heap.size, 1, none⟩ = some u0 := hb1.cellAt (Ext.cellAt ((Ext.refl _).alloc _) (new_box _ _ #[.int .i64 l0.base, u0, s0, t0] _ 1 _ (by simp) rfl))
      have q0_2 : w1.cell? ⟨w.heap.size, 2, none⟩ = some s0 := hb1.cellAt (Ext.cellAt ((Ext.refl _).alloc _) (new_box _ _ #[.int .i64 l0.base, u0, s0, t0] _ 2 _ (by simp) rfl))
      have q0_3 : w1.cell? ⟨w.heap.size, 3, none⟩ = some t0 := hb1.cellAt (Ext.cellAt ((Ext.refl _).alloc _) (new_box _ _ #[.int .i64 l0.base, u0, s0, t0] _ 3 _ (by simp) rfl))
      have q1_0 : w1.cell? ⟨w.heap.size + 1, 0, none⟩ = some (.int .i64 l1.base) := hb1.cellAt (new_box _ _ #[.int .i64 l1.base, u1, s1, t1] _ 0 _ (by simp) rfl)
      have q1_1 : w1.cell? ⟨w.heap.size + 1, 1, none⟩ = some u1 := hb1.cellAt (new_box _ _ #[.int .i64 l1.base, u1, s1, t1] _ 1 _ (by simp) rfl)
      have q1_2 : w1.cell? ⟨w.heap.size + 1, 2, none⟩ = some s1 := hb1.cellAt (new_box _ _ #[.int .i64 l1.base, u1, s1, t1] _ 2 _ (by simp) rfl)
      have q1_3 : w1.cell? ⟨w.heap.size + 1, 3, none⟩ = some t1 := hb1.cellAt (new_box _ _ #[.int .i64 l1.base, u1, s1, t1] _ 3 _ (by simp) rfl)
      have z1 := hk1.size
      have hB1 := hk1
      clear hk1
      have hE1 : Ext w w1 := hB1
      clear hb1
      go_wp2_with fail
      refine (szLog_no _ _ _ _ _ (by exact r1.keep (keepE' (by repeat' (first | with_reducible exact Ext.refl _ | with_reducible assumption | with_reducible refine Ext.set ?_ ?_ _ _ | with_reducible refine Ext.alloc ?_ _ | with_reducible refine Ext.drew ?_ | with_reducible refine Ext.drewN ?_ _ | with_reducible refine Ext.trans ?_ (by with_reducible assumption) | omega | (simp; done) | (simp; omega))) (Nat.le_refl _))) (by first | omega | (simp; done) | (simp; omega)) (by omega) (by omega) (by omega)).mono ?_
      rintro e2 w2 ⟨rfl, hb2⟩
      have hk2 : Ext w1 w2 := by repeat' (first | with_reducible exact Ext.refl _ | with_reducible assumption | with_reducible refine Ext.set ?_ ?_ _ _ | with_reducible refine Ext.alloc ?_ _ | with_reducible refine Ext.drew ?_ | with_reducible refine Ext.drewN ?_ _ | with_reducible refine Ext.trans ?_ (by with_reducible assumption) | omega | (simp; done) | (simp; omega))
      replace q0_0 := hk2.cellAt q0_0
      replace q0_1 := hk2.cellAt q0_1
      replace q0_2 := hk2.cellAt q0_2
      replace q0_3 := hk2.cellAt q0_3
      replace q1_0 := hk2.cellAt q1_0
      replace q1_1 := hk2.cellAt q1_1
      replace q1_2 := hk2.cellAt q1_2
      replace q1_3 := hk2.cellAt q1_3
      have z2 := hk2.size
      have hB2 := hB1.trans hk2
      clear hk2
      have hE2 : Ext w w2 := hB2
      clear hb2
      go_wp2
      go_ret
      exact ⟨rfl, hE2⟩
  · skip
    obtain ⟨u0, s0, t0, hv0, -⟩ := id r0
    subst hv0
    obtain ⟨u1, s1, t1, hv1, -⟩ := id r1
    subst hv1
    go_enter Try.func3, Try.ntmps3
    go_wp2_with fail
    refine (szLog_no _ _ _ _ _ (by exact r0.keep (keepE' (by repeat' (first | with_reducible exact Ext.refl _ | with_reducible assumption | with_reducible refine Ext.set ?_ ?_ _ _ | with_reducible refine Ext.alloc ?_ _ | with_reducible refine Ext.drew ?_ | with_reducible refine Ext.drewN ?_ _ | with_reducible refine Ext.trans ?_ (by with_reducible assumption) | omega | (simp; done) | (simp; omega))) (Nat.le_refl _))) (by first | omega | (simp; done) | (simp; omega)) (by omega) (by omega) (by omega)).mono ?_
    rintro e1 w1 ⟨rfl, hb1⟩
    have hk1 : Ext w w1 := by repeat' (first | with_reducible exact Ext.refl _ | with_reducible assumption | with_reducible refine Ext.set ?_ ?_ _ _ | with_reducible refine Ext.alloc ?_ _ | with_reducible refine Ext.drew ?_ | with_reducible refine Ext.drewN ?_ _ | with_reducible refine Ext.trans ?_ (by with_reducible assumption) | omega | (simp; done) | (simp; omega))
    have q0_0 : w1.cell? ⟨w.heap.size, 0, none⟩ = some (.int .i64 l0.base) := hb1.cellAt (Ext.cellAt ((Ext.refl _).alloc _) (new_box _ _ #[.int .i64 l0.base, u0, s0, t0] _ 0 _ (by simp) rfl))
    have q0_1 : w1.cell? ⟨w.heap.size, 1, none⟩ = some u0 := hb1.cellAt (Ext.cellAt ((Ext.refl _).alloc _) (new_box _ _ #[.int .i64 l0.base, u0, s0, t0] _ 1 _ (by simp) rfl))
    have q0_2 : w1.cell? ⟨w.heap.size, 2, none⟩ = some s0 := hb1.cellAt (Ext.cellAt ((Ext.refl _).alloc _) (new_box _ _ #[.int .i64 l0.base, u0, s0, t0] _ 2 _ (by simp) rfl))
    have q0_3 : w1.cell? ⟨w.heap.size, 3, none⟩ = some t0 := hb1.cellAt (Ext.cellAt ((Ext.refl _).alloc _) (new_box _ _ #[.int .i64 l0.base, u0, s0, t0] _ 3 _ (by simp) rfl))
    have q1_0 : w1.cell? ⟨w.heap.size + 1, 0, none⟩ = some (.int .i64 l1.base) := hb1.cellAt (new_box _ _ #[.int .i64 l1.base, u1, s1, t1] _ 0 _ (by simp) rfl)
    have q1_1 : w1.cell? ⟨w.heap.size + 1, 1, none⟩ = some u1 := hb1.cellAt (new_box _ _ #[.int .i64 l1.base, u1, s1, t1] _ 1 _ (by simp) rfl)
    have q1_2 : w1.cell? ⟨w.heap.size + 1, 2, none⟩ = some s1 := hb1.cellAt (new_box _ _ #[.int .i64 l1.base, u1, s1, t1] _ 2 _ (by simp) rfl)
    have q1_3 : w1.cell? ⟨w.heap.size + 1, 3, none⟩ = some t1 := hb1.cellAt (new_box _ _ #[.int .i64 l1.base, u1, s1, t1] _ 3 _ (by simp) rfl)
    have z1 := hk1.size
    have hB1 := hk1
    clear hk1
    have hE1 : Ext w w1 := hB1
    clear hb1
    go_wp2
    go_ret
    exact ⟨rfl, hE1⟩

set_option maxRecDepth 100000 in
theorem lifted (os : Os) (started : os.Started) (H : Type) (enc : TypeId × Value → H) :
    ReturnsInHanded {} Try.checked os 3 .any (Rows.fnExactSameLogSpec.pre6 enc Try.prog Try.f3 Rows.fnExactSameLogRow.domain false) (Rows.fnExactSameLogSpec.post enc Try.prog Try.f3 false true false false) := by
  refine returnsInHanded_of_change (C := Try.checked) own started (by kernel_rfl) Try.func3
    (ChangeSpec.witness6 (enc := enc) (C := Try.checked) false ⟨#[], #[.agg #[.int .i64 0, .slice none 0 0, .slice none 0 0, .slice none 0 0], .agg #[.int .i64 0, .slice none 0 0, .slice none 0 0, .slice none 0 0]], []⟩ 8 (by kernel_rfl) (by kernel_rfl) (by kernel_rfl) (by kernel_rfl)) ?_
  intro W base args ds gs before hval0 hW hcnd _
  have hval : ∀ (j : Nat) t v, Try.f3.params[j]? = some t → args[j]? = some v → Value.okWide Try.prog W .any base t v := hval0
  have hW' := hW
  obtain ⟨p, q, hA0, hV, rfl, hfz, hnd⟩ := hW
  have hA : DataW.TrodAll enc Try.prog W 0 (fun _ => true) true Try.f3.params.toList args.toList ds p := hA0
  rw [Try.params3] at hA hval
  obtain ⟨vv0, vs0, dd0, ds0, pp0, qq0, hargs, rfl, rfl, ht0, rr0⟩ := trodAll_cons hA
  obtain ⟨vv1, vs1, dd1, ds1, pp1, qq1, rfl, rfl, rfl, ht1, rr1⟩ := trodAll_cons rr0
  obtain ⟨rfl, rfl, rfl⟩ := trodAll_nil rr1
  obtain rfl : args = #[vv0, vv1] := by cases args; simp_all
  obtain ⟨rfl, rfl⟩ := trodVars_none hV
  have trd0 := ht0
  have lts0 : ∀ x ∈ pp0, x.block < W.heap.size := by obtain ⟨m, hm⟩ := trd0; exact DataW.trod_lt m _ _ _ hm
  obtain ⟨l0, r0, g0⟩ := open_Log_arg (hval 0 28 vv0 rfl rfl) ht0
  have trd1 := ht1
  have lts1 : ∀ x ∈ pp1, x.block < W.heap.size := by obtain ⟨m, hm⟩ := trd1; exact DataW.trod_lt m _ _ _ hm
  obtain ⟨l1, r1, g1⟩ := open_Log_arg (hval 1 28 vv1 rfl rfl) ht1
  clear hA0 hval0
  refine (walk vv0  l0  vv1  l1  W r0 g0 r1 g1).mono fun e W' ⟨he, bel⟩ => ?_
  subst he
  exact ⟨_, rfl, _, _, _, [], _, [], hW', trodAll_mk1 (shut_bool Try.underlying4 _), (trodAll_cons_mk (Below.trod laidOut (by kernel_rfl) (of_decide_eq_true (by kernel_rfl)) trd0 bel lts0) (trodAll_cons_mk (Below.trod laidOut (by kernel_rfl) (of_decide_eq_true (by kernel_rfl)) trd1 bel lts1) trodAll_mk0)), rfl, Below.frame bel _, fun h => by cases h⟩

theorem over : Rows.fnExactSameLogRow.holds Try.pinned (OpenSpec.ofChange Rows.fnExactSameLogSpec) :=
  OpenClaim.holds_of_wide 3 Try.f3 rfl rfl rfl rfl rfl rfl rfl ⟨rfl, rfl, rfl, rfl, rfl⟩ rfl rfl rfl rfl rfl (by as_aux_lemma => kernel_rfl) Try.func3 (by as_aux_lemma => kernel_rfl)
    (of_decide_eq_true (by as_aux_lemma => kernel_rfl)) (by as_aux_lemma => unfold Func.isWrapper; first | (rw [if_pos (by decide +kernel)]; kernel_rfl) | (rw [if_neg (by decide +kernel)]; exact ⟨rfl, rfl⟩))
    (fun os started H enc _ => lifted os started H enc)

theorem proved : Rows.FnExactSameLogSaid := over
#print axioms proved
end Go.Proofs.Ytocmcfilldfdlaa.fnExactSameLog
