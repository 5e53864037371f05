/-
  FnExactLogAt returns true for every input: the program's LogAt returns what the reference's does, leaves its arguments alone, and returns memory of its own.
  Conditions: none: for every argument, in whatever memory.
-/
import Derived.Test.YtocmcfilldfdlaaOpen
import Derived.Test.YtocmcfilldfdlaaLogAt
import Derived.Test.YtocmcfilldfdlaaLog
namespace Go.Proofs.Ytocmcfilldfdlaa.fnExactLogAt
open Go.ChangeShapes Go.WideShapes Go.ChangeAt Go.RowKit
set_option linter.unusedVariables false
set_option maxRecDepth 1000000

set_option maxRecDepth 100000 in
set_option maxHeartbeats 2000000 in
theorem walk (vv0 : Value) (l0 : LogD) (a1 : Int) (w : World) (r0 : R_Log w w.heap.size vv0 l0) (g0 : FitsL l0) (f1 : Fits a1) :
    Calls Try.prog 6 #[vv0, .int .i64 a1] w fun e w' => e = .returned (.bool true) ∧ Ext w w' := by
  by_cases hbig0 : szL l0 ≤ 1048576
  · skip
    have hbig := hbig0
    obtain ⟨u0, s0, t0, hv0, -⟩ := id r0
    subst hv0
    go_enter Try.func6, Try.ntmps6
    go_wp2_with fail
    refine (szLog_ok _ _ _ _ _ (by exact r0.keep (keepE' (by repeat' (first | with_reducible exact Ext.refl _ | with_reducible assumption | with_reducible refine Ext.set ?_ ?_ _ _ | with_reducible refine Ext.alloc ?_ _ | with_reducible refine Ext.drew ?_ | with_reducible refine Ext.drewN ?_ _ | with_reducible refine Ext.trans ?_ (by with_reducible assumption) | omega | (simp; done) | (simp; omega))) (Nat.le_refl _))) (by first | omega | (simp; done) | (simp; omega)) (by omega) (by omega)).mono ?_
    rintro e1 w1 ⟨rfl, hb1⟩
    have hk1 : Ext w w1 := by repeat' (first | with_reducible exact Ext.refl _ | with_reducible assumption | with_reducible refine Ext.set ?_ ?_ _ _ | with_reducible refine Ext.alloc ?_ _ | with_reducible refine Ext.drew ?_ | with_reducible refine Ext.drewN ?_ _ | with_reducible refine Ext.trans ?_ (by with_reducible assumption) | omega | (simp; done) | (simp; omega))
    have q0_0 : w1.cell? ⟨w.heap.size, 0, none⟩ = some (.int .i64 l0.base) := hb1.cellAt (new_box _ _ #[.int .i64 l0.base, u0, s0, t0] _ 0 _ (by simp) rfl)
    have q0_1 : w1.cell? ⟨w.heap.size, 1, none⟩ = some u0 := hb1.cellAt (new_box _ _ #[.int .i64 l0.base, u0, s0, t0] _ 1 _ (by simp) rfl)
    have q0_2 : w1.cell? ⟨w.heap.size, 2, none⟩ = some s0 := hb1.cellAt (new_box _ _ #[.int .i64 l0.base, u0, s0, t0] _ 2 _ (by simp) rfl)
    have q0_3 : w1.cell? ⟨w.heap.size, 3, none⟩ = some t0 := hb1.cellAt (new_box _ _ #[.int .i64 l0.base, u0, s0, t0] _ 3 _ (by simp) rfl)
    have z1 := hk1.size
    have hB1 := hk1
    clear hk1
    have hE1 : Ext w w1 := hB1
    clear hb1
    go_wp2_with fail
    refine (toLog_v _ _ _ _ (by exact r0.keep (keepE' (by repeat' (first | with_reducible exact Ext.refl _ | with_reducible assumption | with_reducible refine Ext.set ?_ ?_ _ _ | with_reducible refine Ext.alloc ?_ _ | with_reducible refine Ext.drew ?_ | with_reducible refine Ext.drewN ?_ _ | with_reducible refine Ext.trans ?_ (by with_reducible assumption) | omega | (simp; done) | (simp; omega))) (Nat.le_refl _))) (by first | omega | (simp; done) | (simp; omega)) (by omega)).mono ?_
    rintro e2 w2 ⟨vx0, rfl, ox0, hb2⟩
    have hk2 : Ext w1 w2 := by repeat' (first | with_reducible exact Ext.refl _ | with_reducible assumption | with_reducible refine Ext.set ?_ ?_ _ _ | with_reducible refine Ext.alloc ?_ _ | with_reducible refine Ext.drew ?_ | with_reducible refine Ext.drewN ?_ _ | with_reducible refine Ext.trans ?_ (by with_reducible assumption) | omega | (simp; done) | (simp; omega))
    replace q0_0 := hk2.cellAt q0_0
    replace q0_1 := hk2.cellAt q0_1
    replace q0_2 := hk2.cellAt q0_2
    replace q0_3 := hk2.cellAt q0_3
    have z2 := hk2.size
    have hB2 := hB1.trans hk2
    clear hk2
    have hE2 : Ext w w2 := hB2
    clear hb2
    obtain ⟨vx0u, vx0s, vx0t, hvx0, ⟨vx0A, vx0n, vx0c, hvx0a, -⟩, ⟨vx0B, vx0m, vx0d, hvx0b, -⟩, ⟨vx0C, vx0k, vx0e, hvx0t, -⟩⟩ := id ox0
    subst hvx0a hvx0b hvx0t hvx0
    go_wp2_with fail
    refine (logAt_s _ _ _ _ _ (by exact ox0.rd.keep (keepE' (by repeat' (first | with_reducible exact Ext.refl _ | with_reducible assumption | with_reducible refine Ext.set ?_ ?_ _ _ | with_reducible refine Ext.alloc ?_ _ | with_reducible refine Ext.drew ?_ | with_reducible refine Ext.drewN ?_ _ | with_reducible refine Ext.trans ?_ (by with_reducible assumption) | omega | (simp; done) | (simp; omega))) (by first | omega | (simp; done) | (simp; omega)))) (by first | omega | (simp; done) | (simp; omega)) f1).mono ?_
    rintro e3 w3 ⟨rfl, hb3⟩
    have hk3 : Ext w2 w3 := by repeat' (first | with_reducible exact Ext.refl _ | with_reducible assumption | with_reducible refine Ext.set ?_ ?_ _ _ | with_reducible refine Ext.alloc ?_ _ | with_reducible refine Ext.drew ?_ | with_reducible refine Ext.drewN ?_ _ | with_reducible refine Ext.trans ?_ (by with_reducible assumption) | omega | (simp; done) | (simp; omega))
    replace q0_0 := hk3.cellAt q0_0
    replace q0_1 := hk3.cellAt q0_1
    replace q0_2 := hk3.cellAt q0_2
    replace q0_3 := hk3.cellAt q0_3
    have z3 := hk3.size
    replace ox0 := ox0.keep (keepE hk3 (by omega))
    have hB3 := hB2.trans hk3
    clear hk3
    have hE3 : Ext w w3 := hB3
    clear hb3
    have zb1 : w.heap.size < w3.heap.size := World.block_lt_of_cell? _ _ q0_0
    clear ox0
    go_wp2_with fail
    refine (toLog_v _ _ _ _ (by exact r0.keep (keepE' (by repeat' (first | with_reducible exact Ext.refl _ | with_reducible assumption | with_reducible refine Ext.set ?_ ?_ _ _ | with_reducible refine Ext.alloc ?_ _ | with_reducible refine Ext.drew ?_ | with_reducible refine Ext.drewN ?_ _ | with_reducible refine Ext.trans ?_ (by with_reducible assumption) | omega | (simp; done) | (simp; omega))) (Nat.le_refl _))) (by first | omega | (simp; done) | (simp; omega)) (by omega)).mono ?_
    rintro e4 w4 ⟨vx1, rfl, ox1, hb4⟩
    have hk4 : Ext w3 w4 := by repeat' (first | with_reducible exact Ext.refl _ | with_reducible assumption | with_reducible refine Ext.set ?_ ?_ _ _ | with_reducible refine Ext.alloc ?_ _ | with_reducible refine Ext.drew ?_ | with_reducible refine Ext.drewN ?_ _ | with_reducible refine Ext.trans ?_ (by with_reducible assumption) | omega | (simp; done) | (simp; omega))
    have q1_0 : w4.cell? ⟨w3.heap.size, 0, none⟩ = some (.int .i64 ((logAt l0 a1).1).client) := hb4.cellAt (new_box _ _ #[.int .i64 ((logAt l0 a1).1).client, .int .i64 ((logAt l0 a1).1).req, .int .i64 ((logAt l0 a1).1).cmd.kind, .int .i64 ((logAt l0 a1).1).cmd.key, .int .i64 ((logAt l0 a1).1).cmd.value] _ 0 _ (by simp) rfl)
    have q1_1 : w4.cell? ⟨w3.heap.size, 1, none⟩ = some (.int .i64 ((logAt l0 a1).1).req) := hb4.cellAt (new_box _ _ #[.int .i64 ((logAt l0 a1).1).client, .int .i64 ((logAt l0 a1).1).req, .int .i64 ((logAt l0 a1).1).cmd.kind, .int .i64 ((logAt l0 a1).1).cmd.key, .int .i64 ((logAt l0 a1).1).cmd.value] _ 1 _ (by simp) rfl)
    have q1_2 : w4.cell? ⟨w3.heap.size, 2, none⟩ = some (.int .i64 ((logAt l0 a1).1).cmd.kind) := hb4.cellAt (new_box _ _ #[.int .i64 ((logAt l0 a1).1).client, .int .i64 ((logAt l0 a1).1).req, .int .i64 ((logAt l0 a1).1).cmd.kind, .int .i64 ((logAt l0 a1).1).cmd.key, .int .i64 ((logAt l0 a1).1).cmd.value] _ 2 _ (by simp) rfl)
    have q1_3 : w4.cell? ⟨w3.heap.size, 3, none⟩ = some (.int .i64 ((logAt l0 a1).1).cmd.key) := hb4.cellAt (new_box _ _ #[.int .i64 ((logAt l0 a1).1).client, .int .i64 ((logAt l0 a1).1).req, .int .i64 ((logAt l0 a1).1).cmd.kind, .int .i64 ((logAt l0 a1).1).cmd.key, .int .i64 ((logAt l0 a1).1).cmd.value] _ 3 _ (by simp) rfl)
    have q1_4 : w4.cell? ⟨w3.heap.size, 4, none⟩ = some (.int .i64 ((logAt l0 a1).1).cmd.value) := hb4.cellAt (new_box _ _ #[.int .i64 ((logAt l0 a1).1).client, .int .i64 ((logAt l0 a1).1).req, .int .i64 ((logAt l0 a1).1).cmd.kind, .int .i64 ((logAt l0 a1).1).cmd.key, .int .i64 ((logAt l0 a1).1).cmd.value] _ 4 _ (by simp) rfl)
    replace q0_0 := hk4.cellAt q0_0
    replace q0_1 := hk4.cellAt q0_1
    replace q0_2 := hk4.cellAt q0_2
    replace q0_3 := hk4.cellAt q0_3
    have z4 := hk4.size
    have hB4 := hB3.trans hk4
    clear hk4
    have hE4 : Ext w w4 := hB4
    clear hb4
    obtain ⟨vx1u, vx1s, vx1t, hvx1, ⟨vx1A, vx1n, vx1c, hvx1a, -⟩, ⟨vx1B, vx1m, vx1d, hvx1b, -⟩, ⟨vx1C, vx1k, vx1e, hvx1t, -⟩⟩ := id ox1
    subst hvx1a hvx1b hvx1t hvx1
    have zb2 : w.heap.size < w4.heap.size := World.block_lt_of_cell? _ _ q0_0
    have zb3 : w3.heap.size < w4.heap.size := World.block_lt_of_cell? _ _ q1_0
    go_wp2_with fail
    refine (logAt_i _ _ _ _ _ (by exact ox1.rd.keep (keepE' (by repeat' (first | with_reducible exact Ext.refl _ | with_reducible assumption | with_reducible refine Ext.set ?_ ?_ _ _ | with_reducible refine Ext.alloc ?_ _ | with_reducible refine Ext.drew ?_ | with_reducible refine Ext.drewN ?_ _ | with_reducible refine Ext.trans ?_ (by with_reducible assumption) | omega | (simp; done) | (simp; omega))) (by first | omega | (simp; done) | (simp; omega)))) (by first | omega | (simp; done) | (simp; omega)) f1).mono ?_
    rintro e5 w5 ⟨rfl, hb5⟩
    have hk5 : Ext w4 w5 := by repeat' (first | with_reducible exact Ext.refl _ | with_reducible assumption | with_reducible refine Ext.set ?_ ?_ _ _ | with_reducible refine Ext.alloc ?_ _ | with_reducible refine Ext.drew ?_ | with_reducible refine Ext.drewN ?_ _ | with_reducible refine Ext.trans ?_ (by with_reducible assumption) | omega | (simp; done) | (simp; omega))
    have q2_0 : w5.cell? ⟨w4.heap.size, 0, none⟩ = some (.int .i64 (l0).base) := hb5.cellAt (new_box _ _ #[.int .i64 (l0).base, .slice vx1A vx1n vx1c, .slice vx1B vx1m vx1d, .slice vx1C vx1k vx1e] _ 0 _ (by simp) rfl)
    have q2_1 : w5.cell? ⟨w4.heap.size, 1, none⟩ = some (.slice vx1A vx1n vx1c) := hb5.cellAt (new_box _ _ #[.int .i64 (l0).base, .slice vx1A vx1n vx1c, .slice vx1B vx1m vx1d, .slice vx1C vx1k vx1e] _ 1 _ (by simp) rfl)
    have q2_2 : w5.cell? ⟨w4.heap.size, 2, none⟩ = some (.slice vx1B vx1m vx1d) := hb5.cellAt (new_box _ _ #[.int .i64 (l0).base, .slice vx1A vx1n vx1c, .slice vx1B vx1m vx1d, .slice vx1C vx1k vx1e] _ 2 _ (by simp) rfl)
    have q2_3 : w5.cell? ⟨w4.heap.size, 3, none⟩ = some (.slice vx1C vx1k vx1e) := hb5.cellAt (new_box _ _ #[.int .i64 (l0).base, .slice vx1A vx1n vx1c, .slice vx1B vx1m vx1d, .slice vx1C vx1k vx1e] _ 3 _ (by simp) rfl)
    replace q0_0 := hk5.cellAt q0_0
    replace q0_1 := hk5.cellAt q0_1
    replace q0_2 := hk5.cellAt q0_2
    replace q0_3 := hk5.cellAt q0_3
    replace q1_0 := hk5.cellAt q1_0
    replace q1_1 := hk5.cellAt q1_1
    replace q1_2 := hk5.cellAt q1_2
    replace q1_3 := hk5.cellAt q1_3
    replace q1_4 := hk5.cellAt q1_4
    have z5 := hk5.size
    replace ox1 := ox1.keep (keepE hk5 (by omega))
    have hB5 := hB4.trans hk5
    clear hk5
    have hE5 : Ext w w5 := hB5
    clear hb5
    have zb4 : w.heap.size < w5.heap.size := World.block_lt_of_cell? _ _ q0_0
    have zb5 : w3.heap.size < w5.heap.size := World.block_lt_of_cell? _ _ q1_0
    have zb6 : w4.heap.size < w5.heap.size := World.block_lt_of_cell? _ _ q2_0
    go_wp2_with fail
    refine (eqEntry_any ((logAt l0 a1).1) ((logAt l0 a1).1) _).mono ?_
    rintro e6 w6 ⟨rfl, hb6⟩
    have hk6 : Ext w5 w6 := by repeat' (first | with_reducible exact Ext.refl _ | with_reducible assumption | with_reducible refine Ext.set ?_ ?_ _ _ | with_reducible refine Ext.alloc ?_ _ | with_reducible refine Ext.drew ?_ | with_reducible refine Ext.drewN ?_ _ | with_reducible refine Ext.trans ?_ (by with_reducible assumption) | omega | (simp; done) | (simp; omega))
    have q3_0 : w6.cell? ⟨w5.heap.size, 0, none⟩ = some (.int .i64 ((logAt l0 a1).1).client) := hb6.cellAt (new_box _ _ #[.int .i64 ((logAt l0 a1).1).client, .int .i64 ((logAt l0 a1).1).req, .int .i64 ((logAt l0 a1).1).cmd.kind, .int .i64 ((logAt l0 a1).1).cmd.key, .int .i64 ((logAt l0 a1).1).cmd.value] _ 0 _ (by simp) rfl)
    have q3_1 : w6.cell? ⟨w5.heap.size, 1, none⟩ = some (.int .i64 ((logAt l0 a1).1).req) := hb6.cellAt (new_box _ _ #[.int .i64 ((logAt l0 a1).1).client, .int .i64 ((logAt l0 a1).1).req, .int .i64 ((logAt l0 a1).1).cmd.kind, .int .i64 ((logAt l0 a1).1).cmd.key, .int .i64 ((logAt l0 a1).1).cmd.value] _ 1 _ (by simp) rfl)
    have q3_2 : w6.cell? ⟨w5.heap.size, 2, none⟩ = some (.int .i64 ((logAt l0 a1).1).cmd.kind) := hb6.cellAt (new_box _ _ #[.int .i64 ((logAt l0 a1).1).client, .int .i64 ((logAt l0 a1).1).req, .int .i64 ((logAt l0 a1).1).cmd.kind, .int .i64 ((logAt l0 a1).1).cmd.key, .int .i64 ((logAt l0 a1).1).cmd.value] _ 2 _ (by simp) rfl)
    have q3_3 : w6.cell? ⟨w5.heap.size, 3, none⟩ = some (.int .i64 ((logAt l0 a1).1).cmd.key) := hb6.cellAt (new_box _ _ #[.int .i64 ((logAt l0 a1).1).client, .int .i64 ((logAt l0 a1).1).req, .int .i64 ((logAt l0 a1).1).cmd.kind, .int .i64 ((logAt l0 a1).1).cmd.key, .int .i64 ((logAt l0 a1).1).cmd.value] _ 3 _ (by simp) rfl)
    have q3_4 : w6.cell? ⟨w5.heap.size, 4, none⟩ = some (.int .i64 ((logAt l0 a1).1).cmd.value) := hb6.cellAt (new_box _ _ #[.int .i64 ((logAt l0 a1).1).client, .int .i64 ((logAt l0 a1).1).req, .int .i64 ((logAt l0 a1).1).cmd.kind, .int .i64 ((logAt l0 a1).1).cmd.key, .int .i64 ((logAt l0 a1).1).cmd.value] _ 4 _ (by simp) rfl)
    replace q0_0 := hk6.cellAt q0_0
    replace q0_1 := hk6.cellAt q0_1
    replace q0_2 := hk6.cellAt q0_2
    replace q0_3 := hk6.cellAt q0_3
    replace q1_0 := hk6.cellAt q1_0
    replace q1_1 := hk6.cellAt q1_1
    replace q1_2 := hk6.cellAt q1_2
    replace q1_3 := hk6.cellAt q1_3
    replace q1_4 := hk6.cellAt q1_4
    replace q2_0 := hk6.cellAt q2_0
    replace q2_1 := hk6.cellAt q2_1
    replace q2_2 := hk6.cellAt q2_2
    replace q2_3 := hk6.cellAt q2_3
    have z6 := hk6.size
    replace ox1 := ox1.keep (keepE hk6 (by omega))
    have hB6 := hB5.trans hk6
    clear hk6
    have hE6 : Ext w w6 := hB6
    clear hb6
    go_wp2_with fail
    go_region_held3 (fun w' => w'.cell? ⟨w.heap.size, 0, none⟩ = some (.int .i64 l0.base) ∧ w'.cell? ⟨w.heap.size, 1, none⟩ = some (u0) ∧ w'.cell? ⟨w.heap.size, 2, none⟩ = some (s0) ∧ w'.cell? ⟨w.heap.size, 3, none⟩ = some (t0) ∧ w'.cell? ⟨w3.heap.size, 0, none⟩ = some (.int .i64 ((logAt l0 a1).1).client) ∧ w'.cell? ⟨w3.heap.size, 1, none⟩ = some (.int .i64 ((logAt l0 a1).1).req) ∧ w'.cell? ⟨w3.heap.size, 2, none⟩ = some (.int .i64 ((logAt l0 a1).1).cmd.kind) ∧ w'.cell? ⟨w3.heap.size, 3, none⟩ = some (.int .i64 ((logAt l0 a1).1).cmd.key) ∧ w'.cell? ⟨w3.heap.size, 4, none⟩ = some (.int .i64 ((logAt l0 a1).1).cmd.value) ∧ w'.cell? ⟨w4.heap.size, 0, none⟩ = some (.int .i64 (l0).base) ∧ w'.cell? ⟨w4.heap.size, 1, none⟩ = some (.slice vx1A vx1n vx1c) ∧ w'.cell? ⟨w4.heap.size, 2, none⟩ = some (.slice vx1B vx1m vx1d) ∧ w'.cell? ⟨w4.heap.size, 3, none⟩ = some (.slice vx1C vx1k vx1e) ∧ w'.cell? ⟨w5.heap.size, 0, none⟩ = some (.int .i64 ((logAt l0 a1).1).client) ∧ w'.cell? ⟨w5.heap.size, 1, none⟩ = some (.int .i64 ((logAt l0 a1).1).req) ∧ w'.cell? ⟨w5.heap.size, 2, none⟩ = some (.int .i64 ((logAt l0 a1).1).cmd.kind) ∧ w'.cell? ⟨w5.heap.size, 3, none⟩ = some (.int .i64 ((logAt l0 a1).1).cmd.key) ∧ w'.cell? ⟨w5.heap.size, 4, none⟩ = some (.int .i64 ((logAt l0 a1).1).cmd.value)) (exact ⟨q0_0, q0_1, q0_2, q0_3, q1_0, q1_1, q1_2, q1_3, q1_4, q2_0, q2_1, q2_2, q2_3, q3_0, q3_1, q3_2, q3_3, q3_4⟩)
      (first
        | (go_at_call 15; refine (eqLog_v _ _ _ _ _ _ _ (by exact ox1.rd.keep (keepE' (by first | exact Ext.refl _ | exact (Ext.refl _).drew | exact (Ext.refl _).drewN _) (by first | omega | (simp; done) | (simp; omega)))) (by first | omega | (simp; done) | (simp; omega)) (by exact ox2.rd.keep (keepE' (by first | exact Ext.refl _ | exact (Ext.refl _).drew | exact (Ext.refl _).drewN _) (by first | omega | (simp; done) | (simp; omega)))) (by first | omega | (simp; done) | (simp; omega))).mono ?_; rintro e8 w8 ⟨rfl, hb8⟩; have hk8 : Ext w7 w8 := (by first | exact hb8 | exact ((Ext.refl _).drew).trans hb8 | exact ((Ext.refl _).drewN _).trans hb8); replace q0_0 := hk8.cellAt q0_0; replace q0_1 := hk8.cellAt q0_1; replace q0_2 := hk8.cellAt q0_2; replace q0_3 := hk8.cellAt q0_3; replace q1_0 := hk8.cellAt q1_0; replace q1_1 := hk8.cellAt q1_1; replace q1_2 := hk8.cellAt q1_2; replace q1_3 := hk8.cellAt q1_3; replace q1_4 := hk8.cellAt q1_4; replace q2_0 := hk8.cellAt q2_0; replace q2_1 := hk8.cellAt q2_1; replace q2_2 := hk8.cellAt q2_2; replace q2_3 := hk8.cellAt q2_3; replace q3_0 := hk8.cellAt q3_0; replace q3_1 := hk8.cellAt q3_1; replace q3_2 := hk8.cellAt q3_2; replace q3_3 := hk8.cellAt q3_3; replace q3_4 := hk8.cellAt q3_4; have z8 := hk8.size; replace ox1 := ox1.keep (keepE hk8 (by omega)); replace ox2 := ox2.keep (keepE hk8 (by omega)); have hB8 := hB7.trans hk8; clear hk8; have hE8 : Ext w w8 := hB8; clear hb8; clear ox2)
        | (go_at_call 13; refine (toLog_v _ _ _ _ (by exact r0.keep (keepE' (by first | exact hB6 | exact hB6.drew | exact hB6.drewN _) (Nat.le_refl _))) (by first | omega | (simp; done) | (simp; omega)) (by omega)).mono ?_; rintro e7 w7 ⟨vx2, rfl, ox2, hb7⟩; have hk7 : Ext w6 w7 := (by first | exact hb7 | exact ((Ext.refl _).drew).trans hb7 | exact ((Ext.refl _).drewN _).trans hb7); replace q0_0 := hk7.cellAt q0_0; replace q0_1 := hk7.cellAt q0_1; replace q0_2 := hk7.cellAt q0_2; replace q0_3 := hk7.cellAt q0_3; replace q1_0 := hk7.cellAt q1_0; replace q1_1 := hk7.cellAt q1_1; replace q1_2 := hk7.cellAt q1_2; replace q1_3 := hk7.cellAt q1_3; replace q1_4 := hk7.cellAt q1_4; replace q2_0 := hk7.cellAt q2_0; replace q2_1 := hk7.cellAt q2_1; replace q2_2 := hk7.cellAt q2_2; replace q2_3 := hk7.cellAt q2_3; replace q3_0 := hk7.cellAt q3_0; replace q3_1 := hk7.cellAt q3_1; replace q3_2 := hk7.cellAt q3_2; replace q3_3 := hk7.cellAt q3_3; replace q3_4 := hk7.cellAt q3_4; have z7 := hk7.size; replace ox1 := ox1.keep (keepE hk7 (by omega)); have hB7 := hB6.trans hk7; clear hk7; have hE7 : Ext w w7 := hB7; clear hb7))
    go_wp2
    go_ret
    exact ⟨rfl, hE8⟩
  · skip
    obtain ⟨u0, s0, t0, hv0, -⟩ := id r0
    subst hv0
    go_enter Try.func6, Try.ntmps6
    go_wp2_with fail
    refine (szLog_no _ _ _ _ _ (by exact r0.keep (keepE' (by repeat' (first | with_reducible exact Ext.refl _ | with_reducible assumption | with_reducible refine Ext.set ?_ ?_ _ _ | with_reducible refine Ext.alloc ?_ _ | with_reducible refine Ext.drew ?_ | with_reducible refine Ext.drewN ?_ _ | with_reducible refine Ext.trans ?_ (by with_reducible assumption) | omega | (simp; done) | (simp; omega))) (Nat.le_refl _))) (by first | omega | (simp; done) | (simp; omega)) (by omega) (by omega) (by omega)).mono ?_
    rintro e1 w1 ⟨rfl, hb1⟩
    have hk1 : Ext w w1 := by repeat' (first | with_reducible exact Ext.refl _ | with_reducible assumption | with_reducible refine Ext.set ?_ ?_ _ _ | with_reducible refine Ext.alloc ?_ _ | with_reducible refine Ext.drew ?_ | with_reducible refine Ext.drewN ?_ _ | with_reducible refine Ext.trans ?_ (by with_reducible assumption) | omega | (simp; done) | (simp; omega))
    have q0_0 : w1.cell? ⟨w.heap.size, 0, none⟩ = some (.int .i64 l0.base) := hb1.cellAt (new_box _ _ #[.int .i64 l0.base, u0, s0, t0] _ 0 _ (by simp) rfl)
    have q0_1 : w1.cell? ⟨w.heap.size, 1, none⟩ = some u0 := hb1.cellAt (new_box _ _ #[.int .i64 l0.base, u0, s0, t0] _ 1 _ (by simp) rfl)
    have q0_2 : w1.cell? ⟨w.heap.size, 2, none⟩ = some s0 := hb1.cellAt (new_box _ _ #[.int .i64 l0.base, u0, s0, t0] _ 2 _ (by simp) rfl)
    have q0_3 : w1.cell? ⟨w.heap.size, 3, none⟩ = some t0 := hb1.cellAt (new_box _ _ #[.int .i64 l0.base, u0, s0, t0] _ 3 _ (by simp) rfl)
    have z1 := hk1.size
    have hB1 := hk1
    clear hk1
    have hE1 : Ext w w1 := hB1
    clear hb1
    go_wp2
    go_ret
    exact ⟨rfl, hE1⟩

set_option maxRecDepth 100000 in
theorem lifted (os : Os) (started : os.Started) (H : Type) (enc : TypeId × Value → H) :
    ReturnsInHanded {} Try.checked os 6 .any (Rows.fnExactLogAtSpec.pre6 enc Try.prog Try.f6 Rows.fnExactLogAtRow.domain false) (Rows.fnExactLogAtSpec.post enc Try.prog Try.f6 false true false false) := by
  refine returnsInHanded_of_change (C := Try.checked) own started (by kernel_rfl) Try.func6
    (ChangeSpec.witness6 (enc := enc) (C := Try.checked) false ⟨#[], #[.agg #[.int .i64 0, .slice none 0 0, .slice none 0 0, .slice none 0 0], .int .i64 0], []⟩ 8 (by kernel_rfl) (by kernel_rfl) (by kernel_rfl) (by kernel_rfl)) ?_
  intro W base args ds gs before hval0 hW hcnd _
  have hval : ∀ (j : Nat) t v, Try.f6.params[j]? = some t → args[j]? = some v → Value.okWide Try.prog W .any base t v := hval0
  have hW' := hW
  obtain ⟨p, q, hA0, hV, rfl, hfz, hnd⟩ := hW
  have hA : DataW.TrodAll enc Try.prog W 0 (fun _ => true) true Try.f6.params.toList args.toList ds p := hA0
  rw [Try.params6] at hA hval
  obtain ⟨vv0, vs0, dd0, ds0, pp0, qq0, hargs, rfl, rfl, ht0, rr0⟩ := trodAll_cons hA
  obtain ⟨vv1, vs1, dd1, ds1, pp1, qq1, rfl, rfl, rfl, ht1, rr1⟩ := trodAll_cons rr0
  obtain ⟨rfl, rfl, rfl⟩ := trodAll_nil rr1
  obtain rfl : args = #[vv0, vv1] := by cases args; simp_all
  obtain ⟨rfl, rfl⟩ := trodVars_none hV
  have trd0 := ht0
  have lts0 : ∀ x ∈ pp0, x.block < W.heap.size := by obtain ⟨m, hm⟩ := trd0; exact DataW.trod_lt m _ _ _ hm
  obtain ⟨l0, r0, g0⟩ := open_Log_arg (hval 0 28 vv0 rfl rfl) ht0
  have trd1 := ht1
  have lts1 : ∀ x ∈ pp1, x.block < W.heap.size := by obtain ⟨m, hm⟩ := trd1; exact DataW.trod_lt m _ _ _ hm
  obtain ⟨a1, rfl, f1⟩ := open_int_arg (hval 1 3 vv1 rfl rfl) ht1
  clear hA0 hval0
  refine (walk vv0  l0  a1  W r0 g0 f1).mono fun e W' ⟨he, bel⟩ => ?_
  subst he
  exact ⟨_, rfl, _, _, _, [], _, [], hW', trodAll_mk1 (shut_bool Try.underlying4 _), (trodAll_cons_mk (Below.trod laidOut (by kernel_rfl) (of_decide_eq_true (by kernel_rfl)) trd0 bel lts0) (trodAll_cons_mk (Below.trod laidOut (by kernel_rfl) (of_decide_eq_true (by kernel_rfl)) trd1 bel lts1) trodAll_mk0)), rfl, Below.frame bel _, fun h => by cases h⟩

theorem over : Rows.fnExactLogAtRow.holds Try.pinned (OpenSpec.ofChange Rows.fnExactLogAtSpec) :=
  OpenClaim.holds_of_wide 6 Try.f6 rfl rfl rfl rfl rfl rfl rfl ⟨rfl, rfl, rfl, rfl, rfl⟩ rfl rfl rfl rfl rfl (by as_aux_lemma => kernel_rfl) Try.func6 (by as_aux_lemma => kernel_rfl)
    (of_decide_eq_true (by as_aux_lemma => kernel_rfl)) (by as_aux_lemma => unfold Func.isWrapper; first | (rw [if_pos (by decide +kernel)]; kernel_rfl) | (rw [if_neg (by decide +kernel)]; exact ⟨rfl, rfl⟩))
    (fun os started H enc _ => lifted os started H enc)

theorem proved : Rows.FnExactLogAtSaid := over
#print axioms proved
end Go.Proofs.Ytocmcfilldfdlaa.fnExactLogAt
