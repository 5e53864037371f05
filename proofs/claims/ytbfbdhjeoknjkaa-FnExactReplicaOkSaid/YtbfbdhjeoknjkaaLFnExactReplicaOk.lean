/-
  FnExactReplicaOk returns true for every input: the program's ReplicaOk returns what the reference's does, leaves its arguments alone, and returns memory of its own.
  Conditions: none: for every argument, in whatever memory.
-/
import Derived.Test.YtbfbdhjeoknjkaaOpen
import Derived.Test.YtbfbdhjeoknjkaaRepOk
import Derived.Test.YtbfbdhjeoknjkaaOpenRep
namespace Go.Proofs.Ytbfbdhjeoknjkaa.fnExactReplicaOk
open Go.ChangeShapes Go.WideShapes Go.ChangeAt Go.RowKit
set_option linter.unusedVariables false
set_option maxRecDepth 1000000

set_option maxRecDepth 100000 in
set_option maxHeartbeats 8000000 in
theorem walk (vv0 : Value) (l0 : ReplicaD) (w : World) (r0 : R_Replica w w.heap.size vv0 l0) :
    Calls Try.prog 7 #[vv0] w fun e w' => e = .returned (.bool true) ∧ Ext w w' := by
  by_cases hbig0 : szR l0 ≤ 1048576
  · skip
    have hbig := hbig0
    obtain ⟨u0, s0, t0, q0, hv0, -⟩ := id r0
    subst hv0
    go_enter Try.func7, Try.ntmps7
    go_wp2_with fail
    refine (szReplica_ok _ _ _ _ _ (by exact r0.keep (keepE' (by repeat' (first | with_reducible exact Ext.refl _ | with_reducible assumption | with_reducible refine Ext.set ?_ ?_ _ _ | with_reducible refine Ext.alloc ?_ _ | with_reducible refine Ext.drew ?_ | with_reducible refine Ext.drewN ?_ _ | with_reducible refine Ext.trans ?_ (by with_reducible assumption) | omega | (simp; done) | (simp; omega))) (Nat.le_refl _))) (by first | omega | (simp; done) | (simp; omega)) (by omega) (by omega)).mono ?_
    rintro e1 w1 ⟨rfl, hb1⟩
    have hk1 : Ext w w1 := by repeat' (first | with_reducible exact Ext.refl _ | with_reducible assumption | with_reducible refine Ext.set ?_ ?_ _ _ | with_reducible refine Ext.alloc ?_ _ | with_reducible refine Ext.drew ?_ | with_reducible refine Ext.drewN ?_ _ | with_reducible refine Ext.trans ?_ (by with_reducible assumption) | omega | (simp; done) | (simp; omega))
    have q0_0 : w1.cell? ⟨w.heap.size, 0, none⟩ = some (.int .i64 l0.me) := hb1.cellAt (new_box _ _ #[.int .i64 l0.me, .int .i64 l0.of, .int .i64 l0.mode, .int .i64 l0.view, .int .i64 l0.normal, .int .i64 l0.commit, .int .i64 l0.log.base, u0, s0, t0, q0, .int .i64 l0.cell, .int .i64 l0.nonce] _ 0 _ (by simp) rfl)
    have q0_1 : w1.cell? ⟨w.heap.size, 1, none⟩ = some (.int .i64 l0.of) := hb1.cellAt (new_box _ _ #[.int .i64 l0.me, .int .i64 l0.of, .int .i64 l0.mode, .int .i64 l0.view, .int .i64 l0.normal, .int .i64 l0.commit, .int .i64 l0.log.base, u0, s0, t0, q0, .int .i64 l0.cell, .int .i64 l0.nonce] _ 1 _ (by simp) rfl)
    have q0_2 : w1.cell? ⟨w.heap.size, 2, none⟩ = some (.int .i64 l0.mode) := hb1.cellAt (new_box _ _ #[.int .i64 l0.me, .int .i64 l0.of, .int .i64 l0.mode, .int .i64 l0.view, .int .i64 l0.normal, .int .i64 l0.commit, .int .i64 l0.log.base, u0, s0, t0, q0, .int .i64 l0.cell, .int .i64 l0.nonce] _ 2 _ (by simp) rfl)
    have q0_3 : w1.cell? ⟨w.heap.size, 3, none⟩ = some (.int .i64 l0.view) := hb1.cellAt (new_box _ _ #[.int .i64 l0.me, .int .i64 l0.of, .int .i64 l0.mode, .int .i64 l0.view, .int .i64 l0.normal, .int .i64 l0.commit, .int .i64 l0.log.base, u0, s0, t0, q0, .int .i64 l0.cell, .int .i64 l0.nonce] _ 3 _ (by simp) rfl)
    have q0_4 : w1.cell? ⟨w.heap.size, 4, none⟩ = some (.int .i64 l0.normal) := hb1.cellAt (new_box _ _ #[.int .i64 l0.me, .int .i64 l0.of, .int .i64 l0.mode, .int .i64 l0.view, .int .i64 l0.normal, .int .i64 l0.commit, .int .i64 l0.log.base, u0, s0, t0, q0, .int .i64 l0.cell, .int .i64 l0.nonce] _ 4 _ (by simp) rfl)
    have q0_5 : w1.cell? ⟨w.heap.size, 5, none⟩ = some (.int .i64 l0.commit) := hb1.cellAt (new_box _ _ #[.int .i64 l0.me, .int .i64 l0.of, .int .i64 l0.mode, .int .i64 l0.view, .int .i64 l0.normal, .int .i64 l0.commit, .int .i64 l0.log.base, u0, s0, t0, q0, .int .i64 l0.cell, .int .i64 l0.nonce] _ 5 _ (by simp) rfl)
    have q0_6 : w1.cell? ⟨w.heap.size, 6, none⟩ = some (.int .i64 l0.log.base) := hb1.cellAt (new_box _ _ #[.int .i64 l0.me, .int .i64 l0.of, .int .i64 l0.mode, .int .i64 l0.view, .int .i64 l0.normal, .int .i64 l0.commit, .int .i64 l0.log.base, u0, s0, t0, q0, .int .i64 l0.cell, .int .i64 l0.nonce] _ 6 _ (by simp) rfl)
    have q0_7 : w1.cell? ⟨w.heap.size, 7, none⟩ = some u0 := hb1.cellAt (new_box _ _ #[.int .i64 l0.me, .int .i64 l0.of, .int .i64 l0.mode, .int .i64 l0.view, .int .i64 l0.normal, .int .i64 l0.commit, .int .i64 l0.log.base, u0, s0, t0, q0, .int .i64 l0.cell, .int .i64 l0.nonce] _ 7 _ (by simp) rfl)
    have q0_8 : w1.cell? ⟨w.heap.size, 8, none⟩ = some s0 := hb1.cellAt (new_box _ _ #[.int .i64 l0.me, .int .i64 l0.of, .int .i64 l0.mode, .int .i64 l0.view, .int .i64 l0.normal, .int .i64 l0.commit, .int .i64 l0.log.base, u0, s0, t0, q0, .int .i64 l0.cell, .int .i64 l0.nonce] _ 8 _ (by simp) rfl)
    have q0_9 : w1.cell? ⟨w.heap.size, 9, none⟩ = some t0 := hb1.cellAt (new_box _ _ #[.int .i64 l0.me, .int .i64 l0.of, .int .i64 l0.mode, .int .i64 l0.view, .int .i64 l0.normal, .int .i64 l0.commit, .int .i64 l0.log.base, u0, s0, t0, q0, .int .i64 l0.cell, .int .i64 l0.nonce] _ 9 _ (by simp) rfl)
    have q0_10 : w1.cell? ⟨w.heap.size, 10, none⟩ = some q0 := hb1.cellAt (new_box _ _ #[.int .i64 l0.me, .int .i64 l0.of, .int .i64 l0.mode, .int .i64 l0.view, .int .i64 l0.normal, .int .i64 l0.commit, .int .i64 l0.log.base, u0, s0, t0, q0, .int .i64 l0.cell, .int .i64 l0.nonce] _ 10 _ (by simp) rfl)
    have q0_11 : w1.cell? ⟨w.heap.size, 11, none⟩ = some (.int .i64 l0.cell) := hb1.cellAt (new_box _ _ #[.int .i64 l0.me, .int .i64 l0.of, .int .i64 l0.mode, .int .i64 l0.view, .int .i64 l0.normal, .int .i64 l0.commit, .int .i64 l0.log.base, u0, s0, t0, q0, .int .i64 l0.cell, .int .i64 l0.nonce] _ 11 _ (by simp) rfl)
    have q0_12 : w1.cell? ⟨w.heap.size, 12, none⟩ = some (.int .i64 l0.nonce) := hb1.cellAt (new_box _ _ #[.int .i64 l0.me, .int .i64 l0.of, .int .i64 l0.mode, .int .i64 l0.view, .int .i64 l0.normal, .int .i64 l0.commit, .int .i64 l0.log.base, u0, s0, t0, q0, .int .i64 l0.cell, .int .i64 l0.nonce] _ 12 _ (by simp) rfl)
    have zb1 : w.heap.size < w1.heap.size := World.block_lt_of_cell? _ _ q0_0
    have z1 := hk1.size
    have hB1 := hk1
    clear hk1
    have hE1 : Ext w w1 := hB1
    clear hb1
    go_wp2_with fail
    refine (toReplica_v _ _ _ _ (by exact r0.keep (keepE' (by repeat' (first | with_reducible exact Ext.refl _ | with_reducible assumption | with_reducible refine Ext.set ?_ ?_ _ _ | with_reducible refine Ext.alloc ?_ _ | with_reducible refine Ext.drew ?_ | with_reducible refine Ext.drewN ?_ _ | with_reducible refine Ext.trans ?_ (by with_reducible assumption) | omega | (simp; done) | (simp; omega))) (Nat.le_refl _))) (by first | omega | (simp; done) | (simp; omega)) (by omega)).mono ?_
    rintro e2 w2 ⟨vx0, rfl, ox0, hb2⟩
    have hk2 : Ext w1 w2 := by repeat' (first | with_reducible exact Ext.refl _ | with_reducible assumption | with_reducible refine Ext.set ?_ ?_ _ _ | with_reducible refine Ext.alloc ?_ _ | with_reducible refine Ext.drew ?_ | with_reducible refine Ext.drewN ?_ _ | with_reducible refine Ext.trans ?_ (by with_reducible assumption) | omega | (simp; done) | (simp; omega))
    replace q0_0 := hk2.cellAt q0_0
    replace q0_1 := hk2.cellAt q0_1
    replace q0_2 := hk2.cellAt q0_2
    replace q0_3 := hk2.cellAt q0_3
    replace q0_4 := hk2.cellAt q0_4
    replace q0_5 := hk2.cellAt q0_5
    replace q0_6 := hk2.cellAt q0_6
    replace q0_7 := hk2.cellAt q0_7
    replace q0_8 := hk2.cellAt q0_8
    replace q0_9 := hk2.cellAt q0_9
    replace q0_10 := hk2.cellAt q0_10
    replace q0_11 := hk2.cellAt q0_11
    replace q0_12 := hk2.cellAt q0_12
    have z2 := hk2.size
    have hB2 := hB1.trans hk2
    clear hk2
    have hE2 : Ext w w2 := hB2
    clear hb2
    obtain ⟨vx0u, vx0s, vx0t, vx0q, hvx0, ⟨vx0A, vx0n, vx0c, hvx0a, -⟩, ⟨vx0B, vx0m, vx0d, hvx0b, -⟩, ⟨vx0C, vx0k, vx0e, hvx0t, -⟩, hvx0q⟩ := id ox0
    obtain ⟨vx0V, vx0w, vx0f, hvx0r⟩ := hvx0q.form
    clear hvx0q
    subst hvx0a hvx0b hvx0t hvx0r hvx0
    go_wp2_with fail
    refine (replicaOk_s _ _ _ _ (by exact ox0.rd.keep (keepE' (by repeat' (first | with_reducible exact Ext.refl _ | with_reducible assumption | with_reducible refine Ext.set ?_ ?_ _ _ | with_reducible refine Ext.alloc ?_ _ | with_reducible refine Ext.drew ?_ | with_reducible refine Ext.drewN ?_ _ | with_reducible refine Ext.trans ?_ (by with_reducible assumption) | omega | (simp; done) | (simp; omega))) (by first | omega | (simp; done) | (simp; omega)))) (by first | omega | (simp; done) | (simp; omega))).mono ?_
    rintro e3 w3 ⟨rfl, hb3⟩
    have hk3 : Ext w2 w3 := by repeat' (first | with_reducible exact Ext.refl _ | with_reducible assumption | with_reducible refine Ext.set ?_ ?_ _ _ | with_reducible refine Ext.alloc ?_ _ | with_reducible refine Ext.drew ?_ | with_reducible refine Ext.drewN ?_ _ | with_reducible refine Ext.trans ?_ (by with_reducible assumption) | omega | (simp; done) | (simp; omega))
    replace q0_0 := hk3.cellAt q0_0
    replace q0_1 := hk3.cellAt q0_1
    replace q0_2 := hk3.cellAt q0_2
    replace q0_3 := hk3.cellAt q0_3
    replace q0_4 := hk3.cellAt q0_4
    replace q0_5 := hk3.cellAt q0_5
    replace q0_6 := hk3.cellAt q0_6
    replace q0_7 := hk3.cellAt q0_7
    replace q0_8 := hk3.cellAt q0_8
    replace q0_9 := hk3.cellAt q0_9
    replace q0_10 := hk3.cellAt q0_10
    replace q0_11 := hk3.cellAt q0_11
    replace q0_12 := hk3.cellAt q0_12
    have z3 := hk3.size
    replace ox0 := ox0.keep (keepE hk3 (by omega))
    have hB3 := hB2.trans hk3
    clear hk3
    have hE3 : Ext w w3 := hB3
    clear hb3
    clear ox0
    go_wp2_with fail
    refine (toReplica_v _ _ _ _ (by exact r0.keep (keepE' (by repeat' (first | with_reducible exact Ext.refl _ | with_reducible assumption | with_reducible refine Ext.set ?_ ?_ _ _ | with_reducible refine Ext.alloc ?_ _ | with_reducible refine Ext.drew ?_ | with_reducible refine Ext.drewN ?_ _ | with_reducible refine Ext.trans ?_ (by with_reducible assumption) | omega | (simp; done) | (simp; omega))) (Nat.le_refl _))) (by first | omega | (simp; done) | (simp; omega)) (by omega)).mono ?_
    rintro e4 w4 ⟨vx1, rfl, ox1, hb4⟩
    have hk4 : Ext w3 w4 := by repeat' (first | with_reducible exact Ext.refl _ | with_reducible assumption | with_reducible refine Ext.set ?_ ?_ _ _ | with_reducible refine Ext.alloc ?_ _ | with_reducible refine Ext.drew ?_ | with_reducible refine Ext.drewN ?_ _ | with_reducible refine Ext.trans ?_ (by with_reducible assumption) | omega | (simp; done) | (simp; omega))
    replace q0_0 := hk4.cellAt q0_0
    replace q0_1 := hk4.cellAt q0_1
    replace q0_2 := hk4.cellAt q0_2
    replace q0_3 := hk4.cellAt q0_3
    replace q0_4 := hk4.cellAt q0_4
    replace q0_5 := hk4.cellAt q0_5
    replace q0_6 := hk4.cellAt q0_6
    replace q0_7 := hk4.cellAt q0_7
    replace q0_8 := hk4.cellAt q0_8
    replace q0_9 := hk4.cellAt q0_9
    replace q0_10 := hk4.cellAt q0_10
    replace q0_11 := hk4.cellAt q0_11
    replace q0_12 := hk4.cellAt q0_12
    have z4 := hk4.size
    have hB4 := hB3.trans hk4
    clear hk4
    have hE4 : Ext w w4 := hB4
    clear hb4
    obtain ⟨vx1u, vx1s, vx1t, vx1q, hvx1, ⟨vx1A, vx1n, vx1c, hvx1a, -⟩, ⟨vx1B, vx1m, vx1d, hvx1b, -⟩, ⟨vx1C, vx1k, vx1e, hvx1t, -⟩, hvx1q⟩ := id ox1
    obtain ⟨vx1V, vx1w, vx1f, hvx1r⟩ := hvx1q.form
    clear hvx1q
    subst hvx1a hvx1b hvx1t hvx1r hvx1
    go_wp2_with fail
    refine (replicaOk_i _ _ _ _ (by exact ox1.rd.keep (keepE' (by repeat' (first | with_reducible exact Ext.refl _ | with_reducible assumption | with_reducible refine Ext.set ?_ ?_ _ _ | with_reducible refine Ext.alloc ?_ _ | with_reducible refine Ext.drew ?_ | with_reducible refine Ext.drewN ?_ _ | with_reducible refine Ext.trans ?_ (by with_reducible assumption) | omega | (simp; done) | (simp; omega))) (by first | omega | (simp; done) | (simp; omega)))) (by first | omega | (simp; done) | (simp; omega))).mono ?_
    rintro e5 w5 ⟨rfl, hb5⟩
    have hk5 : Ext w4 w5 := by repeat' (first | with_reducible exact Ext.refl _ | with_reducible assumption | with_reducible refine Ext.set ?_ ?_ _ _ | with_reducible refine Ext.alloc ?_ _ | with_reducible refine Ext.drew ?_ | with_reducible refine Ext.drewN ?_ _ | with_reducible refine Ext.trans ?_ (by with_reducible assumption) | omega | (simp; done) | (simp; omega))
    have q1_0 : w5.cell? ⟨w4.heap.size, 0, none⟩ = some (.int .i64 (l0).me) := hb5.cellAt (new_box _ _ #[.int .i64 (l0).me, .int .i64 (l0).of, .int .i64 (l0).mode, .int .i64 (l0).view, .int .i64 (l0).normal, .int .i64 (l0).commit, .int .i64 (l0).log.base, .slice vx1A vx1n vx1c, .slice vx1B vx1m vx1d, .slice vx1C vx1k vx1e, .slice vx1V vx1w vx1f, .int .i64 (l0).cell, .int .i64 (l0).nonce] _ 0 _ (by simp) rfl)
    have q1_1 : w5.cell? ⟨w4.heap.size, 1, none⟩ = some (.int .i64 (l0).of) := hb5.cellAt (new_box _ _ #[.int .i64 (l0).me, .int .i64 (l0).of, .int .i64 (l0).mode, .int .i64 (l0).view, .int .i64 (l0).normal, .int .i64 (l0).commit, .int .i64 (l0).log.base, .slice vx1A vx1n vx1c, .slice vx1B vx1m vx1d, .slice vx1C vx1k vx1e, .slice vx1V vx1w vx1f, .int .i64 (l0).cell, .int .i64 (l0).nonce] _ 1 _ (by simp) rfl)
    have q1_2 : w5.cell? ⟨w4.heap.size, 2, none⟩ = some (.int .i64 (l0).mode) := hb5.cellAt (new_box _ _ #[.int .i64 (l0).me, .int .i64 (l0).of, .int .i64 (l0).mode, .int .i64 (l0).view, .int .i64 (l0).normal, .int .i64 (l0).commit, .int .i64 (l0).log.base, .slice vx1A vx1n vx1c, .slice vx1B vx1m vx1d, .slice vx1C vx1k vx1e, .slice vx1V vx1w vx1f, .int .i64 (l0).cell, .int .i64 (l0).nonce] _ 2 _ (by simp) rfl)
    have q1_3 : w5.cell? ⟨w4.heap.size, 3, none⟩ = some (.int .i64 (l0).view) := hb5.cellAt (new_box _ _ #[.int .i64 (l0).me, .int .i64 (l0).of, .int .i64 (l0).mode, .int .i64 (l0).view, .int .i64 (l0).normal, .int .i64 (l0).commit, .int .i64 (l0).log.base, .slice vx1A vx1n vx1c, .slice vx1B vx1m vx1d, .slice vx1C vx1k vx1e, .slice vx1V vx1w vx1f, .int .i64 (l0).cell, .int .i64 (l0).nonce] _ 3 _ (by simp) rfl)
    have q1_4 : w5.cell? ⟨w4.heap.size, 4, none⟩ = some (.int .i64 (l0).normal) := hb5.cellAt (new_box _ _ #[.int .i64 (l0).me, .int .i64 (l0).of, .int .i64 (l0).mode, .int .i64 (l0).view, .int .i64 (l0).normal, .int .i64 (l0).commit, .int .i64 (l0).log.base, .slice vx1A vx1n vx1c, .slice vx1B vx1m vx1d, .slice vx1C vx1k vx1e, .slice vx1V vx1w vx1f, .int .i64 (l0).cell, .int .i64 (l0).nonce] _ 4 _ (by simp) rfl)
    have q1_5 : w5.cell? ⟨w4.heap.size, 5, none⟩ = some (.int .i64 (l0).commit) := hb5.cellAt (new_box _ _ #[.int .i64 (l0).me, .int .i64 (l0).of, .int .i64 (l0).mode, .int .i64 (l0).view, .int .i64 (l0).normal, .int .i64 (l0).commit, .int .i64 (l0).log.base, .slice vx1A vx1n vx1c, .slice vx1B vx1m vx1d, .slice vx1C vx1k vx1e, .slice vx1V vx1w vx1f, .int .i64 (l0).cell, .int .i64 (l0).nonce] _ 5 _ (by simp) rfl)
    have q1_6 : w5.cell? ⟨w4.heap.size, 6, none⟩ = some (.int .i64 (l0).log.base) := hb5.cellAt (new_box _ _ #[.int .i64 (l0).me, .int .i64 (l0).of, .int .i64 (l0).mode, .int .i64 (l0).view, .int .i64 (l0).normal, .int .i64 (l0).commit, .int .i64 (l0).log.base, .slice vx1A vx1n vx1c, .slice vx1B vx1m vx1d, .slice vx1C vx1k vx1e, .slice vx1V vx1w vx1f, .int .i64 (l0).cell, .int .i64 (l0).nonce] _ 6 _ (by simp) rfl)
    have q1_7 : w5.cell? ⟨w4.heap.size, 7, none⟩ = some (.slice vx1A vx1n vx1c) := hb5.cellAt (new_box _ _ #[.int .i64 (l0).me, .int .i64 (l0).of, .int .i64 (l0).mode, .int .i64 (l0).view, .int .i64 (l0).normal, .int .i64 (l0).commit, .int .i64 (l0).log.base, .slice vx1A vx1n vx1c, .slice vx1B vx1m vx1d, .slice vx1C vx1k vx1e, .slice vx1V vx1w vx1f, .int .i64 (l0).cell, .int .i64 (l0).nonce] _ 7 _ (by simp) rfl)
    have q1_8 : w5.cell? ⟨w4.heap.size, 8, none⟩ = some (.slice vx1B vx1m vx1d) := hb5.cellAt (new_box _ _ #[.int .i64 (l0).me, .int .i64 (l0).of, .int .i64 (l0).mode, .int .i64 (l0).view, .int .i64 (l0).normal, .int .i64 (l0).commit, .int .i64 (l0).log.base, .slice vx1A vx1n vx1c, .slice vx1B vx1m vx1d, .slice vx1C vx1k vx1e, .slice vx1V vx1w vx1f, .int .i64 (l0).cell, .int .i64 (l0).nonce] _ 8 _ (by simp) rfl)
    have q1_9 : w5.cell? ⟨w4.heap.size, 9, none⟩ = some (.slice vx1C vx1k vx1e) := hb5.cellAt (new_box _ _ #[.int .i64 (l0).me, .int .i64 (l0).of, .int .i64 (l0).mode, .int .i64 (l0).view, .int .i64 (l0).normal, .int .i64 (l0).commit, .int .i64 (l0).log.base, .slice vx1A vx1n vx1c, .slice vx1B vx1m vx1d, .slice vx1C vx1k vx1e, .slice vx1V vx1w vx1f, .int .i64 (l0).cell, .int .i64 (l0).nonce] _ 9 _ (by simp) rfl)
    have q1_10 : w5.cell? ⟨w4.heap.size, 10, none⟩ = some (.slice vx1V vx1w vx1f) := hb5.cellAt (new_box _ _ #[.int .i64 (l0).me, .int .i64 (l0).of, .int .i64 (l0).mode, .int .i64 (l0).view, .int .i64 (l0).normal, .int .i64 (l0).commit, .int .i64 (l0).log.base, .slice vx1A vx1n vx1c, .slice vx1B vx1m vx1d, .slice vx1C vx1k vx1e, .slice vx1V vx1w vx1f, .int .i64 (l0).cell, .int .i64 (l0).nonce] _ 10 _ (by simp) rfl)
    have q1_11 : w5.cell? ⟨w4.heap.size, 11, none⟩ = some (.int .i64 (l0).cell) := hb5.cellAt (new_box _ _ #[.int .i64 (l0).me, .int .i64 (l0).of, .int .i64 (l0).mode, .int .i64 (l0).view, .int .i64 (l0).normal, .int .i64 (l0).commit, .int .i64 (l0).log.base, .slice vx1A vx1n vx1c, .slice vx1B vx1m vx1d, .slice vx1C vx1k vx1e, .slice vx1V vx1w vx1f, .int .i64 (l0).cell, .int .i64 (l0).nonce] _ 11 _ (by simp) rfl)
    have q1_12 : w5.cell? ⟨w4.heap.size, 12, none⟩ = some (.int .i64 (l0).nonce) := hb5.cellAt (new_box _ _ #[.int .i64 (l0).me, .int .i64 (l0).of, .int .i64 (l0).mode, .int .i64 (l0).view, .int .i64 (l0).normal, .int .i64 (l0).commit, .int .i64 (l0).log.base, .slice vx1A vx1n vx1c, .slice vx1B vx1m vx1d, .slice vx1C vx1k vx1e, .slice vx1V vx1w vx1f, .int .i64 (l0).cell, .int .i64 (l0).nonce] _ 12 _ (by simp) rfl)
    have zb2 : w4.heap.size < w5.heap.size := World.block_lt_of_cell? _ _ q1_0
    replace q0_0 := hk5.cellAt q0_0
    replace q0_1 := hk5.cellAt q0_1
    replace q0_2 := hk5.cellAt q0_2
    replace q0_3 := hk5.cellAt q0_3
    replace q0_4 := hk5.cellAt q0_4
    replace q0_5 := hk5.cellAt q0_5
    replace q0_6 := hk5.cellAt q0_6
    replace q0_7 := hk5.cellAt q0_7
    replace q0_8 := hk5.cellAt q0_8
    replace q0_9 := hk5.cellAt q0_9
    replace q0_10 := hk5.cellAt q0_10
    replace q0_11 := hk5.cellAt q0_11
    replace q0_12 := hk5.cellAt q0_12
    have z5 := hk5.size
    replace ox1 := ox1.keep (keepE hk5 (by omega))
    have hB5 := hB4.trans hk5
    clear hk5
    have hE5 : Ext w w5 := hB5
    clear hb5
    go_wp2_with fail
    go_region_held3 (fun w' => w'.cell? ⟨w.heap.size, 0, none⟩ = some (.int .i64 l0.me) ∧ w'.cell? ⟨w.heap.size, 1, none⟩ = some (.int .i64 l0.of) ∧ w'.cell? ⟨w.heap.size, 2, none⟩ = some (.int .i64 l0.mode) ∧ w'.cell? ⟨w.heap.size, 3, none⟩ = some (.int .i64 l0.view) ∧ w'.cell? ⟨w.heap.size, 4, none⟩ = some (.int .i64 l0.normal) ∧ w'.cell? ⟨w.heap.size, 5, none⟩ = some (.int .i64 l0.commit) ∧ w'.cell? ⟨w.heap.size, 6, none⟩ = some (.int .i64 l0.log.base) ∧ w'.cell? ⟨w.heap.size, 7, none⟩ = some (u0) ∧ w'.cell? ⟨w.heap.size, 8, none⟩ = some (s0) ∧ w'.cell? ⟨w.heap.size, 9, none⟩ = some (t0) ∧ w'.cell? ⟨w.heap.size, 10, none⟩ = some (q0) ∧ w'.cell? ⟨w.heap.size, 11, none⟩ = some (.int .i64 l0.cell) ∧ w'.cell? ⟨w.heap.size, 12, none⟩ = some (.int .i64 l0.nonce) ∧ w'.cell? ⟨w4.heap.size, 0, none⟩ = some (.int .i64 (l0).me) ∧ w'.cell? ⟨w4.heap.size, 1, none⟩ = some (.int .i64 (l0).of) ∧ w'.cell? ⟨w4.heap.size, 2, none⟩ = some (.int .i64 (l0).mode) ∧ w'.cell? ⟨w4.heap.size, 3, none⟩ = some (.int .i64 (l0).view) ∧ w'.cell? ⟨w4.heap.size, 4, none⟩ = some (.int .i64 (l0).normal) ∧ w'.cell? ⟨w4.heap.size, 5, none⟩ = some (.int .i64 (l0).commit) ∧ w'.cell? ⟨w4.heap.size, 6, none⟩ = some (.int .i64 (l0).log.base) ∧ w'.cell? ⟨w4.heap.size, 7, none⟩ = some (.slice vx1A vx1n vx1c) ∧ w'.cell? ⟨w4.heap.size, 8, none⟩ = some (.slice vx1B vx1m vx1d) ∧ w'.cell? ⟨w4.heap.size, 9, none⟩ = some (.slice vx1C vx1k vx1e) ∧ w'.cell? ⟨w4.heap.size, 10, none⟩ = some (.slice vx1V vx1w vx1f) ∧ w'.cell? ⟨w4.heap.size, 11, none⟩ = some (.int .i64 (l0).cell) ∧ w'.cell? ⟨w4.heap.size, 12, none⟩ = some (.int .i64 (l0).nonce)) (exact ⟨q0_0, q0_1, q0_2, q0_3, q0_4, q0_5, q0_6, q0_7, q0_8, q0_9, q0_10, q0_11, q0_12, q1_0, q1_1, q1_2, q1_3, q1_4, q1_5, q1_6, q1_7, q1_8, q1_9, q1_10, q1_11, q1_12⟩)
      (first
        | (go_at_call 36; refine (eqReplica_same _ _ _ _ _ _ (by exact ox1.rd.keep (keepE' (by first | exact Ext.refl _ | exact (Ext.refl _).drew | exact (Ext.refl _).drewN _) (by first | omega | (simp; done) | (simp; omega)))) (by first | omega | (simp; done) | (simp; omega)) (by exact ox2.rd.keep (keepE' (by first | exact Ext.refl _ | exact (Ext.refl _).drew | exact (Ext.refl _).drewN _) (by first | omega | (simp; done) | (simp; omega)))) (by first | omega | (simp; done) | (simp; omega))).mono ?_; rintro e7 w7 ⟨rfl, hb7⟩; have hk7 : Ext w6 w7 := (by first | exact hb7 | exact ((Ext.refl _).drew).trans hb7 | exact ((Ext.refl _).drewN _).trans hb7); replace q0_0 := hk7.cellAt q0_0; replace q0_1 := hk7.cellAt q0_1; replace q0_2 := hk7.cellAt q0_2; replace q0_3 := hk7.cellAt q0_3; replace q0_4 := hk7.cellAt q0_4; replace q0_5 := hk7.cellAt q0_5; replace q0_6 := hk7.cellAt q0_6; replace q0_7 := hk7.cellAt q0_7; replace q0_8 := hk7.cellAt q0_8; replace q0_9 := hk7.cellAt q0_9; replace q0_10 := hk7.cellAt q0_10; replace q0_11 := hk7.cellAt q0_11; replace q0_12 := hk7.cellAt q0_12; replace q1_0 := hk7.cellAt q1_0; replace q1_1 := hk7.cellAt q1_1; replace q1_2 := hk7.cellAt q1_2; replace q1_3 := hk7.cellAt q1_3; replace q1_4 := hk7.cellAt q1_4; replace q1_5 := hk7.cellAt q1_5; replace q1_6 := hk7.cellAt q1_6; replace q1_7 := hk7.cellAt q1_7; replace q1_8 := hk7.cellAt q1_8; replace q1_9 := hk7.cellAt q1_9; replace q1_10 := hk7.cellAt q1_10; replace q1_11 := hk7.cellAt q1_11; replace q1_12 := hk7.cellAt q1_12; have z7 := hk7.size; replace ox1 := ox1.keep (keepE hk7 (by omega)); replace ox2 := ox2.keep (keepE hk7 (by omega)); have hB7 := hB6.trans hk7; clear hk7; have hE7 : Ext w w7 := hB7; clear hb7; clear ox2)
        | (go_at_call 34; refine (toReplica_v _ _ _ _ (by exact r0.keep (keepE' (by first | exact hB5 | exact hB5.drew | exact hB5.drewN _) (Nat.le_refl _))) (by first | omega | (simp; done) | (simp; omega)) (by omega)).mono ?_; rintro e6 w6 ⟨vx2, rfl, ox2, hb6⟩; have hk6 : Ext w5 w6 := (by first | exact hb6 | exact ((Ext.refl _).drew).trans hb6 | exact ((Ext.refl _).drewN _).trans hb6); replace q0_0 := hk6.cellAt q0_0; replace q0_1 := hk6.cellAt q0_1; replace q0_2 := hk6.cellAt q0_2; replace q0_3 := hk6.cellAt q0_3; replace q0_4 := hk6.cellAt q0_4; replace q0_5 := hk6.cellAt q0_5; replace q0_6 := hk6.cellAt q0_6; replace q0_7 := hk6.cellAt q0_7; replace q0_8 := hk6.cellAt q0_8; replace q0_9 := hk6.cellAt q0_9; replace q0_10 := hk6.cellAt q0_10; replace q0_11 := hk6.cellAt q0_11; replace q0_12 := hk6.cellAt q0_12; replace q1_0 := hk6.cellAt q1_0; replace q1_1 := hk6.cellAt q1_1; replace q1_2 := hk6.cellAt q1_2; replace q1_3 := hk6.cellAt q1_3; replace q1_4 := hk6.cellAt q1_4; replace q1_5 := hk6.cellAt q1_5; replace q1_6 := hk6.cellAt q1_6; replace q1_7 := hk6.cellAt q1_7; replace q1_8 := hk6.cellAt q1_8; replace q1_9 := hk6.cellAt q1_9; replace q1_10 := hk6.cellAt q1_10; replace q1_11 := hk6.cellAt q1_11; replace q1_12 := hk6.cellAt q1_12; have z6 := hk6.size; replace ox1 := ox1.keep (keepE hk6 (by omega)); have hB6 := hB5.trans hk6; clear hk6; have hE6 : Ext w w6 := hB6; clear hb6))
    go_wp2
    go_ret
    exact ⟨rfl, hE7⟩
  · skip
    obtain ⟨u0, s0, t0, q0, hv0, -⟩ := id r0
    subst hv0
    go_enter Try.func7, Try.ntmps7
    go_wp2_with fail
    refine (szReplica_no _ _ _ _ _ (by exact r0.keep (keepE' (by repeat' (first | with_reducible exact Ext.refl _ | with_reducible assumption | with_reducible refine Ext.set ?_ ?_ _ _ | with_reducible refine Ext.alloc ?_ _ | with_reducible refine Ext.drew ?_ | with_reducible refine Ext.drewN ?_ _ | with_reducible refine Ext.trans ?_ (by with_reducible assumption) | omega | (simp; done) | (simp; omega))) (Nat.le_refl _))) (by first | omega | (simp; done) | (simp; omega)) (by omega) (by omega) (by omega)).mono ?_
    rintro e1 w1 ⟨rfl, hb1⟩
    have hk1 : Ext w w1 := by repeat' (first | with_reducible exact Ext.refl _ | with_reducible assumption | with_reducible refine Ext.set ?_ ?_ _ _ | with_reducible refine Ext.alloc ?_ _ | with_reducible refine Ext.drew ?_ | with_reducible refine Ext.drewN ?_ _ | with_reducible refine Ext.trans ?_ (by with_reducible assumption) | omega | (simp; done) | (simp; omega))
    have q0_0 : w1.cell? ⟨w.heap.size, 0, none⟩ = some (.int .i64 l0.me) := hb1.cellAt (new_box _ _ #[.int .i64 l0.me, .int .i64 l0.of, .int .i64 l0.mode, .int .i64 l0.view, .int .i64 l0.normal, .int .i64 l0.commit, .int .i64 l0.log.base, u0, s0, t0, q0, .int .i64 l0.cell, .int .i64 l0.nonce] _ 0 _ (by simp) rfl)
    have q0_1 : w1.cell? ⟨w.heap.size, 1, none⟩ = some (.int .i64 l0.of) := hb1.cellAt (new_box _ _ #[.int .i64 l0.me, .int .i64 l0.of, .int .i64 l0.mode, .int .i64 l0.view, .int .i64 l0.normal, .int .i64 l0.commit, .int .i64 l0.log.base, u0, s0, t0, q0, .int .i64 l0.cell, .int .i64 l0.nonce] _ 1 _ (by simp) rfl)
    have q0_2 : w1.cell? ⟨w.heap.size, 2, none⟩ = some (.int .i64 l0.mode) := hb1.cellAt (new_box _ _ #[.int .i64 l0.me, .int .i64 l0.of, .int .i64 l0.mode, .int .i64 l0.view, .int .i64 l0.normal, .int .i64 l0.commit, .int .i64 l0.log.base, u0, s0, t0, q0, .int .i64 l0.cell, .int .i64 l0.nonce] _ 2 _ (by simp) rfl)
    have q0_3 : w1.cell? ⟨w.heap.size, 3, none⟩ = some (.int .i64 l0.view) := hb1.cellAt (new_box _ _ #[.int .i64 l0.me, .int .i64 l0.of, .int .i64 l0.mode, .int .i64 l0.view, .int .i64 l0.normal, .int .i64 l0.commit, .int .i64 l0.log.base, u0, s0, t0, q0, .int .i64 l0.cell, .int .i64 l0.nonce] _ 3 _ (by simp) rfl)
    have q0_4 : w1.cell? ⟨w.heap.size, 4, none⟩ = some (.int .i64 l0.normal) := hb1.cellAt (new_box _ _ #[.int .i64 l0.me, .int .i64 l0.of, .int .i64 l0.mode, .int .i64 l0.view, .int .i64 l0.normal, .int .i64 l0.commit, .int .i64 l0.log.base, u0, s0, t0, q0, .int .i64 l0.cell, .int .i64 l0.nonce] _ 4 _ (by simp) rfl)
    have q0_5 : w1.cell? ⟨w.heap.size, 5, none⟩ = some (.int .i64 l0.commit) := hb1.cellAt (new_box _ _ #[.int .i64 l0.me, .int .i64 l0.of, .int .i64 l0.mode, .int .i64 l0.view, .int .i64 l0.normal, .int .i64 l0.commit, .int .i64 l0.log.base, u0, s0, t0, q0, .int .i64 l0.cell, .int .i64 l0.nonce] _ 5 _ (by simp) rfl)
    have q0_6 : w1.cell? ⟨w.heap.size, 6, none⟩ = some (.int .i64 l0.log.base) := hb1.cellAt (new_box _ _ #[.int .i64 l0.me, .int .i64 l0.of, .int .i64 l0.mode, .int .i64 l0.view, .int .i64 l0.normal, .int .i64 l0.commit, .int .i64 l0.log.base, u0, s0, t0, q0, .int .i64 l0.cell, .int .i64 l0.nonce] _ 6 _ (by simp) rfl)
    have q0_7 : w1.cell? ⟨w.heap.size, 7, none⟩ = some u0 := hb1.cellAt (new_box _ _ #[.int .i64 l0.me, .int .i64 l0.of, .int .i64 l0.mode, .int .i64 l0.view, .int .i64 l0.normal, .int .i64 l0.commit, .int .i64 l0.log.base, u0, s0, t0, q0, .int .i64 l0.cell, .int .i64 l0.nonce] _ 7 _ (by simp) rfl)
    have q0_8 : w1.cell? ⟨w.heap.size, 8, none⟩ = some s0 := hb1.cellAt (new_box _ _ #[.int .i64 l0.me, .int .i64 l0.of, .int .i64 l0.mode, .int .i64 l0.view, .int .i64 l0.normal, .int .i64 l0.commit, .int .i64 l0.log.base, u0, s0, t0, q0, .int .i64 l0.cell, .int .i64 l0.nonce] _ 8 _ (by simp) rfl)
    have q0_9 : w1.cell? ⟨w.heap.size, 9, none⟩ = some t0 := hb1.cellAt (new_box _ _ #[.int .i64 l0.me, .int .i64 l0.of, .int .i64 l0.mode, .int .i64 l0.view, .int .i64 l0.normal, .int .i64 l0.commit, .int .i64 l0.log.base, u0, s0, t0, q0, .int .i64 l0.cell, .int .i64 l0.nonce] _ 9 _ (by simp) rfl)
    have q0_10 : w1.cell? ⟨w.heap.size, 10, none⟩ = some q0 := hb1.cellAt (new_box _ _ #[.int .i64 l0.me, .int .i64 l0.of, .int .i64 l0.mode, .int .i64 l0.view, .int .i64 l0.normal, .int .i64 l0.commit, .int .i64 l0.log.base, u0, s0, t0, q0, .int .i64 l0.cell, .int .i64 l0.nonce] _ 10 _ (by simp) rfl)
    have q0_11 : w1.cell? ⟨w.heap.size, 11, none⟩ = some (.int .i64 l0.cell) := hb1.cellAt (new_box _ _ #[.int .i64 l0.me, .int .i64 l0.of, .int .i64 l0.mode, .int .i64 l0.view, .int .i64 l0.normal, .int .i64 l0.commit, .int .i64 l0.log.base, u0, s0, t0, q0, .int .i64 l0.cell, .int .i64 l0.nonce] _ 11 _ (by simp) rfl)
    have q0_12 : w1.cell? ⟨w.heap.size, 12, none⟩ = some (.int .i64 l0.nonce) := hb1.cellAt (new_box _ _ #[.int .i64 l0.me, .int .i64 l0.of, .int .i64 l0.mode, .int .i64 l0.view, .int .i64 l0.normal, .int .i64 l0.commit, .int .i64 l0.log.base, u0, s0, t0, q0, .int .i64 l0.cell, .int .i64 l0.nonce] _ 12 _ (by simp) rfl)
    have zb3 : w.heap.size < w1.heap.size := World.block_lt_of_cell? _ _ q0_0
    have z1 := hk1.size
    have hB1 := hk1
    clear hk1
    have hE1 : Ext w w1 := hB1
    clear hb1
    go_wp2
    go_ret
    exact ⟨rfl, hE1⟩

set_option maxRecDepth 100000 in
theorem lifted (os : Os) (started : os.Started) (H : Type) (enc : TypeId × Value → H) :
    ReturnsInHanded {} Try.checked os 7 .any (Rows.fnExactReplicaOkSpec.pre6 enc Try.prog Try.f7 Rows.fnExactReplicaOkRow.domain false) (Rows.fnExactReplicaOkSpec.post enc Try.prog Try.f7 false true false false) := by
  refine returnsInHanded_of_change (C := Try.checked) own started (by kernel_rfl) Try.func7
    (ChangeSpec.witness6 (enc := enc) (C := Try.checked) false ⟨#[], #[.agg #[.int .i64 0, .int .i64 0, .int .i64 0, .int .i64 0, .int .i64 0, .int .i64 0, .int .i64 0, .slice none 0 0, .slice none 0 0, .slice none 0 0, .slice none 0 0, .int .i64 0, .int .i64 0]], []⟩ 8 (by kernel_rfl) (by kernel_rfl) (by kernel_rfl) (by kernel_rfl)) ?_
  intro W base args ds gs before hval0 hW hcnd _
  have hval : ∀ (j : Nat) t v, Try.f7.params[j]? = some t → args[j]? = some v → Value.okWide Try.prog W .any base t v := hval0
  have hW' := hW
  obtain ⟨p, q, hA0, hV, rfl, hfz, hnd⟩ := hW
  have hA : DataW.TrodAll enc Try.prog W 0 (fun _ => true) true Try.f7.params.toList args.toList ds p := hA0
  rw [Try.params7] at hA hval
  obtain ⟨vv0, vs0, dd0, ds0, pp0, qq0, hargs, rfl, rfl, ht0, rr0⟩ := trodAll_cons hA
  obtain ⟨rfl, rfl, rfl⟩ := trodAll_nil rr0
  obtain rfl : args = #[vv0] := by cases args; simp_all
  obtain ⟨rfl, rfl⟩ := trodVars_none hV
  have trd0 := ht0
  have lts0 : ∀ x ∈ pp0, x.block < W.heap.size := by obtain ⟨m, hm⟩ := trd0; exact DataW.trod_lt m _ _ _ hm
  obtain ⟨l0, r0⟩ := open_Replica_arg (hval 0 66 vv0 rfl rfl) ht0
  clear hA0 hval0
  refine (walk vv0  l0  W r0).mono fun e W' ⟨he, bel⟩ => ?_
  subst he
  exact ⟨_, rfl, _, _, _, [], _, [], hW', trodAll_mk1 (shut_bool Try.underlying4 _), (trodAll_cons_mk (Below.trod laidOut (by kernel_rfl) (of_decide_eq_true (by kernel_rfl)) trd0 bel lts0) trodAll_mk0), rfl, Below.frame bel _, fun h => by cases h⟩

theorem over : Rows.fnExactReplicaOkRow.holds Try.pinned (OpenSpec.ofChange Rows.fnExactReplicaOkSpec) :=
  OpenClaim.holds_of_wide 7 Try.f7 rfl rfl rfl rfl rfl rfl rfl ⟨rfl, rfl, rfl, rfl, rfl⟩ rfl rfl rfl rfl rfl (by as_aux_lemma => kernel_rfl) Try.func7 (by as_aux_lemma => kernel_rfl)
    (of_decide_eq_true (by as_aux_lemma => kernel_rfl)) (by as_aux_lemma => unfold Func.isWrapper; first | (rw [if_pos (by decide +kernel)]; kernel_rfl) | (rw [if_neg (by decide +kernel)]; exact ⟨rfl, rfl⟩))
    (fun os started H enc _ => lifted os started H enc)

theorem proved : Rows.FnExactReplicaOkSaid := over
#print axioms proved
end Go.Proofs.Ytbfbdhjeoknjkaa.fnExactReplicaOk
