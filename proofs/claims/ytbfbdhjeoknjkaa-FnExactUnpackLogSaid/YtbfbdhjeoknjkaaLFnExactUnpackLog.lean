/-
  FnExactUnpackLog returns true for every input: the program's UnpackLog returns what the reference's does, leaves its arguments alone, and returns memory of its own.
  Conditions: none: for every argument, in whatever memory.
-/
import Derived.Test.YtbfbdhjeoknjkaaOpen
import Derived.Test.YtbfbdhjeoknjkaaUnpackS
import Derived.Test.YtbfbdhjeoknjkaaLog
import Derived.Test.YtbfbdhjeoknjkaaMg1
namespace Go.Proofs.Ytbfbdhjeoknjkaa.fnExactUnpackLog
open Go.ChangeShapes Go.WideShapes Go.ChangeAt Go.RowKit
set_option linter.unusedVariables false
set_option maxRecDepth 1000000

set_option maxRecDepth 100000 in
set_option maxHeartbeats 2000000 in
theorem walk (vv0 : Value) (l0 : List UInt8) (a1 : Int) (w : World) (r0 : R_ByteS w w.heap.size vv0 l0) (f1 : Fits a1) :
    Calls Try.prog 6 #[vv0, .int .i64 a1] w fun e w' => e = .returned (.bool true) ∧ Ext w w' := by
  have hlen := r0.len
  obtain ⟨A0, n0, c0, rfl, hl0, hnc0, hcm0, hr0⟩ := r0
  by_cases hbig : n0 ≤ 1048576
  · have r0 : R_ByteS w w.heap.size (.slice A0 n0 c0) l0 := RdS.of hr0 hl0 hnc0 hcm0
    have hsz0 : l0.length ≤ 1048576 := by omega
    clear hl0 hr0 hcm0 hlen
    have nk0 : NK_ByteS l0 ≤ 1048576 := hsz0
    have nk1 : NK_Log (unpackL l0 a1).1 ≤ 4194304 := unpackL_nk l0 a1
    go_enter Try.func6, Try.ntmps6
    go_wp2_with fail
    refine (toByteS_v _ _ _ _ (by exact r0.keep (keepE' (by repeat' (first | with_reducible exact Ext.refl _ | with_reducible assumption | with_reducible refine Ext.set ?_ ?_ _ _ | with_reducible refine Ext.alloc ?_ _ | with_reducible refine Ext.drew ?_ | with_reducible refine Ext.drewN ?_ _ | with_reducible refine Ext.trans ?_ (by with_reducible assumption) | omega | (simp; done) | (simp; omega))) (Nat.le_refl _))) (by first | omega | (simp; done) | (simp; omega)) (by omega)).mono ?_
    rintro e1 w1 ⟨vx0, rfl, ox0, hb1⟩
    have hk1 : Ext w w1 := by repeat' (first | with_reducible exact Ext.refl _ | with_reducible assumption | with_reducible refine Ext.set ?_ ?_ _ _ | with_reducible refine Ext.alloc ?_ _ | with_reducible refine Ext.drew ?_ | with_reducible refine Ext.drewN ?_ _ | with_reducible refine Ext.trans ?_ (by with_reducible assumption) | omega | (simp; done) | (simp; omega))
    have z1 := hk1.size
    have hB1 := hk1
    clear hk1
    have hE1 : Ext w w1 := hB1
    clear hb1
    go_wp2_with fail
    refine (unpackLog_s _ _ _ _ _ (by exact ox0.rd.keep (keepE' (by repeat' (first | with_reducible exact Ext.refl _ | with_reducible assumption | with_reducible refine Ext.set ?_ ?_ _ _ | with_reducible refine Ext.alloc ?_ _ | with_reducible refine Ext.drew ?_ | with_reducible refine Ext.drewN ?_ _ | with_reducible refine Ext.trans ?_ (by with_reducible assumption) | omega | (simp; done) | (simp; omega))) (by first | omega | (simp; done) | (simp; omega)))) (by omega) (by omega)).mono ?_
    rintro e2 w2 ⟨vx1, rfl, ox1, hb2⟩
    have hk2 : Ext w1 w2 := by repeat' (first | with_reducible exact Ext.refl _ | with_reducible assumption | with_reducible refine Ext.set ?_ ?_ _ _ | with_reducible refine Ext.alloc ?_ _ | with_reducible refine Ext.drew ?_ | with_reducible refine Ext.drewN ?_ _ | with_reducible refine Ext.trans ?_ (by with_reducible assumption) | omega | (simp; done) | (simp; omega))
    have z2 := hk2.size
    replace ox0 := ox0.keep (keepE hk2 (by omega))
    have hB2 := hB1.trans hk2
    clear hk2
    have hE2 : Ext w w2 := hB2
    clear hb2
    obtain ⟨vx1u, vx1s, vx1t, hvx1, ⟨vx1A, vx1n, vx1c, hvx1a, -⟩, ⟨vx1B, vx1m, vx1d, hvx1b, -⟩, ⟨vx1C, vx1k, vx1e, hvx1t, -⟩⟩ := id ox1
    subst hvx1a hvx1b hvx1t hvx1
    clear ox0
    go_wp2_with fail
    refine (toByteS_v _ _ _ _ (by exact r0.keep (keepE' (by repeat' (first | with_reducible exact Ext.refl _ | with_reducible assumption | with_reducible refine Ext.set ?_ ?_ _ _ | with_reducible refine Ext.alloc ?_ _ | with_reducible refine Ext.drew ?_ | with_reducible refine Ext.drewN ?_ _ | with_reducible refine Ext.trans ?_ (by with_reducible assumption) | omega | (simp; done) | (simp; omega))) (Nat.le_refl _))) (by first | omega | (simp; done) | (simp; omega)) (by omega)).mono ?_
    rintro e3 w3 ⟨vx2, rfl, ox2, hb3⟩
    have hk3 : Ext w2 w3 := by repeat' (first | with_reducible exact Ext.refl _ | with_reducible assumption | with_reducible refine Ext.set ?_ ?_ _ _ | with_reducible refine Ext.alloc ?_ _ | with_reducible refine Ext.drew ?_ | with_reducible refine Ext.drewN ?_ _ | with_reducible refine Ext.trans ?_ (by with_reducible assumption) | omega | (simp; done) | (simp; omega))
    have q0_0 : w3.cell? ⟨w2.heap.size, 0, none⟩ = some (.int .i64 ((unpackL l0 a1).1).base) := hb3.cellAt (new_box _ _ #[.int .i64 ((unpackL l0 a1).1).base, .slice vx1A vx1n vx1c, .slice vx1B vx1m vx1d, .slice vx1C vx1k vx1e] _ 0 _ (by simp) rfl)
    have q0_1 : w3.cell? ⟨w2.heap.size, 1, none⟩ = some (.slice vx1A vx1n vx1c) := hb3.cellAt (new_box _ _ #[.int .i64 ((unpackL l0 a1).1).base, .slice vx1A vx1n vx1c, .slice vx1B vx1m vx1d, .slice vx1C vx1k vx1e] _ 1 _ (by simp) rfl)
    have q0_2 : w3.cell? ⟨w2.heap.size, 2, none⟩ = some (.slice vx1B vx1m vx1d) := hb3.cellAt (new_box _ _ #[.int .i64 ((unpackL l0 a1).1).base, .slice vx1A vx1n vx1c, .slice vx1B vx1m vx1d, .slice vx1C vx1k vx1e] _ 2 _ (by simp) rfl)
    have q0_3 : w3.cell? ⟨w2.heap.size, 3, none⟩ = some (.slice vx1C vx1k vx1e) := hb3.cellAt (new_box _ _ #[.int .i64 ((unpackL l0 a1).1).base, .slice vx1A vx1n vx1c, .slice vx1B vx1m vx1d, .slice vx1C vx1k vx1e] _ 3 _ (by simp) rfl)
    have zb1 : w2.heap.size < w3.heap.size := World.block_lt_of_cell? _ _ q0_0
    have z3 := hk3.size
    replace ox1 := ox1.keep (keepE hk3 (by omega))
    have hB3 := hB2.trans hk3
    clear hk3
    have hE3 : Ext w w3 := hB3
    clear hb3
    simp only [World.size_alloc] at ox2
    go_wp2_with fail
    refine (unpackLog_i _ _ _ _ _ (by exact ox2.rd.keep (keepE' (by repeat' (first | with_reducible exact Ext.refl _ | with_reducible assumption | with_reducible refine Ext.set ?_ ?_ _ _ | with_reducible refine Ext.alloc ?_ _ | with_reducible refine Ext.drew ?_ | with_reducible refine Ext.drewN ?_ _ | with_reducible refine Ext.trans ?_ (by with_reducible assumption) | omega | (simp; done) | (simp; omega))) (by first | omega | (simp; done) | (simp; omega)))) (by omega) (by omega)).mono ?_
    rintro e4 w4 ⟨vx3, rfl, ox3, hb4⟩
    have hk4 : Ext w3 w4 := by repeat' (first | with_reducible exact Ext.refl _ | with_reducible assumption | with_reducible refine Ext.set ?_ ?_ _ _ | with_reducible refine Ext.alloc ?_ _ | with_reducible refine Ext.drew ?_ | with_reducible refine Ext.drewN ?_ _ | with_reducible refine Ext.trans ?_ (by with_reducible assumption) | omega | (simp; done) | (simp; omega))
    replace q0_0 := hk4.cellAt q0_0
    replace q0_1 := hk4.cellAt q0_1
    replace q0_2 := hk4.cellAt q0_2
    replace q0_3 := hk4.cellAt q0_3
    have z4 := hk4.size
    replace ox1 := ox1.keep (keepE hk4 (by omega))
    replace ox2 := ox2.keep (keepE hk4 (by omega))
    have hB4 := hB3.trans hk4
    clear hk4
    have hE4 : Ext w w4 := hB4
    clear hb4
    obtain ⟨vx3u, vx3s, vx3t, hvx3, ⟨vx3A, vx3n, vx3c, hvx3a, -⟩, ⟨vx3B, vx3m, vx3d, hvx3b, -⟩, ⟨vx3C, vx3k, vx3e, hvx3t, -⟩⟩ := id ox3
    subst hvx3a hvx3b hvx3t hvx3
    have zb2 : w2.heap.size < w4.heap.size := World.block_lt_of_cell? _ _ q0_0
    go_wp2_with fail
    refine (eqLog_v _ _ _ _ _ _ _ (by exact ox3.rd.keep (keepE' (by repeat' (first | with_reducible exact Ext.refl _ | with_reducible assumption | with_reducible refine Ext.set ?_ ?_ _ _ | with_reducible refine Ext.alloc ?_ _ | with_reducible refine Ext.drew ?_ | with_reducible refine Ext.drewN ?_ _ | with_reducible refine Ext.trans ?_ (by with_reducible assumption) | omega | (simp; done) | (simp; omega))) (by first | omega | (simp; done) | (simp; omega)))) (by first | omega | (simp; done) | (simp; omega)) (by exact ox1.rd.keep (keepE' (by repeat' (first | with_reducible exact Ext.refl _ | with_reducible assumption | with_reducible refine Ext.set ?_ ?_ _ _ | with_reducible refine Ext.alloc ?_ _ | with_reducible refine Ext.drew ?_ | with_reducible refine Ext.drewN ?_ _ | with_reducible refine Ext.trans ?_ (by with_reducible assumption) | omega | (simp; done) | (simp; omega))) (by first | omega | (simp; done) | (simp; omega)))) (by first | omega | (simp; done) | (simp; omega))).mono ?_
    rintro e5 w5 ⟨rfl, hb5⟩
    have hk5 : Ext w4 w5 := by repeat' (first | with_reducible exact Ext.refl _ | with_reducible assumption | with_reducible refine Ext.set ?_ ?_ _ _ | with_reducible refine Ext.alloc ?_ _ | with_reducible refine Ext.drew ?_ | with_reducible refine Ext.drewN ?_ _ | with_reducible refine Ext.trans ?_ (by with_reducible assumption) | omega | (simp; done) | (simp; omega))
    have q1_0 : w5.cell? ⟨w4.heap.size, 0, none⟩ = some (.int .i64 ((unpackL l0 a1).1).base) := hb5.cellAt (new_box _ _ #[.int .i64 ((unpackL l0 a1).1).base, .slice vx3A vx3n vx3c, .slice vx3B vx3m vx3d, .slice vx3C vx3k vx3e] _ 0 _ (by simp) rfl)
    have q1_1 : w5.cell? ⟨w4.heap.size, 1, none⟩ = some (.slice vx3A vx3n vx3c) := hb5.cellAt (new_box _ _ #[.int .i64 ((unpackL l0 a1).1).base, .slice vx3A vx3n vx3c, .slice vx3B vx3m vx3d, .slice vx3C vx3k vx3e] _ 1 _ (by simp) rfl)
    have q1_2 : w5.cell? ⟨w4.heap.size, 2, none⟩ = some (.slice vx3B vx3m vx3d) := hb5.cellAt (new_box _ _ #[.int .i64 ((unpackL l0 a1).1).base, .slice vx3A vx3n vx3c, .slice vx3B vx3m vx3d, .slice vx3C vx3k vx3e] _ 2 _ (by simp) rfl)
    have q1_3 : w5.cell? ⟨w4.heap.size, 3, none⟩ = some (.slice vx3C vx3k vx3e) := hb5.cellAt (new_box _ _ #[.int .i64 ((unpackL l0 a1).1).base, .slice vx3A vx3n vx3c, .slice vx3B vx3m vx3d, .slice vx3C vx3k vx3e] _ 3 _ (by simp) rfl)
    have zb3 : w4.heap.size < w5.heap.size := World.block_lt_of_cell? _ _ q1_0
    replace q0_0 := hk5.cellAt q0_0
    replace q0_1 := hk5.cellAt q0_1
    replace q0_2 := hk5.cellAt q0_2
    replace q0_3 := hk5.cellAt q0_3
    have z5 := hk5.size
    replace ox1 := ox1.keep (keepE hk5 (by omega))
    replace ox2 := ox2.keep (keepE hk5 (by omega))
    replace ox3 := ox3.keep (keepE hk5 (by omega))
    have hB5 := hB4.trans hk5
    clear hk5
    have hE5 : Ext w w5 := hB5
    clear hb5
    go_wp2_with fail
    refine (toByteS_v _ _ _ _ (by exact r0.keep (keepE' (by repeat' (first | with_reducible exact Ext.refl _ | with_reducible assumption | with_reducible refine Ext.set ?_ ?_ _ _ | with_reducible refine Ext.alloc ?_ _ | with_reducible refine Ext.drew ?_ | with_reducible refine Ext.drewN ?_ _ | with_reducible refine Ext.trans ?_ (by with_reducible assumption) | omega | (simp; done) | (simp; omega))) (Nat.le_refl _))) (by first | omega | (simp; done) | (simp; omega)) (by omega)).mono ?_
    rintro e6 w6 ⟨vx4, rfl, ox4, hb6⟩
    have hk6 : Ext w5 w6 := by repeat' (first | with_reducible exact Ext.refl _ | with_reducible assumption | with_reducible refine Ext.set ?_ ?_ _ _ | with_reducible refine Ext.alloc ?_ _ | with_reducible refine Ext.drew ?_ | with_reducible refine Ext.drewN ?_ _ | with_reducible refine Ext.trans ?_ (by with_reducible assumption) | omega | (simp; done) | (simp; omega))
    replace q0_0 := hk6.cellAt q0_0
    replace q0_1 := hk6.cellAt q0_1
    replace q0_2 := hk6.cellAt q0_2
    replace q0_3 := hk6.cellAt q0_3
    replace q1_0 := hk6.cellAt q1_0
    replace q1_1 := hk6.cellAt q1_1
    replace q1_2 := hk6.cellAt q1_2
    replace q1_3 := hk6.cellAt q1_3
    have z6 := hk6.size
    replace ox1 := ox1.keep (keepE hk6 (by omega))
    replace ox2 := ox2.keep (keepE hk6 (by omega))
    replace ox3 := ox3.keep (keepE hk6 (by omega))
    have hB6 := hB5.trans hk6
    clear hk6
    have hE6 : Ext w w6 := hB6
    clear hb6
    go_wp2_with fail
    refine (eqByteS_v _ _ _ _ _ _ _ (by exact ox2.rd.keep (keepE' (by repeat' (first | with_reducible exact Ext.refl _ | with_reducible assumption | with_reducible refine Ext.set ?_ ?_ _ _ | with_reducible refine Ext.alloc ?_ _ | with_reducible refine Ext.drew ?_ | with_reducible refine Ext.drewN ?_ _ | with_reducible refine Ext.trans ?_ (by with_reducible assumption) | omega | (simp; done) | (simp; omega))) (by first | omega | (simp; done) | (simp; omega)))) (by first | omega | (simp; done) | (simp; omega)) (by exact ox4.rd.keep (keepE' (by repeat' (first | with_reducible exact Ext.refl _ | with_reducible assumption | with_reducible refine Ext.set ?_ ?_ _ _ | with_reducible refine Ext.alloc ?_ _ | with_reducible refine Ext.drew ?_ | with_reducible refine Ext.drewN ?_ _ | with_reducible refine Ext.trans ?_ (by with_reducible assumption) | omega | (simp; done) | (simp; omega))) (by first | omega | (simp; done) | (simp; omega)))) (by first | omega | (simp; done) | (simp; omega))).mono ?_
    rintro e7 w7 ⟨rfl, hb7⟩
    have hk7 : Ext w6 w7 := by repeat' (first | with_reducible exact Ext.refl _ | with_reducible assumption | with_reducible refine Ext.set ?_ ?_ _ _ | with_reducible refine Ext.alloc ?_ _ | with_reducible refine Ext.drew ?_ | with_reducible refine Ext.drewN ?_ _ | with_reducible refine Ext.trans ?_ (by with_reducible assumption) | omega | (simp; done) | (simp; omega))
    replace q0_0 := hk7.cellAt q0_0
    replace q0_1 := hk7.cellAt q0_1
    replace q0_2 := hk7.cellAt q0_2
    replace q0_3 := hk7.cellAt q0_3
    replace q1_0 := hk7.cellAt q1_0
    replace q1_1 := hk7.cellAt q1_1
    replace q1_2 := hk7.cellAt q1_2
    replace q1_3 := hk7.cellAt q1_3
    have z7 := hk7.size
    replace ox1 := ox1.keep (keepE hk7 (by omega))
    replace ox2 := ox2.keep (keepE hk7 (by omega))
    replace ox3 := ox3.keep (keepE hk7 (by omega))
    replace ox4 := ox4.keep (keepE hk7 (by omega))
    have hB7 := hB6.trans hk7
    clear hk7
    have hE7 : Ext w w7 := hB7
    clear hb7
    clear ox4
    go_wp2_with fail
    refine (markByteS_v _ _ _ _ _ _ ox2 (by omega) (by omega) (by omega)).mono ?_
    rintro e8 w8 ⟨rfl, om8, hb8⟩
    have z8 := hb8.size
    replace q0_0 := hb8.cellAt q0_0 (by omega)
    replace q0_1 := hb8.cellAt q0_1 (by omega)
    replace q0_2 := hb8.cellAt q0_2 (by omega)
    replace q0_3 := hb8.cellAt q0_3 (by omega)
    replace q1_0 := hb8.cellAt q1_0 (by omega)
    replace q1_1 := hb8.cellAt q1_1 (by omega)
    replace q1_2 := hb8.cellAt q1_2 (by omega)
    replace q1_3 := hb8.cellAt q1_3 (by omega)
    replace ox1 := ox1.keep (keepF hb8 (by omega) (by omega))
    replace ox3 := ox3.keep (keepF hb8 (by omega) (by omega))
    have hB8 := hB7.fr hb8 (by omega)
    have hE8 : Ext w w8 := hB8
    clear hb8
    clear ox2
    clear om8
    go_wp2_with fail
    refine (eqLog_v _ _ _ _ _ _ _ (by exact ox3.rd.keep (keepE' (by repeat' (first | with_reducible exact Ext.refl _ | with_reducible assumption | with_reducible refine Ext.set ?_ ?_ _ _ | with_reducible refine Ext.alloc ?_ _ | with_reducible refine Ext.drew ?_ | with_reducible refine Ext.drewN ?_ _ | with_reducible refine Ext.trans ?_ (by with_reducible assumption) | omega | (simp; done) | (simp; omega))) (by first | omega | (simp; done) | (simp; omega)))) (by first | omega | (simp; done) | (simp; omega)) (by exact ox1.rd.keep (keepE' (by repeat' (first | with_reducible exact Ext.refl _ | with_reducible assumption | with_reducible refine Ext.set ?_ ?_ _ _ | with_reducible refine Ext.alloc ?_ _ | with_reducible refine Ext.drew ?_ | with_reducible refine Ext.drewN ?_ _ | with_reducible refine Ext.trans ?_ (by with_reducible assumption) | omega | (simp; done) | (simp; omega))) (by first | omega | (simp; done) | (simp; omega)))) (by first | omega | (simp; done) | (simp; omega))).mono ?_
    rintro e9 w9 ⟨rfl, hb9⟩
    have hk9 : Ext w8 w9 := by repeat' (first | with_reducible exact Ext.refl _ | with_reducible assumption | with_reducible refine Ext.set ?_ ?_ _ _ | with_reducible refine Ext.alloc ?_ _ | with_reducible refine Ext.drew ?_ | with_reducible refine Ext.drewN ?_ _ | with_reducible refine Ext.trans ?_ (by with_reducible assumption) | omega | (simp; done) | (simp; omega))
    replace q0_0 := hk9.cellAt q0_0
    replace q0_1 := hk9.cellAt q0_1
    replace q0_2 := hk9.cellAt q0_2
    replace q0_3 := hk9.cellAt q0_3
    replace q1_0 := hk9.cellAt q1_0
    replace q1_1 := hk9.cellAt q1_1
    replace q1_2 := hk9.cellAt q1_2
    replace q1_3 := hk9.cellAt q1_3
    have z9 := hk9.size
    replace ox1 := ox1.keep (keepE hk9 (by omega))
    replace ox3 := ox3.keep (keepE hk9 (by omega))
    have hB9 := hB8.trans hk9
    clear hk9
    have hE9 : Ext w w9 := hB9
    clear hb9
    go_wp2_with fail
    refine (markLog_v _ _ _ _ _ _ ox3 (by omega) (by omega) (by omega)).mono ?_
    rintro e10 w10 ⟨rfl, om10, hb10⟩
    have z10 := hb10.size
    replace q0_0 := hb10.cellAt q0_0 (by omega)
    replace q0_1 := hb10.cellAt q0_1 (by omega)
    replace q0_2 := hb10.cellAt q0_2 (by omega)
    replace q0_3 := hb10.cellAt q0_3 (by omega)
    replace q1_0 := hb10.cellAt q1_0 (by omega)
    replace q1_1 := hb10.cellAt q1_1 (by omega)
    replace q1_2 := hb10.cellAt q1_2 (by omega)
    replace q1_3 := hb10.cellAt q1_3 (by omega)
    replace ox1 := ox1.keep (keepF hb10 (by omega) (by omega))
    have hB10 := hB9.fr hb10 (by omega)
    have hE10 : Ext w w10 := hB10
    clear hb10
    clear ox3
    go_wp2_with fail
    refine (heldLog_v _ _ _ _ _ om10.rd (by omega) (by omega) (by omega)).mono ?_
    rintro e11 w11 ⟨rfl, hb11⟩
    have hk11 : Ext w10 w11 := by repeat' (first | with_reducible exact Ext.refl _ | with_reducible assumption | with_reducible refine Ext.set ?_ ?_ _ _ | with_reducible refine Ext.alloc ?_ _ | with_reducible refine Ext.drew ?_ | with_reducible refine Ext.drewN ?_ _ | with_reducible refine Ext.trans ?_ (by with_reducible assumption) | omega | (simp; done) | (simp; omega))
    replace q0_0 := hk11.cellAt q0_0
    replace q0_1 := hk11.cellAt q0_1
    replace q0_2 := hk11.cellAt q0_2
    replace q0_3 := hk11.cellAt q0_3
    replace q1_0 := hk11.cellAt q1_0
    replace q1_1 := hk11.cellAt q1_1
    replace q1_2 := hk11.cellAt q1_2
    replace q1_3 := hk11.cellAt q1_3
    have z11 := hk11.size
    replace ox1 := ox1.keep (keepE hk11 (by omega))
    replace om10 := om10.keep (keepE hk11 (by omega))
    have hB11 := hB10.trans hk11
    clear hk11
    have hE11 : Ext w w11 := hB11
    clear hb11
    go_wp2_with fail
    refine (toByteS_v _ _ _ _ (by exact r0.keep (keepE' (by repeat' (first | with_reducible exact Ext.refl _ | with_reducible assumption | with_reducible refine Ext.set ?_ ?_ _ _ | with_reducible refine Ext.alloc ?_ _ | with_reducible refine Ext.drew ?_ | with_reducible refine Ext.drewN ?_ _ | with_reducible refine Ext.trans ?_ (by with_reducible assumption) | omega | (simp; done) | (simp; omega))) (Nat.le_refl _))) (by first | omega | (simp; done) | (simp; omega)) (by omega)).mono ?_
    rintro e12 w12 ⟨vx5, rfl, ox5, hb12⟩
    have hk12 : Ext w11 w12 := by repeat' (first | with_reducible exact Ext.refl _ | with_reducible assumption | with_reducible refine Ext.set ?_ ?_ _ _ | with_reducible refine Ext.alloc ?_ _ | with_reducible refine Ext.drew ?_ | with_reducible refine Ext.drewN ?_ _ | with_reducible refine Ext.trans ?_ (by with_reducible assumption) | omega | (simp; done) | (simp; omega))
    replace q0_0 := hk12.cellAt q0_0
    replace q0_1 := hk12.cellAt q0_1
    replace q0_2 := hk12.cellAt q0_2
    replace q0_3 := hk12.cellAt q0_3
    replace q1_0 := hk12.cellAt q1_0
    replace q1_1 := hk12.cellAt q1_1
    replace q1_2 := hk12.cellAt q1_2
    replace q1_3 := hk12.cellAt q1_3
    have z12 := hk12.size
    replace ox1 := ox1.keep (keepE hk12 (by omega))
    replace om10 := om10.keep (keepE hk12 (by omega))
    have hB12 := hB11.trans hk12
    clear hk12
    have hE12 : Ext w w12 := hB12
    clear hb12
    go_wp2_with fail
    refine (unpackLog_i _ _ _ _ _ (by exact ox5.rd.keep (keepE' (by repeat' (first | with_reducible exact Ext.refl _ | with_reducible assumption | with_reducible refine Ext.set ?_ ?_ _ _ | with_reducible refine Ext.alloc ?_ _ | with_reducible refine Ext.drew ?_ | with_reducible refine Ext.drewN ?_ _ | with_reducible refine Ext.trans ?_ (by with_reducible assumption) | omega | (simp; done) | (simp; omega))) (by first | omega | (simp; done) | (simp; omega)))) (by omega) (by omega)).mono ?_
    rintro e13 w13 ⟨vx6, rfl, ox6, hb13⟩
    have hk13 : Ext w12 w13 := by repeat' (first | with_reducible exact Ext.refl _ | with_reducible assumption | with_reducible refine Ext.set ?_ ?_ _ _ | with_reducible refine Ext.alloc ?_ _ | with_reducible refine Ext.drew ?_ | with_reducible refine Ext.drewN ?_ _ | with_reducible refine Ext.trans ?_ (by with_reducible assumption) | omega | (simp; done) | (simp; omega))
    replace q0_0 := hk13.cellAt q0_0
    replace q0_1 := hk13.cellAt q0_1
    replace q0_2 := hk13.cellAt q0_2
    replace q0_3 := hk13.cellAt q0_3
    replace q1_0 := hk13.cellAt q1_0
    replace q1_1 := hk13.cellAt q1_1
    replace q1_2 := hk13.cellAt q1_2
    replace q1_3 := hk13.cellAt q1_3
    have z13 := hk13.size
    replace ox1 := ox1.keep (keepE hk13 (by omega))
    replace om10 := om10.keep (keepE hk13 (by omega))
    replace ox5 := ox5.keep (keepE hk13 (by omega))
    have hB13 := hB12.trans hk13
    clear hk13
    have hE13 : Ext w w13 := hB13
    clear hb13
    obtain ⟨vx6u, vx6s, vx6t, hvx6, ⟨vx6A, vx6n, vx6c, hvx6a, -⟩, ⟨vx6B, vx6m, vx6d, hvx6b, -⟩, ⟨vx6C, vx6k, vx6e, hvx6t, -⟩⟩ := id ox6
    subst hvx6a hvx6b hvx6t hvx6
    have zb4 : w2.heap.size < w13.heap.size := World.block_lt_of_cell? _ _ q0_0
    have zb5 : w4.heap.size < w13.heap.size := World.block_lt_of_cell? _ _ q1_0
    clear ox5
    go_wp2_with fail
    refine (eqLog_v _ _ _ _ _ _ _ (by exact ox6.rd.keep (keepE' (by repeat' (first | with_reducible exact Ext.refl _ | with_reducible assumption | with_reducible refine Ext.set ?_ ?_ _ _ | with_reducible refine Ext.alloc ?_ _ | with_reducible refine Ext.drew ?_ | with_reducible refine Ext.drewN ?_ _ | with_reducible refine Ext.trans ?_ (by with_reducible assumption) | omega | (simp; done) | (simp; omega))) (by first | omega | (simp; done) | (simp; omega)))) (by first | omega | (simp; done) | (simp; omega)) (by exact ox1.rd.keep (keepE' (by repeat' (first | with_reducible exact Ext.refl _ | with_reducible assumption | with_reducible refine Ext.set ?_ ?_ _ _ | with_reducible refine Ext.alloc ?_ _ | with_reducible refine Ext.drew ?_ | with_reducible refine Ext.drewN ?_ _ | with_reducible refine Ext.trans ?_ (by with_reducible assumption) | omega | (simp; done) | (simp; omega))) (by first | omega | (simp; done) | (simp; omega)))) (by first | omega | (simp; done) | (simp; omega))).mono ?_
    rintro e14 w14 ⟨rfl, hb14⟩
    have hk14 : Ext w13 w14 := by repeat' (first | with_reducible exact Ext.refl _ | with_reducible assumption | with_reducible refine Ext.set ?_ ?_ _ _ | with_reducible refine Ext.alloc ?_ _ | with_reducible refine Ext.drew ?_ | with_reducible refine Ext.drewN ?_ _ | with_reducible refine Ext.trans ?_ (by with_reducible assumption) | omega | (simp; done) | (simp; omega))
    have q2_0 : w14.cell? ⟨w13.heap.size, 0, none⟩ = some (.int .i64 ((unpackL l0 a1).1).base) := hb14.cellAt (new_box _ _ #[.int .i64 ((unpackL l0 a1).1).base, .slice vx6A vx6n vx6c, .slice vx6B vx6m vx6d, .slice vx6C vx6k vx6e] _ 0 _ (by simp) rfl)
    have q2_1 : w14.cell? ⟨w13.heap.size, 1, none⟩ = some (.slice vx6A vx6n vx6c) := hb14.cellAt (new_box _ _ #[.int .i64 ((unpackL l0 a1).1).base, .slice vx6A vx6n vx6c, .slice vx6B vx6m vx6d, .slice vx6C vx6k vx6e] _ 1 _ (by simp) rfl)
    have q2_2 : w14.cell? ⟨w13.heap.size, 2, none⟩ = some (.slice vx6B vx6m vx6d) := hb14.cellAt (new_box _ _ #[.int .i64 ((unpackL l0 a1).1).base, .slice vx6A vx6n vx6c, .slice vx6B vx6m vx6d, .slice vx6C vx6k vx6e] _ 2 _ (by simp) rfl)
    have q2_3 : w14.cell? ⟨w13.heap.size, 3, none⟩ = some (.slice vx6C vx6k vx6e) := hb14.cellAt (new_box _ _ #[.int .i64 ((unpackL l0 a1).1).base, .slice vx6A vx6n vx6c, .slice vx6B vx6m vx6d, .slice vx6C vx6k vx6e] _ 3 _ (by simp) rfl)
    have zb6 : w13.heap.size < w14.heap.size := World.block_lt_of_cell? _ _ q2_0
    replace q0_0 := hk14.cellAt q0_0
    replace q0_1 := hk14.cellAt q0_1
    replace q0_2 := hk14.cellAt q0_2
    replace q0_3 := hk14.cellAt q0_3
    replace q1_0 := hk14.cellAt q1_0
    replace q1_1 := hk14.cellAt q1_1
    replace q1_2 := hk14.cellAt q1_2
    replace q1_3 := hk14.cellAt q1_3
    have z14 := hk14.size
    replace ox1 := ox1.keep (keepE hk14 (by omega))
    replace om10 := om10.keep (keepE hk14 (by omega))
    replace ox6 := ox6.keep (keepE hk14 (by omega))
    have hB14 := hB13.trans hk14
    clear hk14
    have hE14 : Ext w w14 := hB14
    clear hb14
    clear ox6
    clear ox1
    go_wp2_with fail
    refine (heldLog_v _ _ _ _ _ om10.rd (by omega) (by omega) (by omega)).mono ?_
    rintro e15 w15 ⟨rfl, hb15⟩
    have hk15 : Ext w14 w15 := by repeat' (first | with_reducible exact Ext.refl _ | with_reducible assumption | with_reducible refine Ext.set ?_ ?_ _ _ | with_reducible refine Ext.alloc ?_ _ | with_reducible refine Ext.drew ?_ | with_reducible refine Ext.drewN ?_ _ | with_reducible refine Ext.trans ?_ (by with_reducible assumption) | omega | (simp; done) | (simp; omega))
    replace q0_0 := hk15.cellAt q0_0
    replace q0_1 := hk15.cellAt q0_1
    replace q0_2 := hk15.cellAt q0_2
    replace q0_3 := hk15.cellAt q0_3
    replace q1_0 := hk15.cellAt q1_0
    replace q1_1 := hk15.cellAt q1_1
    replace q1_2 := hk15.cellAt q1_2
    replace q1_3 := hk15.cellAt q1_3
    replace q2_0 := hk15.cellAt q2_0
    replace q2_1 := hk15.cellAt q2_1
    replace q2_2 := hk15.cellAt q2_2
    replace q2_3 := hk15.cellAt q2_3
    have z15 := hk15.size
    replace om10 := om10.keep (keepE hk15 (by omega))
    have hB15 := hB14.trans hk15
    clear hk15
    have hE15 : Ext w w15 := hB15
    clear hb15
    go_wp2
    go_ret
    exact ⟨rfl, hE15⟩
  · go_enter Try.func6, Try.ntmps6
    go_wp2
    go_ret
    exact ⟨rfl, Ext.refl _⟩

set_option maxRecDepth 100000 in
theorem lifted (os : Os) (started : os.Started) (H : Type) (enc : TypeId × Value → H) :
    ReturnsInHanded {} Try.checked os 6 .any (Rows.fnExactUnpackLogSpec.pre6 enc Try.prog Try.f6 Rows.fnExactUnpackLogRow.domain false) (Rows.fnExactUnpackLogSpec.post enc Try.prog Try.f6 false true false false) := by
  refine returnsInHanded_of_change (C := Try.checked) own started (by kernel_rfl) Try.func6
    (ChangeSpec.witness6 (enc := enc) (C := Try.checked) false ⟨#[], #[.slice none 0 0, .int .i64 0], []⟩ 8 (by kernel_rfl) (by kernel_rfl) (by kernel_rfl) (by kernel_rfl)) ?_
  intro W base args ds gs before hval0 hW hcnd _
  have hval : ∀ (j : Nat) t v, Try.f6.params[j]? = some t → args[j]? = some v → Value.okWide Try.prog W .any base t v := hval0
  have hW' := hW
  obtain ⟨p, q, hA0, hV, rfl, hfz, hnd⟩ := hW
  have hA : DataW.TrodAll enc Try.prog W 0 (fun _ => true) true Try.f6.params.toList args.toList ds p := hA0
  rw [Try.params6] at hA hval
  obtain ⟨vv0, vs0, dd0, ds0, pp0, qq0, hargs, rfl, rfl, ht0, rr0⟩ := trodAll_cons hA
  obtain ⟨vv1, vs1, dd1, ds1, pp1, qq1, rfl, rfl, rfl, ht1, rr1⟩ := trodAll_cons rr0
  obtain ⟨rfl, rfl, rfl⟩ := trodAll_nil rr1
  obtain rfl : args = #[vv0, vv1] := by cases args; simp_all
  obtain ⟨rfl, rfl⟩ := trodVars_none hV
  have trd0 := ht0
  have lts0 : ∀ x ∈ pp0, x.block < W.heap.size := by obtain ⟨m, hm⟩ := trd0; exact DataW.trod_lt m _ _ _ hm
  obtain ⟨l0, r0⟩ := open_ByteS_arg (hval 0 48 vv0 rfl rfl) ht0
  have trd1 := ht1
  have lts1 : ∀ x ∈ pp1, x.block < W.heap.size := by obtain ⟨m, hm⟩ := trd1; exact DataW.trod_lt m _ _ _ hm
  obtain ⟨a1, rfl, f1⟩ := open_int_arg (hval 1 3 vv1 rfl rfl) ht1
  clear hA0 hval0
  refine (walk vv0  l0  a1  W r0 f1).mono fun e W' ⟨he, bel⟩ => ?_
  subst he
  exact ⟨_, rfl, _, _, _, [], _, [], hW', trodAll_mk1 (shut_bool Try.underlying4 _), (trodAll_cons_mk (Below.trod laidOut (by kernel_rfl) (of_decide_eq_true (by kernel_rfl)) trd0 bel lts0) (trodAll_cons_mk (Below.trod laidOut (by kernel_rfl) (of_decide_eq_true (by kernel_rfl)) trd1 bel lts1) trodAll_mk0)), rfl, Below.frame bel _, fun h => by cases h⟩

theorem over : Rows.fnExactUnpackLogRow.holds Try.pinned (OpenSpec.ofChange Rows.fnExactUnpackLogSpec) :=
  OpenClaim.holds_of_wide 6 Try.f6 rfl rfl rfl rfl rfl rfl rfl ⟨rfl, rfl, rfl, rfl, rfl⟩ rfl rfl rfl rfl rfl (by as_aux_lemma => kernel_rfl) Try.func6 (by as_aux_lemma => kernel_rfl)
    (of_decide_eq_true (by as_aux_lemma => kernel_rfl)) (by as_aux_lemma => unfold Func.isWrapper; first | (rw [if_pos (by decide +kernel)]; kernel_rfl) | (rw [if_neg (by decide +kernel)]; exact ⟨rfl, rfl⟩))
    (fun os started H enc _ => lifted os started H enc)

theorem proved : Rows.FnExactUnpackLogSaid := over
#print axioms proved
end Go.Proofs.Ytbfbdhjeoknjkaa.fnExactUnpackLog
