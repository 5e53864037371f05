/-
  FnExactPackLog returns true for every input: the program's PackLog returns what the reference's does, leaves its arguments alone, and returns memory of its own.
  Conditions: none: for every argument, in whatever memory.
-/
import Derived.Test.YtbfbdhjeoknjkaaOpen
import Derived.Test.YtbfbdhjeoknjkaaPack
import Derived.Test.YtbfbdhjeoknjkaaLog
namespace Go.Proofs.Ytbfbdhjeoknjkaa.fnExactPackLog
open Go.ChangeShapes Go.WideShapes Go.ChangeAt Go.RowKit
set_option linter.unusedVariables false
set_option maxRecDepth 1000000

set_option maxRecDepth 100000 in
set_option maxHeartbeats 2000000 in
theorem walk (vv0 : Value) (l0 : LogD) (w : World) (r0 : R_Log w w.heap.size vv0 l0) (g0 : FitsL l0) :
    Calls Try.prog 4 #[vv0] w fun e w' => e = .returned (.bool true) ∧ Ext w w' := by
  by_cases hbig0 : szL l0 ≤ 1048576
  · skip
    have hbig := hbig0
    obtain ⟨u0, s0, t0, hv0, -⟩ := id r0
    subst hv0
    have nk0 : NK_Log l0 ≤ 8388608 := by unfold NK_Log NK_Image NK_CellS NK_SeatS NK_EntryS; unfold szL szI at hbig; omega
    have nk1 : NK_ByteS (packL l0).1 ≤ 65536 := packL_nk l0
    go_enter Try.func4, Try.ntmps4
    go_wp2_with fail
    refine (szLog_ok _ _ _ _ _ (by exact r0.keep (keepE' (by repeat' (first | with_reducible exact Ext.refl _ | with_reducible assumption | with_reducible refine Ext.set ?_ ?_ _ _ | with_reducible refine Ext.alloc ?_ _ | with_reducible refine Ext.drew ?_ | with_reducible refine Ext.drewN ?_ _ | with_reducible refine Ext.trans ?_ (by with_reducible assumption) | omega | (simp; done) | (simp; omega))) (Nat.le_refl _))) (by first | omega | (simp; done) | (simp; omega)) (by omega) (by omega)).mono ?_
    rintro e1 w1 ⟨rfl, hb1⟩
    have hk1 : Ext w w1 := by repeat' (first | with_reducible exact Ext.refl _ | with_reducible assumption | with_reducible refine Ext.set ?_ ?_ _ _ | with_reducible refine Ext.alloc ?_ _ | with_reducible refine Ext.drew ?_ | with_reducible refine Ext.drewN ?_ _ | with_reducible refine Ext.trans ?_ (by with_reducible assumption) | omega | (simp; done) | (simp; omega))
    have q0_0 : w1.cell? ⟨w.heap.size, 0, none⟩ = some (.int .i64 l0.base) := hb1.cellAt (new_box _ _ #[.int .i64 l0.base, u0, s0, t0] _ 0 _ (by simp) rfl)
    have q0_1 : w1.cell? ⟨w.heap.size, 1, none⟩ = some u0 := hb1.cellAt (new_box _ _ #[.int .i64 l0.base, u0, s0, t0] _ 1 _ (by simp) rfl)
    have q0_2 : w1.cell? ⟨w.heap.size, 2, none⟩ = some s0 := hb1.cellAt (new_box _ _ #[.int .i64 l0.base, u0, s0, t0] _ 2 _ (by simp) rfl)
    have q0_3 : w1.cell? ⟨w.heap.size, 3, none⟩ = some t0 := hb1.cellAt (new_box _ _ #[.int .i64 l0.base, u0, s0, t0] _ 3 _ (by simp) rfl)
    have zb1 : w.heap.size < w1.heap.size := World.block_lt_of_cell? _ _ q0_0
    have z1 := hk1.size
    have hB1 := hk1
    clear hk1
    have hE1 : Ext w w1 := hB1
    clear hb1
    go_wp2_with fail
    refine (toLog_v _ _ _ _ (by exact r0.keep (keepE' (by repeat' (first | with_reducible exact Ext.refl _ | with_reducible assumption | with_reducible refine Ext.set ?_ ?_ _ _ | with_reducible refine Ext.alloc ?_ _ | with_reducible refine Ext.drew ?_ | with_reducible refine Ext.drewN ?_ _ | with_reducible refine Ext.trans ?_ (by with_reducible assumption) | omega | (simp; done) | (simp; omega))) (Nat.le_refl _))) (by first | omega | (simp; done) | (simp; omega)) (by omega)).mono ?_
    rintro e2 w2 ⟨vx0, rfl, ox0, hb2⟩
    have hk2 : Ext w1 w2 := by repeat' (first | with_reducible exact Ext.refl _ | with_reducible assumption | with_reducible refine Ext.set ?_ ?_ _ _ | with_reducible refine Ext.alloc ?_ _ | with_reducible refine Ext.drew ?_ | with_reducible refine Ext.drewN ?_ _ | with_reducible refine Ext.trans ?_ (by with_reducible assumption) | omega | (simp; done) | (simp; omega))
    replace q0_0 := hk2.cellAt q0_0
    replace q0_1 := hk2.cellAt q0_1
    replace q0_2 := hk2.cellAt q0_2
    replace q0_3 := hk2.cellAt q0_3
    have z2 := hk2.size
    have hB2 := hB1.trans hk2
    clear hk2
    have hE2 : Ext w w2 := hB2
    clear hb2
    obtain ⟨vx0u, vx0s, vx0t, hvx0, ⟨vx0A, vx0n, vx0c, hvx0a, -⟩, ⟨vx0B, vx0m, vx0d, hvx0b, -⟩, ⟨vx0C, vx0k, vx0e, hvx0t, -⟩⟩ := id ox0
    subst hvx0a hvx0b hvx0t hvx0
    go_wp2_with fail
    refine (packLog_s _ _ _ _ (by exact ox0.rd.keep (keepE' (by repeat' (first | with_reducible exact Ext.refl _ | with_reducible assumption | with_reducible refine Ext.set ?_ ?_ _ _ | with_reducible refine Ext.alloc ?_ _ | with_reducible refine Ext.drew ?_ | with_reducible refine Ext.drewN ?_ _ | with_reducible refine Ext.trans ?_ (by with_reducible assumption) | omega | (simp; done) | (simp; omega))) (by first | omega | (simp; done) | (simp; omega)))) (by first | omega | (simp; done) | (simp; omega))).mono ?_
    rintro e3 w3 ⟨vx1, rfl, ox1, hb3⟩
    have hk3 : Ext w2 w3 := by repeat' (first | with_reducible exact Ext.refl _ | with_reducible assumption | with_reducible refine Ext.set ?_ ?_ _ _ | with_reducible refine Ext.alloc ?_ _ | with_reducible refine Ext.drew ?_ | with_reducible refine Ext.drewN ?_ _ | with_reducible refine Ext.trans ?_ (by with_reducible assumption) | omega | (simp; done) | (simp; omega))
    replace q0_0 := hk3.cellAt q0_0
    replace q0_1 := hk3.cellAt q0_1
    replace q0_2 := hk3.cellAt q0_2
    replace q0_3 := hk3.cellAt q0_3
    have z3 := hk3.size
    replace ox0 := ox0.keep (keepE hk3 (by omega))
    have hB3 := hB2.trans hk3
    clear hk3
    have hE3 : Ext w w3 := hB3
    clear hb3
    clear ox0
    go_wp2_with fail
    refine (toLog_v _ _ _ _ (by exact r0.keep (keepE' (by repeat' (first | with_reducible exact Ext.refl _ | with_reducible assumption | with_reducible refine Ext.set ?_ ?_ _ _ | with_reducible refine Ext.alloc ?_ _ | with_reducible refine Ext.drew ?_ | with_reducible refine Ext.drewN ?_ _ | with_reducible refine Ext.trans ?_ (by with_reducible assumption) | omega | (simp; done) | (simp; omega))) (Nat.le_refl _))) (by first | omega | (simp; done) | (simp; omega)) (by omega)).mono ?_
    rintro e4 w4 ⟨vx2, rfl, ox2, hb4⟩
    have hk4 : Ext w3 w4 := by repeat' (first | with_reducible exact Ext.refl _ | with_reducible assumption | with_reducible refine Ext.set ?_ ?_ _ _ | with_reducible refine Ext.alloc ?_ _ | with_reducible refine Ext.drew ?_ | with_reducible refine Ext.drewN ?_ _ | with_reducible refine Ext.trans ?_ (by with_reducible assumption) | omega | (simp; done) | (simp; omega))
    replace q0_0 := hk4.cellAt q0_0
    replace q0_1 := hk4.cellAt q0_1
    replace q0_2 := hk4.cellAt q0_2
    replace q0_3 := hk4.cellAt q0_3
    have z4 := hk4.size
    replace ox1 := ox1.keep (keepE hk4 (by omega))
    have hB4 := hB3.trans hk4
    clear hk4
    have hE4 : Ext w w4 := hB4
    clear hb4
    obtain ⟨vx2u, vx2s, vx2t, hvx2, ⟨vx2A, vx2n, vx2c, hvx2a, -⟩, ⟨vx2B, vx2m, vx2d, hvx2b, -⟩, ⟨vx2C, vx2k, vx2e, hvx2t, -⟩⟩ := id ox2
    subst hvx2a hvx2b hvx2t hvx2
    go_wp2_with fail
    refine (packLog_i _ _ _ _ (by exact ox2.rd.keep (keepE' (by repeat' (first | with_reducible exact Ext.refl _ | with_reducible assumption | with_reducible refine Ext.set ?_ ?_ _ _ | with_reducible refine Ext.alloc ?_ _ | with_reducible refine Ext.drew ?_ | with_reducible refine Ext.drewN ?_ _ | with_reducible refine Ext.trans ?_ (by with_reducible assumption) | omega | (simp; done) | (simp; omega))) (by first | omega | (simp; done) | (simp; omega)))) (by first | omega | (simp; done) | (simp; omega))).mono ?_
    rintro e5 w5 ⟨vx3, rfl, ox3, hb5⟩
    have hk5 : Ext w4 w5 := by repeat' (first | with_reducible exact Ext.refl _ | with_reducible assumption | with_reducible refine Ext.set ?_ ?_ _ _ | with_reducible refine Ext.alloc ?_ _ | with_reducible refine Ext.drew ?_ | with_reducible refine Ext.drewN ?_ _ | with_reducible refine Ext.trans ?_ (by with_reducible assumption) | omega | (simp; done) | (simp; omega))
    have q1_0 : w5.cell? ⟨w4.heap.size, 0, none⟩ = some (.int .i64 (l0).base) := hb5.cellAt (new_box _ _ #[.int .i64 (l0).base, .slice vx2A vx2n vx2c, .slice vx2B vx2m vx2d, .slice vx2C vx2k vx2e] _ 0 _ (by simp) rfl)
    have q1_1 : w5.cell? ⟨w4.heap.size, 1, none⟩ = some (.slice vx2A vx2n vx2c) := hb5.cellAt (new_box _ _ #[.int .i64 (l0).base, .slice vx2A vx2n vx2c, .slice vx2B vx2m vx2d, .slice vx2C vx2k vx2e] _ 1 _ (by simp) rfl)
    have q1_2 : w5.cell? ⟨w4.heap.size, 2, none⟩ = some (.slice vx2B vx2m vx2d) := hb5.cellAt (new_box _ _ #[.int .i64 (l0).base, .slice vx2A vx2n vx2c, .slice vx2B vx2m vx2d, .slice vx2C vx2k vx2e] _ 2 _ (by simp) rfl)
    have q1_3 : w5.cell? ⟨w4.heap.size, 3, none⟩ = some (.slice vx2C vx2k vx2e) := hb5.cellAt (new_box _ _ #[.int .i64 (l0).base, .slice vx2A vx2n vx2c, .slice vx2B vx2m vx2d, .slice vx2C vx2k vx2e] _ 3 _ (by simp) rfl)
    have zb2 : w4.heap.size < w5.heap.size := World.block_lt_of_cell? _ _ q1_0
    replace q0_0 := hk5.cellAt q0_0
    replace q0_1 := hk5.cellAt q0_1
    replace q0_2 := hk5.cellAt q0_2
    replace q0_3 := hk5.cellAt q0_3
    have z5 := hk5.size
    replace ox1 := ox1.keep (keepE hk5 (by omega))
    replace ox2 := ox2.keep (keepE hk5 (by omega))
    have hB5 := hB4.trans hk5
    clear hk5
    have hE5 : Ext w w5 := hB5
    clear hb5
    simp only [World.size_alloc] at ox3
    go_wp2_with fail
    refine (eqByteS_v _ _ _ _ _ _ _ (by exact ox3.rd.keep (keepE' (by repeat' (first | with_reducible exact Ext.refl _ | with_reducible assumption | with_reducible refine Ext.set ?_ ?_ _ _ | with_reducible refine Ext.alloc ?_ _ | with_reducible refine Ext.drew ?_ | with_reducible refine Ext.drewN ?_ _ | with_reducible refine Ext.trans ?_ (by with_reducible assumption) | omega | (simp; done) | (simp; omega))) (by first | omega | (simp; done) | (simp; omega)))) (by first | omega | (simp; done) | (simp; omega)) (by exact ox1.rd.keep (keepE' (by repeat' (first | with_reducible exact Ext.refl _ | with_reducible assumption | with_reducible refine Ext.set ?_ ?_ _ _ | with_reducible refine Ext.alloc ?_ _ | with_reducible refine Ext.drew ?_ | with_reducible refine Ext.drewN ?_ _ | with_reducible refine Ext.trans ?_ (by with_reducible assumption) | omega | (simp; done) | (simp; omega))) (by first | omega | (simp; done) | (simp; omega)))) (by first | omega | (simp; done) | (simp; omega))).mono ?_
    rintro e6 w6 ⟨rfl, hb6⟩
    have hk6 : Ext w5 w6 := by repeat' (first | with_reducible exact Ext.refl _ | with_reducible assumption | with_reducible refine Ext.set ?_ ?_ _ _ | with_reducible refine Ext.alloc ?_ _ | with_reducible refine Ext.drew ?_ | with_reducible refine Ext.drewN ?_ _ | with_reducible refine Ext.trans ?_ (by with_reducible assumption) | omega | (simp; done) | (simp; omega))
    replace q0_0 := hk6.cellAt q0_0
    replace q0_1 := hk6.cellAt q0_1
    replace q0_2 := hk6.cellAt q0_2
    replace q0_3 := hk6.cellAt q0_3
    replace q1_0 := hk6.cellAt q1_0
    replace q1_1 := hk6.cellAt q1_1
    replace q1_2 := hk6.cellAt q1_2
    replace q1_3 := hk6.cellAt q1_3
    have z6 := hk6.size
    replace ox1 := ox1.keep (keepE hk6 (by omega))
    replace ox2 := ox2.keep (keepE hk6 (by omega))
    replace ox3 := ox3.keep (keepE hk6 (by omega))
    have hB6 := hB5.trans hk6
    clear hk6
    have hE6 : Ext w w6 := hB6
    clear hb6
    go_wp2_with fail
    go_region_held3 (fun w' => w'.cell? ⟨w.heap.size, 0, none⟩ = some (.int .i64 l0.base) ∧ w'.cell? ⟨w.heap.size, 1, none⟩ = some (u0) ∧ w'.cell? ⟨w.heap.size, 2, none⟩ = some (s0) ∧ w'.cell? ⟨w.heap.size, 3, none⟩ = some (t0) ∧ w'.cell? ⟨w4.heap.size, 0, none⟩ = some (.int .i64 (l0).base) ∧ w'.cell? ⟨w4.heap.size, 1, none⟩ = some (.slice vx2A vx2n vx2c) ∧ w'.cell? ⟨w4.heap.size, 2, none⟩ = some (.slice vx2B vx2m vx2d) ∧ w'.cell? ⟨w4.heap.size, 3, none⟩ = some (.slice vx2C vx2k vx2e)) (exact ⟨q0_0, q0_1, q0_2, q0_3, q1_0, q1_1, q1_2, q1_3⟩)
      (first
        | (go_at_call 19; refine (eqLog_v _ _ _ _ _ _ _ (by exact ox2.rd.keep (keepE' (by first | exact Ext.refl _ | exact (Ext.refl _).drew | exact (Ext.refl _).drewN _) (by first | omega | (simp; done) | (simp; omega)))) (by first | omega | (simp; done) | (simp; omega)) (by exact ox4.rd.keep (keepE' (by first | exact Ext.refl _ | exact (Ext.refl _).drew | exact (Ext.refl _).drewN _) (by first | omega | (simp; done) | (simp; omega)))) (by first | omega | (simp; done) | (simp; omega))).mono ?_; rintro e8 w8 ⟨rfl, hb8⟩; have hk8 : Ext w7 w8 := (by first | exact hb8 | exact ((Ext.refl _).drew).trans hb8 | exact ((Ext.refl _).drewN _).trans hb8); replace q0_0 := hk8.cellAt q0_0; replace q0_1 := hk8.cellAt q0_1; replace q0_2 := hk8.cellAt q0_2; replace q0_3 := hk8.cellAt q0_3; replace q1_0 := hk8.cellAt q1_0; replace q1_1 := hk8.cellAt q1_1; replace q1_2 := hk8.cellAt q1_2; replace q1_3 := hk8.cellAt q1_3; have z8 := hk8.size; replace ox1 := ox1.keep (keepE hk8 (by omega)); replace ox2 := ox2.keep (keepE hk8 (by omega)); replace ox3 := ox3.keep (keepE hk8 (by omega)); replace ox4 := ox4.keep (keepE hk8 (by omega)); have hB8 := hB7.trans hk8; clear hk8; have hE8 : Ext w w8 := hB8; clear hb8; clear ox4)
        | (go_at_call 16; refine (toLog_v _ _ _ _ (by exact r0.keep (keepE' (by first | exact hB6 | exact hB6.drew | exact hB6.drewN _) (Nat.le_refl _))) (by first | omega | (simp; done) | (simp; omega)) (by omega)).mono ?_; rintro e7 w7 ⟨vx4, rfl, ox4, hb7⟩; have hk7 : Ext w6 w7 := (by first | exact hb7 | exact ((Ext.refl _).drew).trans hb7 | exact ((Ext.refl _).drewN _).trans hb7); replace q0_0 := hk7.cellAt q0_0; replace q0_1 := hk7.cellAt q0_1; replace q0_2 := hk7.cellAt q0_2; replace q0_3 := hk7.cellAt q0_3; replace q1_0 := hk7.cellAt q1_0; replace q1_1 := hk7.cellAt q1_1; replace q1_2 := hk7.cellAt q1_2; replace q1_3 := hk7.cellAt q1_3; have z7 := hk7.size; replace ox1 := ox1.keep (keepE hk7 (by omega)); replace ox2 := ox2.keep (keepE hk7 (by omega)); replace ox3 := ox3.keep (keepE hk7 (by omega)); have hB7 := hB6.trans hk7; clear hk7; have hE7 : Ext w w7 := hB7; clear hb7))
    go_wp2_with fail
    refine (markLog_v _ _ _ _ _ _ ox2 (by omega) (by omega) (by omega)).mono ?_
    rintro e9 w9 ⟨rfl, om9, hb9⟩
    have z9 := hb9.size
    replace q0_0 := hb9.cellAt q0_0 (by omega)
    replace q0_1 := hb9.cellAt q0_1 (by omega)
    replace q0_2 := hb9.cellAt q0_2 (by omega)
    replace q0_3 := hb9.cellAt q0_3 (by omega)
    replace q1_0 := hb9.cellAt q1_0 (by omega)
    replace q1_1 := hb9.cellAt q1_1 (by omega)
    replace q1_2 := hb9.cellAt q1_2 (by omega)
    replace q1_3 := hb9.cellAt q1_3 (by omega)
    replace ox1 := ox1.keep (keepF hb9 (by omega) (by omega))
    replace ox3 := ox3.keep (keepF hb9 (by omega) (by omega))
    have hB9 := hB8.fr hb9 (by omega)
    have hE9 : Ext w w9 := hB9
    clear hb9
    clear ox2
    clear om9
    go_wp2_with fail
    refine (eqByteS_v _ _ _ _ _ _ _ (by exact ox3.rd.keep (keepE' (by repeat' (first | with_reducible exact Ext.refl _ | with_reducible assumption | with_reducible refine Ext.set ?_ ?_ _ _ | with_reducible refine Ext.alloc ?_ _ | with_reducible refine Ext.drew ?_ | with_reducible refine Ext.drewN ?_ _ | with_reducible refine Ext.trans ?_ (by with_reducible assumption) | omega | (simp; done) | (simp; omega))) (by first | omega | (simp; done) | (simp; omega)))) (by first | omega | (simp; done) | (simp; omega)) (by exact ox1.rd.keep (keepE' (by repeat' (first | with_reducible exact Ext.refl _ | with_reducible assumption | with_reducible refine Ext.set ?_ ?_ _ _ | with_reducible refine Ext.alloc ?_ _ | with_reducible refine Ext.drew ?_ | with_reducible refine Ext.drewN ?_ _ | with_reducible refine Ext.trans ?_ (by with_reducible assumption) | omega | (simp; done) | (simp; omega))) (by first | omega | (simp; done) | (simp; omega)))) (by first | omega | (simp; done) | (simp; omega))).mono ?_
    rintro e10 w10 ⟨rfl, hb10⟩
    have hk10 : Ext w9 w10 := by repeat' (first | with_reducible exact Ext.refl _ | with_reducible assumption | with_reducible refine Ext.set ?_ ?_ _ _ | with_reducible refine Ext.alloc ?_ _ | with_reducible refine Ext.drew ?_ | with_reducible refine Ext.drewN ?_ _ | with_reducible refine Ext.trans ?_ (by with_reducible assumption) | omega | (simp; done) | (simp; omega))
    replace q0_0 := hk10.cellAt q0_0
    replace q0_1 := hk10.cellAt q0_1
    replace q0_2 := hk10.cellAt q0_2
    replace q0_3 := hk10.cellAt q0_3
    replace q1_0 := hk10.cellAt q1_0
    replace q1_1 := hk10.cellAt q1_1
    replace q1_2 := hk10.cellAt q1_2
    replace q1_3 := hk10.cellAt q1_3
    have z10 := hk10.size
    replace ox1 := ox1.keep (keepE hk10 (by omega))
    replace ox3 := ox3.keep (keepE hk10 (by omega))
    have hB10 := hB9.trans hk10
    clear hk10
    have hE10 : Ext w w10 := hB10
    clear hb10
    go_wp2_with fail
    refine (markByteS_v _ _ _ _ _ _ ox3 (by omega) (by omega) (by omega)).mono ?_
    rintro e11 w11 ⟨rfl, om11, hb11⟩
    have z11 := hb11.size
    replace q0_0 := hb11.cellAt q0_0 (by omega)
    replace q0_1 := hb11.cellAt q0_1 (by omega)
    replace q0_2 := hb11.cellAt q0_2 (by omega)
    replace q0_3 := hb11.cellAt q0_3 (by omega)
    replace q1_0 := hb11.cellAt q1_0 (by omega)
    replace q1_1 := hb11.cellAt q1_1 (by omega)
    replace q1_2 := hb11.cellAt q1_2 (by omega)
    replace q1_3 := hb11.cellAt q1_3 (by omega)
    replace ox1 := ox1.keep (keepF hb11 (by omega) (by omega))
    have hB11 := hB10.fr hb11 (by omega)
    have hE11 : Ext w w11 := hB11
    clear hb11
    clear ox3
    go_wp2_with fail
    refine (heldByteS_v _ _ _ _ _ om11.rd (by omega) (by omega) (by omega)).mono ?_
    rintro e12 w12 ⟨rfl, hb12⟩
    have hk12 : Ext w11 w12 := by repeat' (first | with_reducible exact Ext.refl _ | with_reducible assumption | with_reducible refine Ext.set ?_ ?_ _ _ | with_reducible refine Ext.alloc ?_ _ | with_reducible refine Ext.drew ?_ | with_reducible refine Ext.drewN ?_ _ | with_reducible refine Ext.trans ?_ (by with_reducible assumption) | omega | (simp; done) | (simp; omega))
    replace q0_0 := hk12.cellAt q0_0
    replace q0_1 := hk12.cellAt q0_1
    replace q0_2 := hk12.cellAt q0_2
    replace q0_3 := hk12.cellAt q0_3
    replace q1_0 := hk12.cellAt q1_0
    replace q1_1 := hk12.cellAt q1_1
    replace q1_2 := hk12.cellAt q1_2
    replace q1_3 := hk12.cellAt q1_3
    have z12 := hk12.size
    replace ox1 := ox1.keep (keepE hk12 (by omega))
    replace om11 := om11.keep (keepE hk12 (by omega))
    have hB12 := hB11.trans hk12
    clear hk12
    have hE12 : Ext w w12 := hB12
    clear hb12
    go_wp2_with fail
    refine (toLog_v _ _ _ _ (by exact r0.keep (keepE' (by repeat' (first | with_reducible exact Ext.refl _ | with_reducible assumption | with_reducible refine Ext.set ?_ ?_ _ _ | with_reducible refine Ext.alloc ?_ _ | with_reducible refine Ext.drew ?_ | with_reducible refine Ext.drewN ?_ _ | with_reducible refine Ext.trans ?_ (by with_reducible assumption) | omega | (simp; done) | (simp; omega))) (Nat.le_refl _))) (by first | omega | (simp; done) | (simp; omega)) (by omega)).mono ?_
    rintro e13 w13 ⟨vx5, rfl, ox5, hb13⟩
    have hk13 : Ext w12 w13 := by repeat' (first | with_reducible exact Ext.refl _ | with_reducible assumption | with_reducible refine Ext.set ?_ ?_ _ _ | with_reducible refine Ext.alloc ?_ _ | with_reducible refine Ext.drew ?_ | with_reducible refine Ext.drewN ?_ _ | with_reducible refine Ext.trans ?_ (by with_reducible assumption) | omega | (simp; done) | (simp; omega))
    replace q0_0 := hk13.cellAt q0_0
    replace q0_1 := hk13.cellAt q0_1
    replace q0_2 := hk13.cellAt q0_2
    replace q0_3 := hk13.cellAt q0_3
    replace q1_0 := hk13.cellAt q1_0
    replace q1_1 := hk13.cellAt q1_1
    replace q1_2 := hk13.cellAt q1_2
    replace q1_3 := hk13.cellAt q1_3
    have z13 := hk13.size
    replace ox1 := ox1.keep (keepE hk13 (by omega))
    replace om11 := om11.keep (keepE hk13 (by omega))
    have hB13 := hB12.trans hk13
    clear hk13
    have hE13 : Ext w w13 := hB13
    clear hb13
    obtain ⟨vx5u, vx5s, vx5t, hvx5, ⟨vx5A, vx5n, vx5c, hvx5a, -⟩, ⟨vx5B, vx5m, vx5d, hvx5b, -⟩, ⟨vx5C, vx5k, vx5e, hvx5t, -⟩⟩ := id ox5
    subst hvx5a hvx5b hvx5t hvx5
    go_wp2_with fail
    refine (packLog_i _ _ _ _ (by exact ox5.rd.keep (keepE' (by repeat' (first | with_reducible exact Ext.refl _ | with_reducible assumption | with_reducible refine Ext.set ?_ ?_ _ _ | with_reducible refine Ext.alloc ?_ _ | with_reducible refine Ext.drew ?_ | with_reducible refine Ext.drewN ?_ _ | with_reducible refine Ext.trans ?_ (by with_reducible assumption) | omega | (simp; done) | (simp; omega))) (by first | omega | (simp; done) | (simp; omega)))) (by first | omega | (simp; done) | (simp; omega))).mono ?_
    rintro e14 w14 ⟨vx6, rfl, ox6, hb14⟩
    have hk14 : Ext w13 w14 := by repeat' (first | with_reducible exact Ext.refl _ | with_reducible assumption | with_reducible refine Ext.set ?_ ?_ _ _ | with_reducible refine Ext.alloc ?_ _ | with_reducible refine Ext.drew ?_ | with_reducible refine Ext.drewN ?_ _ | with_reducible refine Ext.trans ?_ (by with_reducible assumption) | omega | (simp; done) | (simp; omega))
    replace q0_0 := hk14.cellAt q0_0
    replace q0_1 := hk14.cellAt q0_1
    replace q0_2 := hk14.cellAt q0_2
    replace q0_3 := hk14.cellAt q0_3
    replace q1_0 := hk14.cellAt q1_0
    replace q1_1 := hk14.cellAt q1_1
    replace q1_2 := hk14.cellAt q1_2
    replace q1_3 := hk14.cellAt q1_3
    have z14 := hk14.size
    replace ox1 := ox1.keep (keepE hk14 (by omega))
    replace om11 := om11.keep (keepE hk14 (by omega))
    replace ox5 := ox5.keep (keepE hk14 (by omega))
    have hB14 := hB13.trans hk14
    clear hk14
    have hE14 : Ext w w14 := hB14
    clear hb14
    clear ox5
    go_wp2_with fail
    refine (eqByteS_v _ _ _ _ _ _ _ (by exact ox6.rd.keep (keepE' (by repeat' (first | with_reducible exact Ext.refl _ | with_reducible assumption | with_reducible refine Ext.set ?_ ?_ _ _ | with_reducible refine Ext.alloc ?_ _ | with_reducible refine Ext.drew ?_ | with_reducible refine Ext.drewN ?_ _ | with_reducible refine Ext.trans ?_ (by with_reducible assumption) | omega | (simp; done) | (simp; omega))) (by first | omega | (simp; done) | (simp; omega)))) (by first | omega | (simp; done) | (simp; omega)) (by exact ox1.rd.keep (keepE' (by repeat' (first | with_reducible exact Ext.refl _ | with_reducible assumption | with_reducible refine Ext.set ?_ ?_ _ _ | with_reducible refine Ext.alloc ?_ _ | with_reducible refine Ext.drew ?_ | with_reducible refine Ext.drewN ?_ _ | with_reducible refine Ext.trans ?_ (by with_reducible assumption) | omega | (simp; done) | (simp; omega))) (by first | omega | (simp; done) | (simp; omega)))) (by first | omega | (simp; done) | (simp; omega))).mono ?_
    rintro e15 w15 ⟨rfl, hb15⟩
    have hk15 : Ext w14 w15 := by repeat' (first | with_reducible exact Ext.refl _ | with_reducible assumption | with_reducible refine Ext.set ?_ ?_ _ _ | with_reducible refine Ext.alloc ?_ _ | with_reducible refine Ext.drew ?_ | with_reducible refine Ext.drewN ?_ _ | with_reducible refine Ext.trans ?_ (by with_reducible assumption) | omega | (simp; done) | (simp; omega))
    replace q0_0 := hk15.cellAt q0_0
    replace q0_1 := hk15.cellAt q0_1
    replace q0_2 := hk15.cellAt q0_2
    replace q0_3 := hk15.cellAt q0_3
    replace q1_0 := hk15.cellAt q1_0
    replace q1_1 := hk15.cellAt q1_1
    replace q1_2 := hk15.cellAt q1_2
    replace q1_3 := hk15.cellAt q1_3
    have z15 := hk15.size
    replace ox1 := ox1.keep (keepE hk15 (by omega))
    replace om11 := om11.keep (keepE hk15 (by omega))
    replace ox6 := ox6.keep (keepE hk15 (by omega))
    have hB15 := hB14.trans hk15
    clear hk15
    have hE15 : Ext w w15 := hB15
    clear hb15
    clear ox6
    clear ox1
    go_wp2_with fail
    refine (heldByteS_v _ _ _ _ _ om11.rd (by omega) (by omega) (by omega)).mono ?_
    rintro e16 w16 ⟨rfl, hb16⟩
    have hk16 : Ext w15 w16 := by repeat' (first | with_reducible exact Ext.refl _ | with_reducible assumption | with_reducible refine Ext.set ?_ ?_ _ _ | with_reducible refine Ext.alloc ?_ _ | with_reducible refine Ext.drew ?_ | with_reducible refine Ext.drewN ?_ _ | with_reducible refine Ext.trans ?_ (by with_reducible assumption) | omega | (simp; done) | (simp; omega))
    replace q0_0 := hk16.cellAt q0_0
    replace q0_1 := hk16.cellAt q0_1
    replace q0_2 := hk16.cellAt q0_2
    replace q0_3 := hk16.cellAt q0_3
    replace q1_0 := hk16.cellAt q1_0
    replace q1_1 := hk16.cellAt q1_1
    replace q1_2 := hk16.cellAt q1_2
    replace q1_3 := hk16.cellAt q1_3
    have z16 := hk16.size
    replace om11 := om11.keep (keepE hk16 (by omega))
    have hB16 := hB15.trans hk16
    clear hk16
    have hE16 : Ext w w16 := hB16
    clear hb16
    go_wp2
    go_ret
    exact ⟨rfl, hE16⟩
  · skip
    obtain ⟨u0, s0, t0, hv0, -⟩ := id r0
    subst hv0
    go_enter Try.func4, Try.ntmps4
    go_wp2_with fail
    refine (szLog_no _ _ _ _ _ (by exact r0.keep (keepE' (by repeat' (first | with_reducible exact Ext.refl _ | with_reducible assumption | with_reducible refine Ext.set ?_ ?_ _ _ | with_reducible refine Ext.alloc ?_ _ | with_reducible refine Ext.drew ?_ | with_reducible refine Ext.drewN ?_ _ | with_reducible refine Ext.trans ?_ (by with_reducible assumption) | omega | (simp; done) | (simp; omega))) (Nat.le_refl _))) (by first | omega | (simp; done) | (simp; omega)) (by omega) (by omega) (by omega)).mono ?_
    rintro e1 w1 ⟨rfl, hb1⟩
    have hk1 : Ext w w1 := by repeat' (first | with_reducible exact Ext.refl _ | with_reducible assumption | with_reducible refine Ext.set ?_ ?_ _ _ | with_reducible refine Ext.alloc ?_ _ | with_reducible refine Ext.drew ?_ | with_reducible refine Ext.drewN ?_ _ | with_reducible refine Ext.trans ?_ (by with_reducible assumption) | omega | (simp; done) | (simp; omega))
    have q0_0 : w1.cell? ⟨w.heap.size, 0, none⟩ = some (.int .i64 l0.base) := hb1.cellAt (new_box _ _ #[.int .i64 l0.base, u0, s0, t0] _ 0 _ (by simp) rfl)
    have q0_1 : w1.cell? ⟨w.heap.size, 1, none⟩ = some u0 := hb1.cellAt (new_box _ _ #[.int .i64 l0.base, u0, s0, t0] _ 1 _ (by simp) rfl)
    have q0_2 : w1.cell? ⟨w.heap.size, 2, none⟩ = some s0 := hb1.cellAt (new_box _ _ #[.int .i64 l0.base, u0, s0, t0] _ 2 _ (by simp) rfl)
    have q0_3 : w1.cell? ⟨w.heap.size, 3, none⟩ = some t0 := hb1.cellAt (new_box _ _ #[.int .i64 l0.base, u0, s0, t0] _ 3 _ (by simp) rfl)
    have zb3 : w.heap.size < w1.heap.size := World.block_lt_of_cell? _ _ q0_0
    have z1 := hk1.size
    have hB1 := hk1
    clear hk1
    have hE1 : Ext w w1 := hB1
    clear hb1
    go_wp2
    go_ret
    exact ⟨rfl, hE1⟩

set_option maxRecDepth 100000 in
theorem lifted (os : Os) (started : os.Started) (H : Type) (enc : TypeId × Value → H) :
    ReturnsInHanded {} Try.checked os 4 .any (Rows.fnExactPackLogSpec.pre6 enc Try.prog Try.f4 Rows.fnExactPackLogRow.domain false) (Rows.fnExactPackLogSpec.post enc Try.prog Try.f4 false true false false) := by
  refine returnsInHanded_of_change (C := Try.checked) own started (by kernel_rfl) Try.func4
    (ChangeSpec.witness6 (enc := enc) (C := Try.checked) false ⟨#[], #[.agg #[.int .i64 0, .slice none 0 0, .slice none 0 0, .slice none 0 0]], []⟩ 8 (by kernel_rfl) (by kernel_rfl) (by kernel_rfl) (by kernel_rfl)) ?_
  intro W base args ds gs before hval0 hW hcnd _
  have hval : ∀ (j : Nat) t v, Try.f4.params[j]? = some t → args[j]? = some v → Value.okWide Try.prog W .any base t v := hval0
  have hW' := hW
  obtain ⟨p, q, hA0, hV, rfl, hfz, hnd⟩ := hW
  have hA : DataW.TrodAll enc Try.prog W 0 (fun _ => true) true Try.f4.params.toList args.toList ds p := hA0
  rw [Try.params4] at hA hval
  obtain ⟨vv0, vs0, dd0, ds0, pp0, qq0, hargs, rfl, rfl, ht0, rr0⟩ := trodAll_cons hA
  obtain ⟨rfl, rfl, rfl⟩ := trodAll_nil rr0
  obtain rfl : args = #[vv0] := by cases args; simp_all
  obtain ⟨rfl, rfl⟩ := trodVars_none hV
  have trd0 := ht0
  have lts0 : ∀ x ∈ pp0, x.block < W.heap.size := by obtain ⟨m, hm⟩ := trd0; exact DataW.trod_lt m _ _ _ hm
  obtain ⟨l0, r0, g0⟩ := open_Log_arg (hval 0 30 vv0 rfl rfl) ht0
  clear hA0 hval0
  refine (walk vv0  l0  W r0 g0).mono fun e W' ⟨he, bel⟩ => ?_
  subst he
  exact ⟨_, rfl, _, _, _, [], _, [], hW', trodAll_mk1 (shut_bool Try.underlying4 _), (trodAll_cons_mk (Below.trod laidOut (by kernel_rfl) (of_decide_eq_true (by kernel_rfl)) trd0 bel lts0) trodAll_mk0), rfl, Below.frame bel _, fun h => by cases h⟩

theorem over : Rows.fnExactPackLogRow.holds Try.pinned (OpenSpec.ofChange Rows.fnExactPackLogSpec) :=
  OpenClaim.holds_of_wide 4 Try.f4 rfl rfl rfl rfl rfl rfl rfl ⟨rfl, rfl, rfl, rfl, rfl⟩ rfl rfl rfl rfl rfl (by as_aux_lemma => kernel_rfl) Try.func4 (by as_aux_lemma => kernel_rfl)
    (of_decide_eq_true (by as_aux_lemma => kernel_rfl)) (by as_aux_lemma => unfold Func.isWrapper; first | (rw [if_pos (by decide +kernel)]; kernel_rfl) | (rw [if_neg (by decide +kernel)]; exact ⟨rfl, rfl⟩))
    (fun os started H enc _ => lifted os started H enc)

theorem proved : Rows.FnExactPackLogSaid := over
#print axioms proved
end Go.Proofs.Ytbfbdhjeoknjkaa.fnExactPackLog
