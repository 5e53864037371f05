/-
  FnExactNetSpoil returns true for every input: the program's NetSpoil returns what the reference's does, leaves its arguments alone, and returns memory of its own.
  Conditions: none: for every argument, in whatever memory.
-/
import Derived.Test.YtllljddojncemaaOpen
import Derived.Test.YtllljddojncemaaNetSpoil
import Derived.Test.YtllljddojncemaaNet
import Derived.Test.YtllljddojncemaaBox
namespace Go.Proofs.Ytllljddojncemaa.fnExactNetSpoil
open Go.ChangeShapes Go.WideShapes Go.ChangeAt Go.RowKit
set_option linter.unusedVariables false
set_option maxRecDepth 1000000

set_option maxRecDepth 100000 in
set_option maxHeartbeats 2000000 in
theorem walk (vv0 : Value) (l0 : NetD) (a1 : Int) (a2 : Int) (w : World) (r0 : R_Net w w.heap.size vv0 l0) (g0 : FitsN l0) (f1 : Fits a1) (f2 : Fits a2) :
    Calls Try.prog 7 #[vv0, .int .i64 a1, .int .i64 a2] w fun e w' => e = .returned (.bool true) ∧ Ext w w' := by
  by_cases hbig0 : szF l0.list ≤ 1048576
  · skip
    have hbig := hbig0
    obtain ⟨u0, hv0, -⟩ := id r0
    subst hv0
    have hll0 : l0.list.length ≤ 1048576 := by unfold szF at hbig; omega
    have nk0 : NK_Net l0 ≤ 4194304 := by unfold NK_Net NK_FlightS; omega
    have nk1 : NK_Net (netSpoil l0 a1 a2).1 ≤ 4194304 := netSpoil_nk l0 a1 a2
    go_enter Try.func7, Try.ntmps7
    go_wp2_with fail
    refine (szNet_ok _ _ _ _ _ (by exact r0.keep (keepE' (by repeat' (first | with_reducible exact Ext.refl _ | with_reducible assumption | with_reducible refine Ext.set ?_ ?_ _ _ | with_reducible refine Ext.alloc ?_ _ | with_reducible refine Ext.drew ?_ | with_reducible refine Ext.drewN ?_ _ | with_reducible refine Ext.trans ?_ (by with_reducible assumption) | omega | (simp; done) | (simp; omega))) (Nat.le_refl _))) (by first | omega | (simp; done) | (simp; omega)) g0.small (by omega) (by omega)).mono ?_
    rintro e1 w1 ⟨rfl, hb1⟩
    have hk1 : Ext w w1 := by repeat' (first | with_reducible exact Ext.refl _ | with_reducible assumption | with_reducible refine Ext.set ?_ ?_ _ _ | with_reducible refine Ext.alloc ?_ _ | with_reducible refine Ext.drew ?_ | with_reducible refine Ext.drewN ?_ _ | with_reducible refine Ext.trans ?_ (by with_reducible assumption) | omega | (simp; done) | (simp; omega))
    have q0_0 : w1.cell? ⟨w.heap.size, 0, none⟩ = some (.int .i64 l0.next) := hb1.cellAt (new_box _ _ #[.int .i64 l0.next, u0] _ 0 _ (by simp) rfl)
    have q0_1 : w1.cell? ⟨w.heap.size, 1, none⟩ = some u0 := hb1.cellAt (new_box _ _ #[.int .i64 l0.next, u0] _ 1 _ (by simp) rfl)
    have zb1 : w.heap.size < w1.heap.size := World.block_lt_of_cell? _ _ q0_0
    have z1 := hk1.size
    have hB1 := hk1
    clear hk1
    have hE1 : Ext w w1 := hB1
    clear hb1
    go_wp2_with fail
    refine (toNet_v _ _ _ _ (by exact r0.keep (keepE' (by repeat' (first | with_reducible exact Ext.refl _ | with_reducible assumption | with_reducible refine Ext.set ?_ ?_ _ _ | with_reducible refine Ext.alloc ?_ _ | with_reducible refine Ext.drew ?_ | with_reducible refine Ext.drewN ?_ _ | with_reducible refine Ext.trans ?_ (by with_reducible assumption) | omega | (simp; done) | (simp; omega))) (Nat.le_refl _))) (by first | omega | (simp; done) | (simp; omega)) (by omega)).mono ?_
    rintro e2 w2 ⟨vx0, rfl, ox0, hb2⟩
    have hk2 : Ext w1 w2 := by repeat' (first | with_reducible exact Ext.refl _ | with_reducible assumption | with_reducible refine Ext.set ?_ ?_ _ _ | with_reducible refine Ext.alloc ?_ _ | with_reducible refine Ext.drew ?_ | with_reducible refine Ext.drewN ?_ _ | with_reducible refine Ext.trans ?_ (by with_reducible assumption) | omega | (simp; done) | (simp; omega))
    replace q0_0 := hk2.cellAt q0_0
    replace q0_1 := hk2.cellAt q0_1
    have z2 := hk2.size
    have hB2 := hB1.trans hk2
    clear hk2
    have hE2 : Ext w w2 := hB2
    clear hb2
    obtain ⟨vx0u, hvx0, ⟨vx0A, vx0n, vx0c, hvx0a, -⟩⟩ := id ox0
    subst hvx0a hvx0
    go_wp2_with fail
    refine (netSpoil_s _ _ _ _ _ _ (by exact ox0.rd.keep (keepE' (by repeat' (first | with_reducible exact Ext.refl _ | with_reducible assumption | with_reducible refine Ext.set ?_ ?_ _ _ | with_reducible refine Ext.alloc ?_ _ | with_reducible refine Ext.drew ?_ | with_reducible refine Ext.drewN ?_ _ | with_reducible refine Ext.trans ?_ (by with_reducible assumption) | omega | (simp; done) | (simp; omega))) (by first | omega | (simp; done) | (simp; omega)))) (by first | omega | (simp; done) | (simp; omega)) (by omega) f2).mono ?_
    rintro e3 w3 ⟨vx1, rfl, ox1, hb3⟩
    have hk3 : Ext w2 w3 := by repeat' (first | with_reducible exact Ext.refl _ | with_reducible assumption | with_reducible refine Ext.set ?_ ?_ _ _ | with_reducible refine Ext.alloc ?_ _ | with_reducible refine Ext.drew ?_ | with_reducible refine Ext.drewN ?_ _ | with_reducible refine Ext.trans ?_ (by with_reducible assumption) | omega | (simp; done) | (simp; omega))
    replace q0_0 := hk3.cellAt q0_0
    replace q0_1 := hk3.cellAt q0_1
    have z3 := hk3.size
    replace ox0 := ox0.keep (keepE hk3 (by omega))
    have hB3 := hB2.trans hk3
    clear hk3
    have hE3 : Ext w w3 := hB3
    clear hb3
    obtain ⟨vx1u, hvx1, ⟨vx1A, vx1n, vx1c, hvx1a, -⟩⟩ := id ox1
    subst hvx1a hvx1
    have zb2 : w.heap.size < w3.heap.size := World.block_lt_of_cell? _ _ q0_0
    clear ox0
    go_wp2_with fail
    refine (toNet_v _ _ _ _ (by exact r0.keep (keepE' (by repeat' (first | with_reducible exact Ext.refl _ | with_reducible assumption | with_reducible refine Ext.set ?_ ?_ _ _ | with_reducible refine Ext.alloc ?_ _ | with_reducible refine Ext.drew ?_ | with_reducible refine Ext.drewN ?_ _ | with_reducible refine Ext.trans ?_ (by with_reducible assumption) | omega | (simp; done) | (simp; omega))) (Nat.le_refl _))) (by first | omega | (simp; done) | (simp; omega)) (by omega)).mono ?_
    rintro e4 w4 ⟨vx2, rfl, ox2, hb4⟩
    have hk4 : Ext w3 w4 := by repeat' (first | with_reducible exact Ext.refl _ | with_reducible assumption | with_reducible refine Ext.set ?_ ?_ _ _ | with_reducible refine Ext.alloc ?_ _ | with_reducible refine Ext.drew ?_ | with_reducible refine Ext.drewN ?_ _ | with_reducible refine Ext.trans ?_ (by with_reducible assumption) | omega | (simp; done) | (simp; omega))
    have q1_0 : w4.cell? ⟨w3.heap.size, 0, none⟩ = some (.int .i64 ((netSpoil l0 a1 a2).1).next) := hb4.cellAt (new_box _ _ #[.int .i64 ((netSpoil l0 a1 a2).1).next, .slice vx1A vx1n vx1c] _ 0 _ (by simp) rfl)
    have q1_1 : w4.cell? ⟨w3.heap.size, 1, none⟩ = some (.slice vx1A vx1n vx1c) := hb4.cellAt (new_box _ _ #[.int .i64 ((netSpoil l0 a1 a2).1).next, .slice vx1A vx1n vx1c] _ 1 _ (by simp) rfl)
    have zb3 : w3.heap.size < w4.heap.size := World.block_lt_of_cell? _ _ q1_0
    replace q0_0 := hk4.cellAt q0_0
    replace q0_1 := hk4.cellAt q0_1
    have z4 := hk4.size
    replace ox1 := ox1.keep (keepE hk4 (by omega))
    have hB4 := hB3.trans hk4
    clear hk4
    have hE4 : Ext w w4 := hB4
    clear hb4
    simp only [World.size_alloc] at ox2
    obtain ⟨vx2u, hvx2, ⟨vx2A, vx2n, vx2c, hvx2a, -⟩⟩ := id ox2
    subst hvx2a hvx2
    have zb4 : w.heap.size < w4.heap.size := World.block_lt_of_cell? _ _ q0_0
    have zb5 : w3.heap.size < w4.heap.size := World.block_lt_of_cell? _ _ q1_0
    go_wp2_with fail
    refine (netSpoil_i _ _ _ _ _ _ (by exact ox2.rd.keep (keepE' (by repeat' (first | with_reducible exact Ext.refl _ | with_reducible assumption | with_reducible refine Ext.set ?_ ?_ _ _ | with_reducible refine Ext.alloc ?_ _ | with_reducible refine Ext.drew ?_ | with_reducible refine Ext.drewN ?_ _ | with_reducible refine Ext.trans ?_ (by with_reducible assumption) | omega | (simp; done) | (simp; omega))) (by first | omega | (simp; done) | (simp; omega)))) (by first | omega | (simp; done) | (simp; omega)) (by omega)).mono ?_
    rintro e5 w5 ⟨vx3, rfl, ox3, hb5⟩
    have hk5 : Ext w4 w5 := by repeat' (first | with_reducible exact Ext.refl _ | with_reducible assumption | with_reducible refine Ext.set ?_ ?_ _ _ | with_reducible refine Ext.alloc ?_ _ | with_reducible refine Ext.drew ?_ | with_reducible refine Ext.drewN ?_ _ | with_reducible refine Ext.trans ?_ (by with_reducible assumption) | omega | (simp; done) | (simp; omega))
    have q2_0 : w5.cell? ⟨w4.heap.size, 0, none⟩ = some (.int .i64 (l0).next) := hb5.cellAt (new_box _ _ #[.int .i64 (l0).next, .slice vx2A vx2n vx2c] _ 0 _ (by simp) rfl)
    have q2_1 : w5.cell? ⟨w4.heap.size, 1, none⟩ = some (.slice vx2A vx2n vx2c) := hb5.cellAt (new_box _ _ #[.int .i64 (l0).next, .slice vx2A vx2n vx2c] _ 1 _ (by simp) rfl)
    have zb6 : w4.heap.size < w5.heap.size := World.block_lt_of_cell? _ _ q2_0
    replace q0_0 := hk5.cellAt q0_0
    replace q0_1 := hk5.cellAt q0_1
    replace q1_0 := hk5.cellAt q1_0
    replace q1_1 := hk5.cellAt q1_1
    have z5 := hk5.size
    replace ox1 := ox1.keep (keepE hk5 (by omega))
    replace ox2 := ox2.keep (keepE hk5 (by omega))
    have hB5 := hB4.trans hk5
    clear hk5
    have hE5 : Ext w w5 := hB5
    clear hb5
    simp only [World.size_alloc] at ox3
    obtain ⟨vx3u, hvx3, ⟨vx3A, vx3n, vx3c, hvx3a, -⟩⟩ := id ox3
    subst hvx3a hvx3
    have zb7 : w.heap.size < w5.heap.size := World.block_lt_of_cell? _ _ q0_0
    have zb8 : w3.heap.size < w5.heap.size := World.block_lt_of_cell? _ _ q1_0
    have zb9 : w4.heap.size < w5.heap.size := World.block_lt_of_cell? _ _ q2_0
    go_wp2_with fail
    refine (eqNet_v _ _ _ _ _ _ _ (by exact ox3.rd.keep (keepE' (by repeat' (first | with_reducible exact Ext.refl _ | with_reducible assumption | with_reducible refine Ext.set ?_ ?_ _ _ | with_reducible refine Ext.alloc ?_ _ | with_reducible refine Ext.drew ?_ | with_reducible refine Ext.drewN ?_ _ | with_reducible refine Ext.trans ?_ (by with_reducible assumption) | omega | (simp; done) | (simp; omega))) (by first | omega | (simp; done) | (simp; omega)))) (by first | omega | (simp; done) | (simp; omega)) (by exact ox1.rd.keep (keepE' (by repeat' (first | with_reducible exact Ext.refl _ | with_reducible assumption | with_reducible refine Ext.set ?_ ?_ _ _ | with_reducible refine Ext.alloc ?_ _ | with_reducible refine Ext.drew ?_ | with_reducible refine Ext.drewN ?_ _ | with_reducible refine Ext.trans ?_ (by with_reducible assumption) | omega | (simp; done) | (simp; omega))) (by first | omega | (simp; done) | (simp; omega)))) (by first | omega | (simp; done) | (simp; omega))).mono ?_
    rintro e6 w6 ⟨rfl, hb6⟩
    have hk6 : Ext w5 w6 := by repeat' (first | with_reducible exact Ext.refl _ | with_reducible assumption | with_reducible refine Ext.set ?_ ?_ _ _ | with_reducible refine Ext.alloc ?_ _ | with_reducible refine Ext.drew ?_ | with_reducible refine Ext.drewN ?_ _ | with_reducible refine Ext.trans ?_ (by with_reducible assumption) | omega | (simp; done) | (simp; omega))
    have q3_0 : w6.cell? ⟨w5.heap.size, 0, none⟩ = some (.int .i64 ((netSpoil l0 a1 a2).1).next) := hb6.cellAt (new_box _ _ #[.int .i64 ((netSpoil l0 a1 a2).1).next, .slice vx3A vx3n vx3c] _ 0 _ (by simp) rfl)
    have q3_1 : w6.cell? ⟨w5.heap.size, 1, none⟩ = some (.slice vx3A vx3n vx3c) := hb6.cellAt (new_box _ _ #[.int .i64 ((netSpoil l0 a1 a2).1).next, .slice vx3A vx3n vx3c] _ 1 _ (by simp) rfl)
    have zb10 : w5.heap.size < w6.heap.size := World.block_lt_of_cell? _ _ q3_0
    replace q0_0 := hk6.cellAt q0_0
    replace q0_1 := hk6.cellAt q0_1
    replace q1_0 := hk6.cellAt q1_0
    replace q1_1 := hk6.cellAt q1_1
    replace q2_0 := hk6.cellAt q2_0
    replace q2_1 := hk6.cellAt q2_1
    have z6 := hk6.size
    replace ox1 := ox1.keep (keepE hk6 (by omega))
    replace ox2 := ox2.keep (keepE hk6 (by omega))
    replace ox3 := ox3.keep (keepE hk6 (by omega))
    have hB6 := hB5.trans hk6
    clear hk6
    have hE6 : Ext w w6 := hB6
    clear hb6
    go_wp2_with fail
    go_region_held3 (fun w' => w'.cell? ⟨w.heap.size, 0, none⟩ = some (.int .i64 l0.next) ∧ w'.cell? ⟨w.heap.size, 1, none⟩ = some (u0) ∧ w'.cell? ⟨w3.heap.size, 0, none⟩ = some (.int .i64 ((netSpoil l0 a1 a2).1).next) ∧ w'.cell? ⟨w3.heap.size, 1, none⟩ = some (.slice vx1A vx1n vx1c) ∧ w'.cell? ⟨w4.heap.size, 0, none⟩ = some (.int .i64 (l0).next) ∧ w'.cell? ⟨w4.heap.size, 1, none⟩ = some (.slice vx2A vx2n vx2c) ∧ w'.cell? ⟨w5.heap.size, 0, none⟩ = some (.int .i64 ((netSpoil l0 a1 a2).1).next) ∧ w'.cell? ⟨w5.heap.size, 1, none⟩ = some (.slice vx3A vx3n vx3c)) (exact ⟨q0_0, q0_1, q1_0, q1_1, q2_0, q2_1, q3_0, q3_1⟩)
      (first
        | (go_at_call 15; refine (eqNet_v _ _ _ _ _ _ _ (by exact ox2.rd.keep (keepE' (by first | exact Ext.refl _ | exact (Ext.refl _).drew | exact (Ext.refl _).drewN _) (by first | omega | (simp; done) | (simp; omega)))) (by first | omega | (simp; done) | (simp; omega)) (by exact ox4.rd.keep (keepE' (by first | exact Ext.refl _ | exact (Ext.refl _).drew | exact (Ext.refl _).drewN _) (by first | omega | (simp; done) | (simp; omega)))) (by first | omega | (simp; done) | (simp; omega))).mono ?_; rintro e8 w8 ⟨rfl, hb8⟩; have hk8 : Ext w7 w8 := (by first | exact hb8 | exact ((Ext.refl _).drew).trans hb8 | exact ((Ext.refl _).drewN _).trans hb8); replace q0_0 := hk8.cellAt q0_0; replace q0_1 := hk8.cellAt q0_1; replace q1_0 := hk8.cellAt q1_0; replace q1_1 := hk8.cellAt q1_1; replace q2_0 := hk8.cellAt q2_0; replace q2_1 := hk8.cellAt q2_1; replace q3_0 := hk8.cellAt q3_0; replace q3_1 := hk8.cellAt q3_1; have z8 := hk8.size; replace ox1 := ox1.keep (keepE hk8 (by omega)); replace ox2 := ox2.keep (keepE hk8 (by omega)); replace ox3 := ox3.keep (keepE hk8 (by omega)); replace ox4 := ox4.keep (keepE hk8 (by omega)); have hB8 := hB7.trans hk8; clear hk8; have hE8 : Ext w w8 := hB8; clear hb8; clear ox4)
        | (go_at_call 13; refine (toNet_v _ _ _ _ (by exact r0.keep (keepE' (by first | exact hB6 | exact hB6.drew | exact hB6.drewN _) (Nat.le_refl _))) (by first | omega | (simp; done) | (simp; omega)) (by omega)).mono ?_; rintro e7 w7 ⟨vx4, rfl, ox4, hb7⟩; have hk7 : Ext w6 w7 := (by first | exact hb7 | exact ((Ext.refl _).drew).trans hb7 | exact ((Ext.refl _).drewN _).trans hb7); replace q0_0 := hk7.cellAt q0_0; replace q0_1 := hk7.cellAt q0_1; replace q1_0 := hk7.cellAt q1_0; replace q1_1 := hk7.cellAt q1_1; replace q2_0 := hk7.cellAt q2_0; replace q2_1 := hk7.cellAt q2_1; replace q3_0 := hk7.cellAt q3_0; replace q3_1 := hk7.cellAt q3_1; have z7 := hk7.size; replace ox1 := ox1.keep (keepE hk7 (by omega)); replace ox2 := ox2.keep (keepE hk7 (by omega)); replace ox3 := ox3.keep (keepE hk7 (by omega)); have hB7 := hB6.trans hk7; clear hk7; have hE7 : Ext w w7 := hB7; clear hb7))
    go_wp2_with fail
    refine (markNet_v _ _ _ _ _ _ ox2 (by omega) (by omega) (by omega)).mono ?_
    rintro e9 w9 ⟨rfl, om9, hb9⟩
    have z9 := hb9.size
    replace q0_0 := hb9.cellAt q0_0 (by omega)
    replace q0_1 := hb9.cellAt q0_1 (by omega)
    replace q1_0 := hb9.cellAt q1_0 (by omega)
    replace q1_1 := hb9.cellAt q1_1 (by omega)
    replace q2_0 := hb9.cellAt q2_0 (by omega)
    replace q2_1 := hb9.cellAt q2_1 (by omega)
    replace q3_0 := hb9.cellAt q3_0 (by omega)
    replace q3_1 := hb9.cellAt q3_1 (by omega)
    replace ox1 := ox1.keep (keepF hb9 (by omega) (by omega))
    replace ox3 := ox3.keep (keepF hb9 (by omega) (by omega))
    have hB9 := hB8.fr hb9 (by omega)
    have hE9 : Ext w w9 := hB9
    clear hb9
    clear ox2
    clear om9
    go_wp2_with fail
    refine (eqNet_v _ _ _ _ _ _ _ (by exact ox3.rd.keep (keepE' (by repeat' (first | with_reducible exact Ext.refl _ | with_reducible assumption | with_reducible refine Ext.set ?_ ?_ _ _ | with_reducible refine Ext.alloc ?_ _ | with_reducible refine Ext.drew ?_ | with_reducible refine Ext.drewN ?_ _ | with_reducible refine Ext.trans ?_ (by with_reducible assumption) | omega | (simp; done) | (simp; omega))) (by first | omega | (simp; done) | (simp; omega)))) (by first | omega | (simp; done) | (simp; omega)) (by exact ox1.rd.keep (keepE' (by repeat' (first | with_reducible exact Ext.refl _ | with_reducible assumption | with_reducible refine Ext.set ?_ ?_ _ _ | with_reducible refine Ext.alloc ?_ _ | with_reducible refine Ext.drew ?_ | with_reducible refine Ext.drewN ?_ _ | with_reducible refine Ext.trans ?_ (by with_reducible assumption) | omega | (simp; done) | (simp; omega))) (by first | omega | (simp; done) | (simp; omega)))) (by first | omega | (simp; done) | (simp; omega))).mono ?_
    rintro e10 w10 ⟨rfl, hb10⟩
    have hk10 : Ext w9 w10 := by repeat' (first | with_reducible exact Ext.refl _ | with_reducible assumption | with_reducible refine Ext.set ?_ ?_ _ _ | with_reducible refine Ext.alloc ?_ _ | with_reducible refine Ext.drew ?_ | with_reducible refine Ext.drewN ?_ _ | with_reducible refine Ext.trans ?_ (by with_reducible assumption) | omega | (simp; done) | (simp; omega))
    replace q0_0 := hk10.cellAt q0_0
    replace q0_1 := hk10.cellAt q0_1
    replace q1_0 := hk10.cellAt q1_0
    replace q1_1 := hk10.cellAt q1_1
    replace q2_0 := hk10.cellAt q2_0
    replace q2_1 := hk10.cellAt q2_1
    replace q3_0 := hk10.cellAt q3_0
    replace q3_1 := hk10.cellAt q3_1
    have z10 := hk10.size
    replace ox1 := ox1.keep (keepE hk10 (by omega))
    replace ox3 := ox3.keep (keepE hk10 (by omega))
    have hB10 := hB9.trans hk10
    clear hk10
    have hE10 : Ext w w10 := hB10
    clear hb10
    go_wp2_with fail
    refine (markNet_v _ _ _ _ _ _ ox3 (by omega) (by omega) (by omega)).mono ?_
    rintro e11 w11 ⟨rfl, om11, hb11⟩
    have z11 := hb11.size
    replace q0_0 := hb11.cellAt q0_0 (by omega)
    replace q0_1 := hb11.cellAt q0_1 (by omega)
    replace q1_0 := hb11.cellAt q1_0 (by omega)
    replace q1_1 := hb11.cellAt q1_1 (by omega)
    replace q2_0 := hb11.cellAt q2_0 (by omega)
    replace q2_1 := hb11.cellAt q2_1 (by omega)
    replace q3_0 := hb11.cellAt q3_0 (by omega)
    replace q3_1 := hb11.cellAt q3_1 (by omega)
    replace ox1 := ox1.keep (keepF hb11 (by omega) (by omega))
    have hB11 := hB10.fr hb11 (by omega)
    have hE11 : Ext w w11 := hB11
    clear hb11
    clear ox3
    go_wp2_with fail
    refine (heldNet_v _ _ _ _ _ om11.rd (by omega) (by omega) (by omega)).mono ?_
    rintro e12 w12 ⟨rfl, hb12⟩
    have hk12 : Ext w11 w12 := by repeat' (first | with_reducible exact Ext.refl _ | with_reducible assumption | with_reducible refine Ext.set ?_ ?_ _ _ | with_reducible refine Ext.alloc ?_ _ | with_reducible refine Ext.drew ?_ | with_reducible refine Ext.drewN ?_ _ | with_reducible refine Ext.trans ?_ (by with_reducible assumption) | omega | (simp; done) | (simp; omega))
    replace q0_0 := hk12.cellAt q0_0
    replace q0_1 := hk12.cellAt q0_1
    replace q1_0 := hk12.cellAt q1_0
    replace q1_1 := hk12.cellAt q1_1
    replace q2_0 := hk12.cellAt q2_0
    replace q2_1 := hk12.cellAt q2_1
    replace q3_0 := hk12.cellAt q3_0
    replace q3_1 := hk12.cellAt q3_1
    have z12 := hk12.size
    replace ox1 := ox1.keep (keepE hk12 (by omega))
    replace om11 := om11.keep (keepE hk12 (by omega))
    have hB12 := hB11.trans hk12
    clear hk12
    have hE12 : Ext w w12 := hB12
    clear hb12
    go_wp2_with fail
    refine (toNet_v _ _ _ _ (by exact r0.keep (keepE' (by repeat' (first | with_reducible exact Ext.refl _ | with_reducible assumption | with_reducible refine Ext.set ?_ ?_ _ _ | with_reducible refine Ext.alloc ?_ _ | with_reducible refine Ext.drew ?_ | with_reducible refine Ext.drewN ?_ _ | with_reducible refine Ext.trans ?_ (by with_reducible assumption) | omega | (simp; done) | (simp; omega))) (Nat.le_refl _))) (by first | omega | (simp; done) | (simp; omega)) (by omega)).mono ?_
    rintro e13 w13 ⟨vx5, rfl, ox5, hb13⟩
    have hk13 : Ext w12 w13 := by repeat' (first | with_reducible exact Ext.refl _ | with_reducible assumption | with_reducible refine Ext.set ?_ ?_ _ _ | with_reducible refine Ext.alloc ?_ _ | with_reducible refine Ext.drew ?_ | with_reducible refine Ext.drewN ?_ _ | with_reducible refine Ext.trans ?_ (by with_reducible assumption) | omega | (simp; done) | (simp; omega))
    replace q0_0 := hk13.cellAt q0_0
    replace q0_1 := hk13.cellAt q0_1
    replace q1_0 := hk13.cellAt q1_0
    replace q1_1 := hk13.cellAt q1_1
    replace q2_0 := hk13.cellAt q2_0
    replace q2_1 := hk13.cellAt q2_1
    replace q3_0 := hk13.cellAt q3_0
    replace q3_1 := hk13.cellAt q3_1
    have z13 := hk13.size
    replace ox1 := ox1.keep (keepE hk13 (by omega))
    replace om11 := om11.keep (keepE hk13 (by omega))
    have hB13 := hB12.trans hk13
    clear hk13
    have hE13 : Ext w w13 := hB13
    clear hb13
    obtain ⟨vx5u, hvx5, ⟨vx5A, vx5n, vx5c, hvx5a, -⟩⟩ := id ox5
    subst hvx5a hvx5
    go_wp2_with fail
    refine (netSpoil_i _ _ _ _ _ _ (by exact ox5.rd.keep (keepE' (by repeat' (first | with_reducible exact Ext.refl _ | with_reducible assumption | with_reducible refine Ext.set ?_ ?_ _ _ | with_reducible refine Ext.alloc ?_ _ | with_reducible refine Ext.drew ?_ | with_reducible refine Ext.drewN ?_ _ | with_reducible refine Ext.trans ?_ (by with_reducible assumption) | omega | (simp; done) | (simp; omega))) (by first | omega | (simp; done) | (simp; omega)))) (by first | omega | (simp; done) | (simp; omega)) (by omega)).mono ?_
    rintro e14 w14 ⟨vx6, rfl, ox6, hb14⟩
    have hk14 : Ext w13 w14 := by repeat' (first | with_reducible exact Ext.refl _ | with_reducible assumption | with_reducible refine Ext.set ?_ ?_ _ _ | with_reducible refine Ext.alloc ?_ _ | with_reducible refine Ext.drew ?_ | with_reducible refine Ext.drewN ?_ _ | with_reducible refine Ext.trans ?_ (by with_reducible assumption) | omega | (simp; done) | (simp; omega))
    replace q0_0 := hk14.cellAt q0_0
    replace q0_1 := hk14.cellAt q0_1
    replace q1_0 := hk14.cellAt q1_0
    replace q1_1 := hk14.cellAt q1_1
    replace q2_0 := hk14.cellAt q2_0
    replace q2_1 := hk14.cellAt q2_1
    replace q3_0 := hk14.cellAt q3_0
    replace q3_1 := hk14.cellAt q3_1
    have z14 := hk14.size
    replace ox1 := ox1.keep (keepE hk14 (by omega))
    replace om11 := om11.keep (keepE hk14 (by omega))
    replace ox5 := ox5.keep (keepE hk14 (by omega))
    have hB14 := hB13.trans hk14
    clear hk14
    have hE14 : Ext w w14 := hB14
    clear hb14
    obtain ⟨vx6u, hvx6, ⟨vx6A, vx6n, vx6c, hvx6a, -⟩⟩ := id ox6
    subst hvx6a hvx6
    have zb11 : w.heap.size < w14.heap.size := World.block_lt_of_cell? _ _ q0_0
    have zb12 : w3.heap.size < w14.heap.size := World.block_lt_of_cell? _ _ q1_0
    have zb13 : w4.heap.size < w14.heap.size := World.block_lt_of_cell? _ _ q2_0
    have zb14 : w5.heap.size < w14.heap.size := World.block_lt_of_cell? _ _ q3_0
    clear ox5
    go_wp2_with fail
    refine (eqNet_v _ _ _ _ _ _ _ (by exact ox6.rd.keep (keepE' (by repeat' (first | with_reducible exact Ext.refl _ | with_reducible assumption | with_reducible refine Ext.set ?_ ?_ _ _ | with_reducible refine Ext.alloc ?_ _ | with_reducible refine Ext.drew ?_ | with_reducible refine Ext.drewN ?_ _ | with_reducible refine Ext.trans ?_ (by with_reducible assumption) | omega | (simp; done) | (simp; omega))) (by first | omega | (simp; done) | (simp; omega)))) (by first | omega | (simp; done) | (simp; omega)) (by exact ox1.rd.keep (keepE' (by repeat' (first | with_reducible exact Ext.refl _ | with_reducible assumption | with_reducible refine Ext.set ?_ ?_ _ _ | with_reducible refine Ext.alloc ?_ _ | with_reducible refine Ext.drew ?_ | with_reducible refine Ext.drewN ?_ _ | with_reducible refine Ext.trans ?_ (by with_reducible assumption) | omega | (simp; done) | (simp; omega))) (by first | omega | (simp; done) | (simp; omega)))) (by first | omega | (simp; done) | (simp; omega))).mono ?_
    rintro e15 w15 ⟨rfl, hb15⟩
    have hk15 : Ext w14 w15 := by repeat' (first | with_reducible exact Ext.refl _ | with_reducible assumption | with_reducible refine Ext.set ?_ ?_ _ _ | with_reducible refine Ext.alloc ?_ _ | with_reducible refine Ext.drew ?_ | with_reducible refine Ext.drewN ?_ _ | with_reducible refine Ext.trans ?_ (by with_reducible assumption) | omega | (simp; done) | (simp; omega))
    have q4_0 : w15.cell? ⟨w14.heap.size, 0, none⟩ = some (.int .i64 ((netSpoil l0 a1 a2).1).next) := hb15.cellAt (new_box _ _ #[.int .i64 ((netSpoil l0 a1 a2).1).next, .slice vx6A vx6n vx6c] _ 0 _ (by simp) rfl)
    have q4_1 : w15.cell? ⟨w14.heap.size, 1, none⟩ = some (.slice vx6A vx6n vx6c) := hb15.cellAt (new_box _ _ #[.int .i64 ((netSpoil l0 a1 a2).1).next, .slice vx6A vx6n vx6c] _ 1 _ (by simp) rfl)
    have zb15 : w14.heap.size < w15.heap.size := World.block_lt_of_cell? _ _ q4_0
    replace q0_0 := hk15.cellAt q0_0
    replace q0_1 := hk15.cellAt q0_1
    replace q1_0 := hk15.cellAt q1_0
    replace q1_1 := hk15.cellAt q1_1
    replace q2_0 := hk15.cellAt q2_0
    replace q2_1 := hk15.cellAt q2_1
    replace q3_0 := hk15.cellAt q3_0
    replace q3_1 := hk15.cellAt q3_1
    have z15 := hk15.size
    replace ox1 := ox1.keep (keepE hk15 (by omega))
    replace om11 := om11.keep (keepE hk15 (by omega))
    replace ox6 := ox6.keep (keepE hk15 (by omega))
    have hB15 := hB14.trans hk15
    clear hk15
    have hE15 : Ext w w15 := hB15
    clear hb15
    clear ox6
    clear ox1
    go_wp2_with fail
    refine (heldNet_v _ _ _ _ _ om11.rd (by omega) (by omega) (by omega)).mono ?_
    rintro e16 w16 ⟨rfl, hb16⟩
    have hk16 : Ext w15 w16 := by repeat' (first | with_reducible exact Ext.refl _ | with_reducible assumption | with_reducible refine Ext.set ?_ ?_ _ _ | with_reducible refine Ext.alloc ?_ _ | with_reducible refine Ext.drew ?_ | with_reducible refine Ext.drewN ?_ _ | with_reducible refine Ext.trans ?_ (by with_reducible assumption) | omega | (simp; done) | (simp; omega))
    replace q0_0 := hk16.cellAt q0_0
    replace q0_1 := hk16.cellAt q0_1
    replace q1_0 := hk16.cellAt q1_0
    replace q1_1 := hk16.cellAt q1_1
    replace q2_0 := hk16.cellAt q2_0
    replace q2_1 := hk16.cellAt q2_1
    replace q3_0 := hk16.cellAt q3_0
    replace q3_1 := hk16.cellAt q3_1
    replace q4_0 := hk16.cellAt q4_0
    replace q4_1 := hk16.cellAt q4_1
    have z16 := hk16.size
    replace om11 := om11.keep (keepE hk16 (by omega))
    have hB16 := hB15.trans hk16
    clear hk16
    have hE16 : Ext w w16 := hB16
    clear hb16
    go_wp2
    go_ret
    exact ⟨rfl, hE16⟩
  · skip
    obtain ⟨u0, hv0, -⟩ := id r0
    subst hv0
    go_enter Try.func7, Try.ntmps7
    go_wp2_with fail
    refine (szNet_no _ _ _ _ _ (by exact r0.keep (keepE' (by repeat' (first | with_reducible exact Ext.refl _ | with_reducible assumption | with_reducible refine Ext.set ?_ ?_ _ _ | with_reducible refine Ext.alloc ?_ _ | with_reducible refine Ext.drew ?_ | with_reducible refine Ext.drewN ?_ _ | with_reducible refine Ext.trans ?_ (by with_reducible assumption) | omega | (simp; done) | (simp; omega))) (Nat.le_refl _))) (by first | omega | (simp; done) | (simp; omega)) g0.small (by omega) (by omega) (by omega)).mono ?_
    rintro e1 w1 ⟨rfl, hb1⟩
    have hk1 : Ext w w1 := by repeat' (first | with_reducible exact Ext.refl _ | with_reducible assumption | with_reducible refine Ext.set ?_ ?_ _ _ | with_reducible refine Ext.alloc ?_ _ | with_reducible refine Ext.drew ?_ | with_reducible refine Ext.drewN ?_ _ | with_reducible refine Ext.trans ?_ (by with_reducible assumption) | omega | (simp; done) | (simp; omega))
    have q0_0 : w1.cell? ⟨w.heap.size, 0, none⟩ = some (.int .i64 l0.next) := hb1.cellAt (new_box _ _ #[.int .i64 l0.next, u0] _ 0 _ (by simp) rfl)
    have q0_1 : w1.cell? ⟨w.heap.size, 1, none⟩ = some u0 := hb1.cellAt (new_box _ _ #[.int .i64 l0.next, u0] _ 1 _ (by simp) rfl)
    have zb16 : w.heap.size < w1.heap.size := World.block_lt_of_cell? _ _ q0_0
    have z1 := hk1.size
    have hB1 := hk1
    clear hk1
    have hE1 : Ext w w1 := hB1
    clear hb1
    go_wp2
    go_ret
    exact ⟨rfl, hE1⟩

set_option maxRecDepth 100000 in
theorem lifted (os : Os) (started : os.Started) (H : Type) (enc : TypeId × Value → H) :
    ReturnsInHanded {} Try.checked os 7 .any (Rows.fnExactNetSpoilSpec.pre6 enc Try.prog Try.f7 Rows.fnExactNetSpoilRow.domain false) (Rows.fnExactNetSpoilSpec.post enc Try.prog Try.f7 false true false false) := by
  refine returnsInHanded_of_change (C := Try.checked) own started (by kernel_rfl) Try.func7
    (ChangeSpec.witness6 (enc := enc) (C := Try.checked) false ⟨#[], #[.agg #[.int .i64 0, .slice none 0 0], .int .i64 0, .int .i64 0], []⟩ 8 (by kernel_rfl) (by kernel_rfl) (by kernel_rfl) (by kernel_rfl)) ?_
  intro W base args ds gs before hval0 hW hcnd _
  have hval : ∀ (j : Nat) t v, Try.f7.params[j]? = some t → args[j]? = some v → Value.okWide Try.prog W .any base t v := hval0
  have hW' := hW
  obtain ⟨p, q, hA0, hV, rfl, hfz, hnd⟩ := hW
  have hA : DataW.TrodAll enc Try.prog W 0 (fun _ => true) true Try.f7.params.toList args.toList ds p := hA0
  rw [Try.params7] at hA hval
  obtain ⟨vv0, vs0, dd0, ds0, pp0, qq0, hargs, rfl, rfl, ht0, rr0⟩ := trodAll_cons hA
  obtain ⟨vv1, vs1, dd1, ds1, pp1, qq1, rfl, rfl, rfl, ht1, rr1⟩ := trodAll_cons rr0
  obtain ⟨vv2, vs2, dd2, ds2, pp2, qq2, rfl, rfl, rfl, ht2, rr2⟩ := trodAll_cons rr1
  obtain ⟨rfl, rfl, rfl⟩ := trodAll_nil rr2
  obtain rfl : args = #[vv0, vv1, vv2] := by cases args; simp_all
  obtain ⟨rfl, rfl⟩ := trodVars_none hV
  have trd0 := ht0
  have lts0 : ∀ x ∈ pp0, x.block < W.heap.size := by obtain ⟨m, hm⟩ := trd0; exact DataW.trod_lt m _ _ _ hm
  obtain ⟨l0, r0, g0⟩ := open_Net_arg (hval 0 24 vv0 rfl rfl) ht0
  have trd1 := ht1
  have lts1 : ∀ x ∈ pp1, x.block < W.heap.size := by obtain ⟨m, hm⟩ := trd1; exact DataW.trod_lt m _ _ _ hm
  obtain ⟨a1, rfl, f1⟩ := open_int_arg (hval 1 3 vv1 rfl rfl) ht1
  have trd2 := ht2
  have lts2 : ∀ x ∈ pp2, x.block < W.heap.size := by obtain ⟨m, hm⟩ := trd2; exact DataW.trod_lt m _ _ _ hm
  obtain ⟨a2, rfl, f2⟩ := open_int_arg (hval 2 3 vv2 rfl rfl) ht2
  clear hA0 hval0
  refine (walk vv0  l0  a1  a2  W r0 g0 f1 f2).mono fun e W' ⟨he, bel⟩ => ?_
  subst he
  exact ⟨_, rfl, _, _, _, [], _, [], hW', trodAll_mk1 (shut_bool Try.underlying4 _), (trodAll_cons_mk (Below.trod laidOut (by kernel_rfl) (of_decide_eq_true (by kernel_rfl)) trd0 bel lts0) (trodAll_cons_mk (Below.trod laidOut (by kernel_rfl) (of_decide_eq_true (by kernel_rfl)) trd1 bel lts1) (trodAll_cons_mk (Below.trod laidOut (by kernel_rfl) (of_decide_eq_true (by kernel_rfl)) trd2 bel lts2) trodAll_mk0))), rfl, Below.frame bel _, fun h => by cases h⟩

theorem over : Rows.fnExactNetSpoilRow.holds Try.pinned (OpenSpec.ofChange Rows.fnExactNetSpoilSpec) :=
  OpenClaim.holds_of_wide 7 Try.f7 rfl rfl rfl rfl rfl rfl rfl ⟨rfl, rfl, rfl, rfl, rfl⟩ rfl rfl rfl rfl rfl (by as_aux_lemma => kernel_rfl) Try.func7 (by as_aux_lemma => kernel_rfl)
    (of_decide_eq_true (by as_aux_lemma => kernel_rfl)) (by as_aux_lemma => unfold Func.isWrapper; first | (rw [if_pos (by decide +kernel)]; kernel_rfl) | (rw [if_neg (by decide +kernel)]; exact ⟨rfl, rfl⟩))
    (fun os started H enc _ => lifted os started H enc)

theorem proved : Rows.FnExactNetSpoilSaid := over
#print axioms proved
end Go.Proofs.Ytllljddojncemaa.fnExactNetSpoil
