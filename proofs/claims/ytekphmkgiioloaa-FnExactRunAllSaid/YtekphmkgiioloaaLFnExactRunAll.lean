/-
  FnExactRunAll returns true for every input: the program's RunAll returns what the reference's does, leaves its arguments alone, and returns memory of its own.
  Conditions: none: for every argument, in whatever memory.
-/
import Derived.Test.YtekphmkgiioloaaOpen
import Derived.Test.YtekphmkgiioloaaRunAllB
import Derived.Test.YtekphmkgiioloaaImage2
import Derived.Test.YtekphmkgiioloaaBox
import Derived.Test.YtekphmkgiioloaaSp
namespace Go.Proofs.Ytekphmkgiioloaa.fnExactRunAll
open Go.ChangeShapes Go.WideShapes Go.ChangeAt Go.RowKit
set_option linter.unusedVariables false
set_option maxRecDepth 1000000

set_option maxRecDepth 100000 in
set_option maxHeartbeats 8000000 in
theorem walk (vv0 : Value) (l0 : ImageD) (vv1 : Value) (l1 : List EntryD) (w : World) (r0 : R_Image w w.heap.size vv0 l0) (g0 : FitsI l0) (r1 : R_EntryS w w.heap.size vv1 l1) (g1 : ∀ x ∈ l1, FitsE x) :
    Calls Try.prog 4 #[vv0, vv1] w fun e w' => e = .returned (.bool true) ∧ Ext w w' := by
  by_cases hbig0 : szI l0 ≤ 1048576
  · skip
    by_cases hbig1 : szI l0 + l1.length ≤ 1048576
    · skip
      have hbig := hbig1
      obtain ⟨u0, s0, hv0, -⟩ := id r0
      subst hv0
      have nk0 : NK_Image l0 ≤ 4194304 := by unfold NK_Image NK_CellS NK_SeatS; unfold szI at hbig; omega
      have nke : NK_EntryS l1 ≤ 8388608 := by unfold NK_EntryS; omega
      have hsI : szI l0 ≤ 2097152 := by omega
      have nk1 : NK_Image (runAll l0 l1).1 ≤ 4194304 := by have := runAll_szI l0 l1 1048576 (by omega) (by omega); unfold NK_Image NK_CellS NK_SeatS; unfold szI at this; omega
      have nk2 : NK_IntS (runAll l0 l1).2 ≤ 60 := runAll_len l0 l1
      go_enter Try.func4, Try.ntmps4
      go_wp2_with fail
      refine (szImage_ok _ _ _ _ _ (by exact r0.keep (keepE' (by repeat' (first | with_reducible exact Ext.refl _ | with_reducible assumption | with_reducible refine Ext.set ?_ ?_ _ _ | with_reducible refine Ext.alloc ?_ _ | with_reducible refine Ext.drew ?_ | with_reducible refine Ext.drewN ?_ _ | with_reducible refine Ext.trans ?_ (by with_reducible assumption) | omega | (simp; done) | (simp; omega))) (Nat.le_refl _))) (by first | omega | (simp; done) | (simp; omega)) (by omega) (by omega)).mono ?_
      rintro e1 w1 ⟨rfl, hb1⟩
      have hk1 : Ext w w1 := by repeat' (first | with_reducible exact Ext.refl _ | with_reducible assumption | with_reducible refine Ext.set ?_ ?_ _ _ | with_reducible refine Ext.alloc ?_ _ | with_reducible refine Ext.drew ?_ | with_reducible refine Ext.drewN ?_ _ | with_reducible refine Ext.trans ?_ (by with_reducible assumption) | omega | (simp; done) | (simp; omega))
      have q0_0 : w1.cell? ⟨w.heap.size, 0, none⟩ = some u0 := hb1.cellAt (new_box _ _ #[u0, s0] _ 0 _ (by simp) rfl)
      have q0_1 : w1.cell? ⟨w.heap.size, 1, none⟩ = some s0 := hb1.cellAt (new_box _ _ #[u0, s0] _ 1 _ (by simp) rfl)
      have zb1 : w.heap.size < w1.heap.size := World.block_lt_of_cell? _ _ q0_0
      have z1 := hk1.size
      have hB1 := hk1
      clear hk1
      have hE1 : Ext w w1 := hB1
      clear hb1
      go_wp2_with fail
      refine (szEntryS_okE _ _ _ _ _ (by exact r1.keep (keepE' (by repeat' (first | with_reducible exact Ext.refl _ | with_reducible assumption | with_reducible refine Ext.set ?_ ?_ _ _ | with_reducible refine Ext.alloc ?_ _ | with_reducible refine Ext.drew ?_ | with_reducible refine Ext.drewN ?_ _ | with_reducible refine Ext.trans ?_ (by with_reducible assumption) | omega | (simp; done) | (simp; omega))) (Nat.le_refl _))) (by omega) (by omega)).mono ?_
      rintro e2 w2 ⟨rfl, hb2⟩
      have hk2 : Ext w1 w2 := by repeat' (first | with_reducible exact Ext.refl _ | with_reducible assumption | with_reducible refine Ext.set ?_ ?_ _ _ | with_reducible refine Ext.alloc ?_ _ | with_reducible refine Ext.drew ?_ | with_reducible refine Ext.drewN ?_ _ | with_reducible refine Ext.trans ?_ (by with_reducible assumption) | omega | (simp; done) | (simp; omega))
      replace q0_0 := hk2.cellAt q0_0
      replace q0_1 := hk2.cellAt q0_1
      have z2 := hk2.size
      have hB2 := hB1.trans hk2
      clear hk2
      have hE2 : Ext w w2 := hB2
      clear hb2
      go_wp2_with fail
      refine (toImage_v _ _ _ _ (by exact r0.keep (keepE' (by repeat' (first | with_reducible exact Ext.refl _ | with_reducible assumption | with_reducible refine Ext.set ?_ ?_ _ _ | with_reducible refine Ext.alloc ?_ _ | with_reducible refine Ext.drew ?_ | with_reducible refine Ext.drewN ?_ _ | with_reducible refine Ext.trans ?_ (by with_reducible assumption) | omega | (simp; done) | (simp; omega))) (Nat.le_refl _))) (by first | omega | (simp; done) | (simp; omega)) (by omega)).mono ?_
      rintro e3 w3 ⟨vx0, rfl, ox0, hb3⟩
      have hk3 : Ext w2 w3 := by repeat' (first | with_reducible exact Ext.refl _ | with_reducible assumption | with_reducible refine Ext.set ?_ ?_ _ _ | with_reducible refine Ext.alloc ?_ _ | with_reducible refine Ext.drew ?_ | with_reducible refine Ext.drewN ?_ _ | with_reducible refine Ext.trans ?_ (by with_reducible assumption) | omega | (simp; done) | (simp; omega))
      replace q0_0 := hk3.cellAt q0_0
      replace q0_1 := hk3.cellAt q0_1
      have z3 := hk3.size
      have hB3 := hB2.trans hk3
      clear hk3
      have hE3 : Ext w w3 := hB3
      clear hb3
      obtain ⟨vx0u, vx0s, hvx0, ⟨vx0A, vx0n, vx0c, hvx0a, -⟩, ⟨vx0B, vx0m, vx0d, hvx0b, -⟩⟩ := id ox0
      subst hvx0a hvx0b hvx0
      go_wp2_with fail
      refine (toEntryS_v _ _ _ _ (by exact r1.keep (keepE' (by repeat' (first | with_reducible exact Ext.refl _ | with_reducible assumption | with_reducible refine Ext.set ?_ ?_ _ _ | with_reducible refine Ext.alloc ?_ _ | with_reducible refine Ext.drew ?_ | with_reducible refine Ext.drewN ?_ _ | with_reducible refine Ext.trans ?_ (by with_reducible assumption) | omega | (simp; done) | (simp; omega))) (Nat.le_refl _))) (by first | omega | (simp; done) | (simp; omega)) (by omega)).mono ?_
      rintro e4 w4 ⟨vx1, rfl, ox1, hb4⟩
      have hk4 : Ext w3 w4 := by repeat' (first | with_reducible exact Ext.refl _ | with_reducible assumption | with_reducible refine Ext.set ?_ ?_ _ _ | with_reducible refine Ext.alloc ?_ _ | with_reducible refine Ext.drew ?_ | with_reducible refine Ext.drewN ?_ _ | with_reducible refine Ext.trans ?_ (by with_reducible assumption) | omega | (simp; done) | (simp; omega))
      replace q0_0 := hk4.cellAt q0_0
      replace q0_1 := hk4.cellAt q0_1
      have z4 := hk4.size
      replace ox0 := ox0.keep (keepE hk4 (by omega))
      have hB4 := hB3.trans hk4
      clear hk4
      have hE4 : Ext w w4 := hB4
      clear hb4
      go_wp2_with fail
      refine (runAll_s2 _ _ _ _ _ _ _ (by exact ox0.rd.keep (keepE' (by repeat' (first | with_reducible exact Ext.refl _ | with_reducible assumption | with_reducible refine Ext.set ?_ ?_ _ _ | with_reducible refine Ext.alloc ?_ _ | with_reducible refine Ext.drew ?_ | with_reducible refine Ext.drewN ?_ _ | with_reducible refine Ext.trans ?_ (by with_reducible assumption) | omega | (simp; done) | (simp; omega))) (by first | omega | (simp; done) | (simp; omega)))) (by first | omega | (simp; done) | (simp; omega)) (by exact ox1.rd.keep (keepE' (by repeat' (first | with_reducible exact Ext.refl _ | with_reducible assumption | with_reducible refine Ext.set ?_ ?_ _ _ | with_reducible refine Ext.alloc ?_ _ | with_reducible refine Ext.drew ?_ | with_reducible refine Ext.drewN ?_ _ | with_reducible refine Ext.trans ?_ (by with_reducible assumption) | omega | (simp; done) | (simp; omega))) (by first | omega | (simp; done) | (simp; omega)))) (by first | omega | (simp; done) | (simp; omega)) hsI (by omega)).mono ?_
      rintro e5 w5 ⟨vx2, vx3, rfl, ox2, ox3, hb5⟩
      have hk5 : Ext w4 w5 := by repeat' (first | with_reducible exact Ext.refl _ | with_reducible assumption | with_reducible refine Ext.set ?_ ?_ _ _ | with_reducible refine Ext.alloc ?_ _ | with_reducible refine Ext.drew ?_ | with_reducible refine Ext.drewN ?_ _ | with_reducible refine Ext.trans ?_ (by with_reducible assumption) | omega | (simp; done) | (simp; omega))
      replace q0_0 := hk5.cellAt q0_0
      replace q0_1 := hk5.cellAt q0_1
      have z5 := hk5.size
      replace ox0 := ox0.keep (keepE hk5 (by omega))
      replace ox1 := ox1.keep (keepE hk5 (by omega))
      have hB5 := hB4.trans hk5
      clear hk5
      have hE5 : Ext w w5 := hB5
      clear hb5
      obtain ⟨vx2u, vx2s, hvx2, ⟨vx2A, vx2n, vx2c, hvx2a, -⟩, ⟨vx2B, vx2m, vx2d, hvx2b, -⟩⟩ := id ox2
      subst hvx2a hvx2b hvx2
      have zb2 : w.heap.size < w5.heap.size := World.block_lt_of_cell? _ _ q0_0
      clear ox0
      clear ox1
      go_wp2_with fail
      refine (toImage_v _ _ _ _ (by exact r0.keep (keepE' (by repeat' (first | with_reducible exact Ext.refl _ | with_reducible assumption | with_reducible refine Ext.set ?_ ?_ _ _ | with_reducible refine Ext.alloc ?_ _ | with_reducible refine Ext.drew ?_ | with_reducible refine Ext.drewN ?_ _ | with_reducible refine Ext.trans ?_ (by with_reducible assumption) | omega | (simp; done) | (simp; omega))) (Nat.le_refl _))) (by first | omega | (simp; done) | (simp; omega)) (by omega)).mono ?_
      rintro e6 w6 ⟨vx4, rfl, ox4, hb6⟩
      have hk6 : Ext w5 w6 := by repeat' (first | with_reducible exact Ext.refl _ | with_reducible assumption | with_reducible refine Ext.set ?_ ?_ _ _ | with_reducible refine Ext.alloc ?_ _ | with_reducible refine Ext.drew ?_ | with_reducible refine Ext.drewN ?_ _ | with_reducible refine Ext.trans ?_ (by with_reducible assumption) | omega | (simp; done) | (simp; omega))
      have q1_0 : w6.cell? ⟨w5.heap.size, 0, none⟩ = some (.slice vx2A vx2n vx2c) := hb6.cellAt (new_box _ _ #[.slice vx2A vx2n vx2c, .slice vx2B vx2m vx2d] _ 0 _ (by simp) rfl)
      have q1_1 : w6.cell? ⟨w5.heap.size, 1, none⟩ = some (.slice vx2B vx2m vx2d) := hb6.cellAt (new_box _ _ #[.slice vx2A vx2n vx2c, .slice vx2B vx2m vx2d] _ 1 _ (by simp) rfl)
      have zb3 : w5.heap.size < w6.heap.size := World.block_lt_of_cell? _ _ q1_0
      replace q0_0 := hk6.cellAt q0_0
      replace q0_1 := hk6.cellAt q0_1
      have z6 := hk6.size
      replace ox2 := ox2.keep (keepE hk6 (by omega))
      replace ox3 := ox3.keep (keepE hk6 (by omega))
      have hB6 := hB5.trans hk6
      clear hk6
      have hE6 : Ext w w6 := hB6
      clear hb6
      simp only [World.size_alloc] at ox4
      obtain ⟨vx4u, vx4s, hvx4, ⟨vx4A, vx4n, vx4c, hvx4a, -⟩, ⟨vx4B, vx4m, vx4d, hvx4b, -⟩⟩ := id ox4
      subst hvx4a hvx4b hvx4
      have zb4 : w.heap.size < w6.heap.size := World.block_lt_of_cell? _ _ q0_0
      have zb5 : w5.heap.size < w6.heap.size := World.block_lt_of_cell? _ _ q1_0
      go_wp2_with fail
      refine (toEntryS_v _ _ _ _ (by exact r1.keep (keepE' (by repeat' (first | with_reducible exact Ext.refl _ | with_reducible assumption | with_reducible refine Ext.set ?_ ?_ _ _ | with_reducible refine Ext.alloc ?_ _ | with_reducible refine Ext.drew ?_ | with_reducible refine Ext.drewN ?_ _ | with_reducible refine Ext.trans ?_ (by with_reducible assumption) | omega | (simp; done) | (simp; omega))) (Nat.le_refl _))) (by first | omega | (simp; done) | (simp; omega)) (by omega)).mono ?_
      rintro e7 w7 ⟨vx5, rfl, ox5, hb7⟩
      have hk7 : Ext w6 w7 := by repeat' (first | with_reducible exact Ext.refl _ | with_reducible assumption | with_reducible refine Ext.set ?_ ?_ _ _ | with_reducible refine Ext.alloc ?_ _ | with_reducible refine Ext.drew ?_ | with_reducible refine Ext.drewN ?_ _ | with_reducible refine Ext.trans ?_ (by with_reducible assumption) | omega | (simp; done) | (simp; omega))
      have q2_0 : w7.cell? ⟨w6.heap.size, 0, none⟩ = some (.slice vx4A vx4n vx4c) := hb7.cellAt (new_box _ _ #[.slice vx4A vx4n vx4c, .slice vx4B vx4m vx4d] _ 0 _ (by simp) rfl)
      have q2_1 : w7.cell? ⟨w6.heap.size, 1, none⟩ = some (.slice vx4B vx4m vx4d) := hb7.cellAt (new_box _ _ #[.slice vx4A vx4n vx4c, .slice vx4B vx4m vx4d] _ 1 _ (by simp) rfl)
      have zb6 : w6.heap.size < w7.heap.size := World.block_lt_of_cell? _ _ q2_0
      replace q0_0 := hk7.cellAt q0_0
      replace q0_1 := hk7.cellAt q0_1
      replace q1_0 := hk7.cellAt q1_0
      replace q1_1 := hk7.cellAt q1_1
      have z7 := hk7.size
      replace ox2 := ox2.keep (keepE hk7 (by omega))
      replace ox3 := ox3.keep (keepE hk7 (by omega))
      replace ox4 := ox4.keep (keepE hk7 (by omega))
      have hB7 := hB6.trans hk7
      clear hk7
      have hE7 : Ext w w7 := hB7
      clear hb7
      simp only [World.size_alloc] at ox5
      go_wp2_with fail
      refine (runAll_i2 _ _ _ _ _ _ _ (by exact ox4.rd.keep (keepE' (by repeat' (first | with_reducible exact Ext.refl _ | with_reducible assumption | with_reducible refine Ext.set ?_ ?_ _ _ | with_reducible refine Ext.alloc ?_ _ | with_reducible refine Ext.drew ?_ | with_reducible refine Ext.drewN ?_ _ | with_reducible refine Ext.trans ?_ (by with_reducible assumption) | omega | (simp; done) | (simp; omega))) (by first | omega | (simp; done) | (simp; omega)))) (by first | omega | (simp; done) | (simp; omega)) (by exact ox5.rd.keep (keepE' (by repeat' (first | with_reducible exact Ext.refl _ | with_reducible assumption | with_reducible refine Ext.set ?_ ?_ _ _ | with_reducible refine Ext.alloc ?_ _ | with_reducible refine Ext.drew ?_ | with_reducible refine Ext.drewN ?_ _ | with_reducible refine Ext.trans ?_ (by with_reducible assumption) | omega | (simp; done) | (simp; omega))) (by first | omega | (simp; done) | (simp; omega)))) (by first | omega | (simp; done) | (simp; omega)) hsI (by omega)).mono ?_
      rintro e8 w8 ⟨vx6, vx7, rfl, ox6, ox7, hb8⟩
      have hk8 : Ext w7 w8 := by repeat' (first | with_reducible exact Ext.refl _ | with_reducible assumption | with_reducible refine Ext.set ?_ ?_ _ _ | with_reducible refine Ext.alloc ?_ _ | with_reducible refine Ext.drew ?_ | with_reducible refine Ext.drewN ?_ _ | with_reducible refine Ext.trans ?_ (by with_reducible assumption) | omega | (simp; done) | (simp; omega))
      replace q0_0 := hk8.cellAt q0_0
      replace q0_1 := hk8.cellAt q0_1
      replace q1_0 := hk8.cellAt q1_0
      replace q1_1 := hk8.cellAt q1_1
      replace q2_0 := hk8.cellAt q2_0
      replace q2_1 := hk8.cellAt q2_1
      have z8 := hk8.size
      replace ox2 := ox2.keep (keepE hk8 (by omega))
      replace ox3 := ox3.keep (keepE hk8 (by omega))
      replace ox4 := ox4.keep (keepE hk8 (by omega))
      replace ox5 := ox5.keep (keepE hk8 (by omega))
      have hB8 := hB7.trans hk8
      clear hk8
      have hE8 : Ext w w8 := hB8
      clear hb8
      obtain ⟨vx6u, vx6s, hvx6, ⟨vx6A, vx6n, vx6c, hvx6a, -⟩, ⟨vx6B, vx6m, vx6d, hvx6b, -⟩⟩ := id ox6
      subst hvx6a hvx6b hvx6
      have zb7 : w.heap.size < w8.heap.size := World.block_lt_of_cell? _ _ q0_0
      have zb8 : w5.heap.size < w8.heap.size := World.block_lt_of_cell? _ _ q1_0
      have zb9 : w6.heap.size < w8.heap.size := World.block_lt_of_cell? _ _ q2_0
      go_wp2_with fail
      refine (eqImage_v _ _ _ _ _ _ _ (by exact ox6.rd.keep (keepE' (by repeat' (first | with_reducible exact Ext.refl _ | with_reducible assumption | with_reducible refine Ext.set ?_ ?_ _ _ | with_reducible refine Ext.alloc ?_ _ | with_reducible refine Ext.drew ?_ | with_reducible refine Ext.drewN ?_ _ | with_reducible refine Ext.trans ?_ (by with_reducible assumption) | omega | (simp; done) | (simp; omega))) (by first | omega | (simp; done) | (simp; omega)))) (by first | omega | (simp; done) | (simp; omega)) (by exact ox2.rd.keep (keepE' (by repeat' (first | with_reducible exact Ext.refl _ | with_reducible assumption | with_reducible refine Ext.set ?_ ?_ _ _ | with_reducible refine Ext.alloc ?_ _ | with_reducible refine Ext.drew ?_ | with_reducible refine Ext.drewN ?_ _ | with_reducible refine Ext.trans ?_ (by with_reducible assumption) | omega | (simp; done) | (simp; omega))) (by first | omega | (simp; done) | (simp; omega)))) (by first | omega | (simp; done) | (simp; omega))).mono ?_
      rintro e9 w9 ⟨rfl, hb9⟩
      have hk9 : Ext w8 w9 := by repeat' (first | with_reducible exact Ext.refl _ | with_reducible assumption | with_reducible refine Ext.set ?_ ?_ _ _ | with_reducible refine Ext.alloc ?_ _ | with_reducible refine Ext.drew ?_ | with_reducible refine Ext.drewN ?_ _ | with_reducible refine Ext.trans ?_ (by with_reducible assumption) | omega | (simp; done) | (simp; omega))
      have q3_0 : w9.cell? ⟨w8.heap.size, 0, none⟩ = some (.slice vx6A vx6n vx6c) := hb9.cellAt (new_box _ _ #[.slice vx6A vx6n vx6c, .slice vx6B vx6m vx6d] _ 0 _ (by simp) rfl)
      have q3_1 : w9.cell? ⟨w8.heap.size, 1, none⟩ = some (.slice vx6B vx6m vx6d) := hb9.cellAt (new_box _ _ #[.slice vx6A vx6n vx6c, .slice vx6B vx6m vx6d] _ 1 _ (by simp) rfl)
      have zb10 : w8.heap.size < w9.heap.size := World.block_lt_of_cell? _ _ q3_0
      replace q0_0 := hk9.cellAt q0_0
      replace q0_1 := hk9.cellAt q0_1
      replace q1_0 := hk9.cellAt q1_0
      replace q1_1 := hk9.cellAt q1_1
      replace q2_0 := hk9.cellAt q2_0
      replace q2_1 := hk9.cellAt q2_1
      have z9 := hk9.size
      replace ox2 := ox2.keep (keepE hk9 (by omega))
      replace ox3 := ox3.keep (keepE hk9 (by omega))
      replace ox4 := ox4.keep (keepE hk9 (by omega))
      replace ox5 := ox5.keep (keepE hk9 (by omega))
      replace ox6 := ox6.keep (keepE hk9 (by omega))
      replace ox7 := ox7.keep (keepE hk9 (by omega))
      have hB9 := hB8.trans hk9
      clear hk9
      have hE9 : Ext w w9 := hB9
      clear hb9
      go_wp2_with fail
      refine (eqIntS_v _ _ _ _ _ _ _ (by exact ox7.rd.keep (keepE' (by repeat' (first | with_reducible exact Ext.refl _ | with_reducible assumption | with_reducible refine Ext.set ?_ ?_ _ _ | with_reducible refine Ext.alloc ?_ _ | with_reducible refine Ext.drew ?_ | with_reducible refine Ext.drewN ?_ _ | with_reducible refine Ext.trans ?_ (by with_reducible assumption) | omega | (simp; done) | (simp; omega))) (by first | omega | (simp; done) | (simp; omega)))) (by first | omega | (simp; done) | (simp; omega)) (by exact ox3.rd.keep (keepE' (by repeat' (first | with_reducible exact Ext.refl _ | with_reducible assumption | with_reducible refine Ext.set ?_ ?_ _ _ | with_reducible refine Ext.alloc ?_ _ | with_reducible refine Ext.drew ?_ | with_reducible refine Ext.drewN ?_ _ | with_reducible refine Ext.trans ?_ (by with_reducible assumption) | omega | (simp; done) | (simp; omega))) (by first | omega | (simp; done) | (simp; omega)))) (by first | omega | (simp; done) | (simp; omega))).mono ?_
      rintro e10 w10 ⟨rfl, hb10⟩
      have hk10 : Ext w9 w10 := by repeat' (first | with_reducible exact Ext.refl _ | with_reducible assumption | with_reducible refine Ext.set ?_ ?_ _ _ | with_reducible refine Ext.alloc ?_ _ | with_reducible refine Ext.drew ?_ | with_reducible refine Ext.drewN ?_ _ | with_reducible refine Ext.trans ?_ (by with_reducible assumption) | omega | (simp; done) | (simp; omega))
      replace q0_0 := hk10.cellAt q0_0
      replace q0_1 := hk10.cellAt q0_1
      replace q1_0 := hk10.cellAt q1_0
      replace q1_1 := hk10.cellAt q1_1
      replace q2_0 := hk10.cellAt q2_0
      replace q2_1 := hk10.cellAt q2_1
      replace q3_0 := hk10.cellAt q3_0
      replace q3_1 := hk10.cellAt q3_1
      have z10 := hk10.size
      replace ox2 := ox2.keep (keepE hk10 (by omega))
      replace ox3 := ox3.keep (keepE hk10 (by omega))
      replace ox4 := ox4.keep (keepE hk10 (by omega))
      replace ox5 := ox5.keep (keepE hk10 (by omega))
      replace ox6 := ox6.keep (keepE hk10 (by omega))
      replace ox7 := ox7.keep (keepE hk10 (by omega))
      have hB10 := hB9.trans hk10
      clear hk10
      have hE10 : Ext w w10 := hB10
      clear hb10
      go_wp2_with fail
      go_region_held3 (fun w' => w'.cell? ⟨w.heap.size, 0, none⟩ = some (u0) ∧ w'.cell? ⟨w.heap.size, 1, none⟩ = some (s0) ∧ w'.cell? ⟨w5.heap.size, 0, none⟩ = some (.slice vx2A vx2n vx2c) ∧ w'.cell? ⟨w5.heap.size, 1, none⟩ = some (.slice vx2B vx2m vx2d) ∧ w'.cell? ⟨w6.heap.size, 0, none⟩ = some (.slice vx4A vx4n vx4c) ∧ w'.cell? ⟨w6.heap.size, 1, none⟩ = some (.slice vx4B vx4m vx4d) ∧ w'.cell? ⟨w8.heap.size, 0, none⟩ = some (.slice vx6A vx6n vx6c) ∧ w'.cell? ⟨w8.heap.size, 1, none⟩ = some (.slice vx6B vx6m vx6d)) (exact ⟨q0_0, q0_1, q1_0, q1_1, q2_0, q2_1, q3_0, q3_1⟩)
        (first
          | (go_at_call 21; refine (eqImage_v _ _ _ _ _ _ _ (by exact ox4.rd.keep (keepE' (by first | exact Ext.refl _ | exact (Ext.refl _).drew | exact (Ext.refl _).drewN _) (by first | omega | (simp; done) | (simp; omega)))) (by first | omega | (simp; done) | (simp; omega)) (by exact ox8.rd.keep (keepE' (by first | exact Ext.refl _ | exact (Ext.refl _).drew | exact (Ext.refl _).drewN _) (by first | omega | (simp; done) | (simp; omega)))) (by first | omega | (simp; done) | (simp; omega))).mono ?_; rintro e12 w12 ⟨rfl, hb12⟩; have hk12 : Ext w11 w12 := (by first | exact hb12 | exact ((Ext.refl _).drew).trans hb12 | exact ((Ext.refl _).drewN _).trans hb12); replace q0_0 := hk12.cellAt q0_0; replace q0_1 := hk12.cellAt q0_1; replace q1_0 := hk12.cellAt q1_0; replace q1_1 := hk12.cellAt q1_1; replace q2_0 := hk12.cellAt q2_0; replace q2_1 := hk12.cellAt q2_1; replace q3_0 := hk12.cellAt q3_0; replace q3_1 := hk12.cellAt q3_1; have z12 := hk12.size; replace ox2 := ox2.keep (keepE hk12 (by omega)); replace ox3 := ox3.keep (keepE hk12 (by omega)); replace ox4 := ox4.keep (keepE hk12 (by omega)); replace ox5 := ox5.keep (keepE hk12 (by omega)); replace ox6 := ox6.keep (keepE hk12 (by omega)); replace ox7 := ox7.keep (keepE hk12 (by omega)); replace ox8 := ox8.keep (keepE hk12 (by omega)); have hB12 := hB11.trans hk12; clear hk12; have hE12 : Ext w w12 := hB12; clear hb12; clear ox8)
          | (go_at_call 18; refine (toImage_v _ _ _ _ (by exact r0.keep (keepE' (by first | exact hB10 | exact hB10.drew | exact hB10.drewN _) (Nat.le_refl _))) (by first | omega | (simp; done) | (simp; omega)) (by omega)).mono ?_; rintro e11 w11 ⟨vx8, rfl, ox8, hb11⟩; have hk11 : Ext w10 w11 := (by first | exact hb11 | exact ((Ext.refl _).drew).trans hb11 | exact ((Ext.refl _).drewN _).trans hb11); replace q0_0 := hk11.cellAt q0_0; replace q0_1 := hk11.cellAt q0_1; replace q1_0 := hk11.cellAt q1_0; replace q1_1 := hk11.cellAt q1_1; replace q2_0 := hk11.cellAt q2_0; replace q2_1 := hk11.cellAt q2_1; replace q3_0 := hk11.cellAt q3_0; replace q3_1 := hk11.cellAt q3_1; have z11 := hk11.size; replace ox2 := ox2.keep (keepE hk11 (by omega)); replace ox3 := ox3.keep (keepE hk11 (by omega)); replace ox4 := ox4.keep (keepE hk11 (by omega)); replace ox5 := ox5.keep (keepE hk11 (by omega)); replace ox6 := ox6.keep (keepE hk11 (by omega)); replace ox7 := ox7.keep (keepE hk11 (by omega)); have hB11 := hB10.trans hk11; clear hk11; have hE11 : Ext w w11 := hB11; clear hb11))
      go_wp2_with fail
      refine (toEntryS_v _ _ _ _ (by exact r1.keep (keepE' (by repeat' (first | with_reducible exact Ext.refl _ | with_reducible assumption | with_reducible refine Ext.set ?_ ?_ _ _ | with_reducible refine Ext.alloc ?_ _ | with_reducible refine Ext.drew ?_ | with_reducible refine Ext.drewN ?_ _ | with_reducible refine Ext.trans ?_ (by with_reducible assumption) | omega | (simp; done) | (simp; omega))) (Nat.le_refl _))) (by first | omega | (simp; done) | (simp; omega)) (by omega)).mono ?_
      rintro e13 w13 ⟨vx9, rfl, ox9, hb13⟩
      have hk13 : Ext w12 w13 := by repeat' (first | with_reducible exact Ext.refl _ | with_reducible assumption | with_reducible refine Ext.set ?_ ?_ _ _ | with_reducible refine Ext.alloc ?_ _ | with_reducible refine Ext.drew ?_ | with_reducible refine Ext.drewN ?_ _ | with_reducible refine Ext.trans ?_ (by with_reducible assumption) | omega | (simp; done) | (simp; omega))
      replace q0_0 := hk13.cellAt q0_0
      replace q0_1 := hk13.cellAt q0_1
      replace q1_0 := hk13.cellAt q1_0
      replace q1_1 := hk13.cellAt q1_1
      replace q2_0 := hk13.cellAt q2_0
      replace q2_1 := hk13.cellAt q2_1
      replace q3_0 := hk13.cellAt q3_0
      replace q3_1 := hk13.cellAt q3_1
      have z13 := hk13.size
      replace ox2 := ox2.keep (keepE hk13 (by omega))
      replace ox3 := ox3.keep (keepE hk13 (by omega))
      replace ox4 := ox4.keep (keepE hk13 (by omega))
      replace ox5 := ox5.keep (keepE hk13 (by omega))
      replace ox6 := ox6.keep (keepE hk13 (by omega))
      replace ox7 := ox7.keep (keepE hk13 (by omega))
      have hB13 := hB12.trans hk13
      clear hk13
      have hE13 : Ext w w13 := hB13
      clear hb13
      go_wp2_with fail
      refine (eqEntryS_v _ _ _ _ _ _ _ (by exact ox5.rd.keep (keepE' (by repeat' (first | with_reducible exact Ext.refl _ | with_reducible assumption | with_reducible refine Ext.set ?_ ?_ _ _ | with_reducible refine Ext.alloc ?_ _ | with_reducible refine Ext.drew ?_ | with_reducible refine Ext.drewN ?_ _ | with_reducible refine Ext.trans ?_ (by with_reducible assumption) | omega | (simp; done) | (simp; omega))) (by first | omega | (simp; done) | (simp; omega)))) (by first | omega | (simp; done) | (simp; omega)) (by exact ox9.rd.keep (keepE' (by repeat' (first | with_reducible exact Ext.refl _ | with_reducible assumption | with_reducible refine Ext.set ?_ ?_ _ _ | with_reducible refine Ext.alloc ?_ _ | with_reducible refine Ext.drew ?_ | with_reducible refine Ext.drewN ?_ _ | with_reducible refine Ext.trans ?_ (by with_reducible assumption) | omega | (simp; done) | (simp; omega))) (by first | omega | (simp; done) | (simp; omega)))) (by first | omega | (simp; done) | (simp; omega))).mono ?_
      rintro e14 w14 ⟨rfl, hb14⟩
      have hk14 : Ext w13 w14 := by repeat' (first | with_reducible exact Ext.refl _ | with_reducible assumption | with_reducible refine Ext.set ?_ ?_ _ _ | with_reducible refine Ext.alloc ?_ _ | with_reducible refine Ext.drew ?_ | with_reducible refine Ext.drewN ?_ _ | with_reducible refine Ext.trans ?_ (by with_reducible assumption) | omega | (simp; done) | (simp; omega))
      replace q0_0 := hk14.cellAt q0_0
      replace q0_1 := hk14.cellAt q0_1
      replace q1_0 := hk14.cellAt q1_0
      replace q1_1 := hk14.cellAt q1_1
      replace q2_0 := hk14.cellAt q2_0
      replace q2_1 := hk14.cellAt q2_1
      replace q3_0 := hk14.cellAt q3_0
      replace q3_1 := hk14.cellAt q3_1
      have z14 := hk14.size
      replace ox2 := ox2.keep (keepE hk14 (by omega))
      replace ox3 := ox3.keep (keepE hk14 (by omega))
      replace ox4 := ox4.keep (keepE hk14 (by omega))
      replace ox5 := ox5.keep (keepE hk14 (by omega))
      replace ox6 := ox6.keep (keepE hk14 (by omega))
      replace ox7 := ox7.keep (keepE hk14 (by omega))
      replace ox9 := ox9.keep (keepE hk14 (by omega))
      have hB14 := hB13.trans hk14
      clear hk14
      have hE14 : Ext w w14 := hB14
      clear hb14
      clear ox9
      go_wp2_with fail
      refine (markImage_v _ _ _ _ _ _ ox4 (by omega) (by omega) (by omega)).mono ?_
      rintro e15 w15 ⟨rfl, om15, hb15⟩
      have z15 := hb15.size
      replace q0_0 := hb15.cellAt q0_0 (by omega)
      replace q0_1 := hb15.cellAt q0_1 (by omega)
      replace q1_0 := hb15.cellAt q1_0 (by omega)
      replace q1_1 := hb15.cellAt q1_1 (by omega)
      replace q2_0 := hb15.cellAt q2_0 (by omega)
      replace q2_1 := hb15.cellAt q2_1 (by omega)
      replace q3_0 := hb15.cellAt q3_0 (by omega)
      replace q3_1 := hb15.cellAt q3_1 (by omega)
      replace ox2 := ox2.keep (keepF hb15 (by omega) (by omega))
      replace ox3 := ox3.keep (keepF hb15 (by omega) (by omega))
      replace ox5 := ox5.keep (keepF hb15 (by omega) (by omega))
      replace ox6 := ox6.keep (keepF hb15 (by omega) (by omega))
      replace ox7 := ox7.keep (keepF hb15 (by omega) (by omega))
      have hB15 := hB14.fr hb15 (by omega)
      have hE15 : Ext w w15 := hB15
      clear hb15
      clear ox4
      go_wp2_with fail
      refine (markEntryS_v _ _ _ _ _ _ ox5 (by omega) (by omega) (by omega)).mono ?_
      rintro e16 w16 ⟨rfl, om16, hb16⟩
      have z16 := hb16.size
      replace q0_0 := hb16.cellAt q0_0 (by omega)
      replace q0_1 := hb16.cellAt q0_1 (by omega)
      replace q1_0 := hb16.cellAt q1_0 (by omega)
      replace q1_1 := hb16.cellAt q1_1 (by omega)
      replace q2_0 := hb16.cellAt q2_0 (by omega)
      replace q2_1 := hb16.cellAt q2_1 (by omega)
      replace q3_0 := hb16.cellAt q3_0 (by omega)
      replace q3_1 := hb16.cellAt q3_1 (by omega)
      replace ox2 := ox2.keep (keepF hb16 (by omega) (by omega))
      replace ox3 := ox3.keep (keepF hb16 (by omega) (by omega))
      replace om15 := om15.keep (keepF hb16 (by omega) (by omega))
      replace ox6 := ox6.keep (keepF hb16 (by omega) (by omega))
      replace ox7 := ox7.keep (keepF hb16 (by omega) (by omega))
      have hB16 := hB15.fr hb16 (by omega)
      have hE16 : Ext w w16 := hB16
      clear hb16
      clear ox5
      clear om15
      clear om16
      go_wp2_with fail
      refine (eqImage_v _ _ _ _ _ _ _ (by exact ox6.rd.keep (keepE' (by repeat' (first | with_reducible exact Ext.refl _ | with_reducible assumption | with_reducible refine Ext.set ?_ ?_ _ _ | with_reducible refine Ext.alloc ?_ _ | with_reducible refine Ext.drew ?_ | with_reducible refine Ext.drewN ?_ _ | with_reducible refine Ext.trans ?_ (by with_reducible assumption) | omega | (simp; done) | (simp; omega))) (by first | omega | (simp; done) | (simp; omega)))) (by first | omega | (simp; done) | (simp; omega)) (by exact ox2.rd.keep (keepE' (by repeat' (first | with_reducible exact Ext.refl _ | with_reducible assumption | with_reducible refine Ext.set ?_ ?_ _ _ | with_reducible refine Ext.alloc ?_ _ | with_reducible refine Ext.drew ?_ | with_reducible refine Ext.drewN ?_ _ | with_reducible refine Ext.trans ?_ (by with_reducible assumption) | omega | (simp; done) | (simp; omega))) (by first | omega | (simp; done) | (simp; omega)))) (by first | omega | (simp; done) | (simp; omega))).mono ?_
      rintro e17 w17 ⟨rfl, hb17⟩
      have hk17 : Ext w16 w17 := by repeat' (first | with_reducible exact Ext.refl _ | with_reducible assumption | with_reducible refine Ext.set ?_ ?_ _ _ | with_reducible refine Ext.alloc ?_ _ | with_reducible refine Ext.drew ?_ | with_reducible refine Ext.drewN ?_ _ | with_reducible refine Ext.trans ?_ (by with_reducible assumption) | omega | (simp; done) | (simp; omega))
      replace q0_0 := hk17.cellAt q0_0
      replace q0_1 := hk17.cellAt q0_1
      replace q1_0 := hk17.cellAt q1_0
      replace q1_1 := hk17.cellAt q1_1
      replace q2_0 := hk17.cellAt q2_0
      replace q2_1 := hk17.cellAt q2_1
      replace q3_0 := hk17.cellAt q3_0
      replace q3_1 := hk17.cellAt q3_1
      have z17 := hk17.size
      replace ox2 := ox2.keep (keepE hk17 (by omega))
      replace ox3 := ox3.keep (keepE hk17 (by omega))
      replace ox6 := ox6.keep (keepE hk17 (by omega))
      replace ox7 := ox7.keep (keepE hk17 (by omega))
      have hB17 := hB16.trans hk17
      clear hk17
      have hE17 : Ext w w17 := hB17
      clear hb17
      go_wp2_with fail
      refine (eqIntS_v _ _ _ _ _ _ _ (by exact ox7.rd.keep (keepE' (by repeat' (first | with_reducible exact Ext.refl _ | with_reducible assumption | with_reducible refine Ext.set ?_ ?_ _ _ | with_reducible refine Ext.alloc ?_ _ | with_reducible refine Ext.drew ?_ | with_reducible refine Ext.drewN ?_ _ | with_reducible refine Ext.trans ?_ (by with_reducible assumption) | omega | (simp; done) | (simp; omega))) (by first | omega | (simp; done) | (simp; omega)))) (by first | omega | (simp; done) | (simp; omega)) (by exact ox3.rd.keep (keepE' (by repeat' (first | with_reducible exact Ext.refl _ | with_reducible assumption | with_reducible refine Ext.set ?_ ?_ _ _ | with_reducible refine Ext.alloc ?_ _ | with_reducible refine Ext.drew ?_ | with_reducible refine Ext.drewN ?_ _ | with_reducible refine Ext.trans ?_ (by with_reducible assumption) | omega | (simp; done) | (simp; omega))) (by first | omega | (simp; done) | (simp; omega)))) (by first | omega | (simp; done) | (simp; omega))).mono ?_
      rintro e18 w18 ⟨rfl, hb18⟩
      have hk18 : Ext w17 w18 := by repeat' (first | with_reducible exact Ext.refl _ | with_reducible assumption | with_reducible refine Ext.set ?_ ?_ _ _ | with_reducible refine Ext.alloc ?_ _ | with_reducible refine Ext.drew ?_ | with_reducible refine Ext.drewN ?_ _ | with_reducible refine Ext.trans ?_ (by with_reducible assumption) | omega | (simp; done) | (simp; omega))
      replace q0_0 := hk18.cellAt q0_0
      replace q0_1 := hk18.cellAt q0_1
      replace q1_0 := hk18.cellAt q1_0
      replace q1_1 := hk18.cellAt q1_1
      replace q2_0 := hk18.cellAt q2_0
      replace q2_1 := hk18.cellAt q2_1
      replace q3_0 := hk18.cellAt q3_0
      replace q3_1 := hk18.cellAt q3_1
      have z18 := hk18.size
      replace ox2 := ox2.keep (keepE hk18 (by omega))
      replace ox3 := ox3.keep (keepE hk18 (by omega))
      replace ox6 := ox6.keep (keepE hk18 (by omega))
      replace ox7 := ox7.keep (keepE hk18 (by omega))
      have hB18 := hB17.trans hk18
      clear hk18
      have hE18 : Ext w w18 := hB18
      clear hb18
      go_wp2_with fail
      refine (markImage_g _ _ _ _ _ _ ox6 (by omega) (by omega) (by omega)).mono ?_
      rintro e19 w19 ⟨rfl, om19, hb19, hsp19⟩
      have z19 := hb19.size
      replace q0_0 := hb19.cellAt q0_0 (by omega)
      replace q0_1 := hb19.cellAt q0_1 (by omega)
      replace q1_0 := hb19.cellAt q1_0 (by omega)
      replace q1_1 := hb19.cellAt q1_1 (by omega)
      replace q2_0 := hb19.cellAt q2_0 (by omega)
      replace q2_1 := hb19.cellAt q2_1 (by omega)
      replace q3_0 := hb19.cellAt q3_0 (by omega)
      replace q3_1 := hb19.cellAt q3_1 (by omega)
      replace ox2 := ox2.keep (keepF hb19 (by omega) (by omega))
      replace ox3 := ox3.keep (keepF hb19 (by omega) (by omega))
      replace ox7 := ox7.sp hsp19 (by decide)
      have hB19 := hB18.fr hb19 (by omega)
      have hE19 : Ext w w19 := hB19
      clear hb19
      clear ox6
      go_wp2_with fail
      refine (markIntS_sp _ _ _ _ _ _ ox7 (by omega) (by omega) (by omega)).mono ?_
      rintro e20 w20 ⟨rfl, om20, hb20, hsp20⟩
      have z20 := hb20.size
      replace q0_0 := hb20.cellAt q0_0 (by omega)
      replace q0_1 := hb20.cellAt q0_1 (by omega)
      replace q1_0 := hb20.cellAt q1_0 (by omega)
      replace q1_1 := hb20.cellAt q1_1 (by omega)
      replace q2_0 := hb20.cellAt q2_0 (by omega)
      replace q2_1 := hb20.cellAt q2_1 (by omega)
      replace q3_0 := hb20.cellAt q3_0 (by omega)
      replace q3_1 := hb20.cellAt q3_1 (by omega)
      replace ox2 := ox2.keep (keepF hb20 (by omega) (by omega))
      replace ox3 := ox3.keep (keepF hb20 (by omega) (by omega))
      replace om19 := om19.sp hsp20 (by decide) (by decide)
      have hB20 := hB19.fr hb20 (by omega)
      have hE20 : Ext w w20 := hB20
      clear hb20
      clear ox7
      go_wp2_with fail
      refine (heldImage_v _ _ _ _ _ om19.rd (by omega) (by omega) (by omega)).mono ?_
      rintro e21 w21 ⟨rfl, hb21⟩
      have hk21 : Ext w20 w21 := by repeat' (first | with_reducible exact Ext.refl _ | with_reducible assumption | with_reducible refine Ext.set ?_ ?_ _ _ | with_reducible refine Ext.alloc ?_ _ | with_reducible refine Ext.drew ?_ | with_reducible refine Ext.drewN ?_ _ | with_reducible refine Ext.trans ?_ (by with_reducible assumption) | omega | (simp; done) | (simp; omega))
      replace q0_0 := hk21.cellAt q0_0
      replace q0_1 := hk21.cellAt q0_1
      replace q1_0 := hk21.cellAt q1_0
      replace q1_1 := hk21.cellAt q1_1
      replace q2_0 := hk21.cellAt q2_0
      replace q2_1 := hk21.cellAt q2_1
      replace q3_0 := hk21.cellAt q3_0
      replace q3_1 := hk21.cellAt q3_1
      have z21 := hk21.size
      replace ox2 := ox2.keep (keepE hk21 (by omega))
      replace ox3 := ox3.keep (keepE hk21 (by omega))
      replace om19 := om19.keep (keepE hk21 (by omega))
      replace om20 := om20.keep (keepE hk21 (by omega))
      have hB21 := hB20.trans hk21
      clear hk21
      have hE21 : Ext w w21 := hB21
      clear hb21
      go_wp2_with fail
      refine (heldIntS_v _ _ _ _ _ om20.rd (by omega) (by omega) (by omega)).mono ?_
      rintro e22 w22 ⟨rfl, hb22⟩
      have hk22 : Ext w21 w22 := by repeat' (first | with_reducible exact Ext.refl _ | with_reducible assumption | with_reducible refine Ext.set ?_ ?_ _ _ | with_reducible refine Ext.alloc ?_ _ | with_reducible refine Ext.drew ?_ | with_reducible refine Ext.drewN ?_ _ | with_reducible refine Ext.trans ?_ (by with_reducible assumption) | omega | (simp; done) | (simp; omega))
      replace q0_0 := hk22.cellAt q0_0
      replace q0_1 := hk22.cellAt q0_1
      replace q1_0 := hk22.cellAt q1_0
      replace q1_1 := hk22.cellAt q1_1
      replace q2_0 := hk22.cellAt q2_0
      replace q2_1 := hk22.cellAt q2_1
      replace q3_0 := hk22.cellAt q3_0
      replace q3_1 := hk22.cellAt q3_1
      have z22 := hk22.size
      replace ox2 := ox2.keep (keepE hk22 (by omega))
      replace ox3 := ox3.keep (keepE hk22 (by omega))
      replace om19 := om19.keep (keepE hk22 (by omega))
      replace om20 := om20.keep (keepE hk22 (by omega))
      have hB22 := hB21.trans hk22
      clear hk22
      have hE22 : Ext w w22 := hB22
      clear hb22
      go_wp2_with fail
      refine (toImage_v _ _ _ _ (by exact r0.keep (keepE' (by repeat' (first | with_reducible exact Ext.refl _ | with_reducible assumption | with_reducible refine Ext.set ?_ ?_ _ _ | with_reducible refine Ext.alloc ?_ _ | with_reducible refine Ext.drew ?_ | with_reducible refine Ext.drewN ?_ _ | with_reducible refine Ext.trans ?_ (by with_reducible assumption) | omega | (simp; done) | (simp; omega))) (Nat.le_refl _))) (by first | omega | (simp; done) | (simp; omega)) (by omega)).mono ?_
      rintro e23 w23 ⟨vx10, rfl, ox10, hb23⟩
      have hk23 : Ext w22 w23 := by repeat' (first | with_reducible exact Ext.refl _ | with_reducible assumption | with_reducible refine Ext.set ?_ ?_ _ _ | with_reducible refine Ext.alloc ?_ _ | with_reducible refine Ext.drew ?_ | with_reducible refine Ext.drewN ?_ _ | with_reducible refine Ext.trans ?_ (by with_reducible assumption) | omega | (simp; done) | (simp; omega))
      replace q0_0 := hk23.cellAt q0_0
      replace q0_1 := hk23.cellAt q0_1
      replace q1_0 := hk23.cellAt q1_0
      replace q1_1 := hk23.cellAt q1_1
      replace q2_0 := hk23.cellAt q2_0
      replace q2_1 := hk23.cellAt q2_1
      replace q3_0 := hk23.cellAt q3_0
      replace q3_1 := hk23.cellAt q3_1
      have z23 := hk23.size
      replace ox2 := ox2.keep (keepE hk23 (by omega))
      replace ox3 := ox3.keep (keepE hk23 (by omega))
      replace om19 := om19.keep (keepE hk23 (by omega))
      replace om20 := om20.keep (keepE hk23 (by omega))
      have hB23 := hB22.trans hk23
      clear hk23
      have hE23 : Ext w w23 := hB23
      clear hb23
      obtain ⟨vx10u, vx10s, hvx10, ⟨vx10A, vx10n, vx10c, hvx10a, -⟩, ⟨vx10B, vx10m, vx10d, hvx10b, -⟩⟩ := id ox10
      subst hvx10a hvx10b hvx10
      go_wp2_with fail
      refine (toEntryS_v _ _ _ _ (by exact r1.keep (keepE' (by repeat' (first | with_reducible exact Ext.refl _ | with_reducible assumption | with_reducible refine Ext.set ?_ ?_ _ _ | with_reducible refine Ext.alloc ?_ _ | with_reducible refine Ext.drew ?_ | with_reducible refine Ext.drewN ?_ _ | with_reducible refine Ext.trans ?_ (by with_reducible assumption) | omega | (simp; done) | (simp; omega))) (Nat.le_refl _))) (by first | omega | (simp; done) | (simp; omega)) (by omega)).mono ?_
      rintro e24 w24 ⟨vx11, rfl, ox11, hb24⟩
      have hk24 : Ext w23 w24 := by repeat' (first | with_reducible exact Ext.refl _ | with_reducible assumption | with_reducible refine Ext.set ?_ ?_ _ _ | with_reducible refine Ext.alloc ?_ _ | with_reducible refine Ext.drew ?_ | with_reducible refine Ext.drewN ?_ _ | with_reducible refine Ext.trans ?_ (by with_reducible assumption) | omega | (simp; done) | (simp; omega))
      replace q0_0 := hk24.cellAt q0_0
      replace q0_1 := hk24.cellAt q0_1
      replace q1_0 := hk24.cellAt q1_0
      replace q1_1 := hk24.cellAt q1_1
      replace q2_0 := hk24.cellAt q2_0
      replace q2_1 := hk24.cellAt q2_1
      replace q3_0 := hk24.cellAt q3_0
      replace q3_1 := hk24.cellAt q3_1
      have z24 := hk24.size
      replace ox2 := ox2.keep (keepE hk24 (by omega))
      replace ox3 := ox3.keep (keepE hk24 (by omega))
      replace om19 := om19.keep (keepE hk24 (by omega))
      replace om20 := om20.keep (keepE hk24 (by omega))
      replace ox10 := ox10.keep (keepE hk24 (by omega))
      have hB24 := hB23.trans hk24
      clear hk24
      have hE24 : Ext w w24 := hB24
      clear hb24
      go_wp2_with fail
      refine (runAll_i2 _ _ _ _ _ _ _ (by exact ox10.rd.keep (keepE' (by repeat' (first | with_reducible exact Ext.refl _ | with_reducible assumption | with_reducible refine Ext.set ?_ ?_ _ _ | with_reducible refine Ext.alloc ?_ _ | with_reducible refine Ext.drew ?_ | with_reducible refine Ext.drewN ?_ _ | with_reducible refine Ext.trans ?_ (by with_reducible assumption) | omega | (simp; done) | (simp; omega))) (by first | omega | (simp; done) | (simp; omega)))) (by first | omega | (simp; done) | (simp; omega)) (by exact ox11.rd.keep (keepE' (by repeat' (first | with_reducible exact Ext.refl _ | with_reducible assumption | with_reducible refine Ext.set ?_ ?_ _ _ | with_reducible refine Ext.alloc ?_ _ | with_reducible refine Ext.drew ?_ | with_reducible refine Ext.drewN ?_ _ | with_reducible refine Ext.trans ?_ (by with_reducible assumption) | omega | (simp; done) | (simp; omega))) (by first | omega | (simp; done) | (simp; omega)))) (by first | omega | (simp; done) | (simp; omega)) hsI (by omega)).mono ?_
      rintro e25 w25 ⟨vx12, vx13, rfl, ox12, ox13, hb25⟩
      have hk25 : Ext w24 w25 := by repeat' (first | with_reducible exact Ext.refl _ | with_reducible assumption | with_reducible refine Ext.set ?_ ?_ _ _ | with_reducible refine Ext.alloc ?_ _ | with_reducible refine Ext.drew ?_ | with_reducible refine Ext.drewN ?_ _ | with_reducible refine Ext.trans ?_ (by with_reducible assumption) | omega | (simp; done) | (simp; omega))
      replace q0_0 := hk25.cellAt q0_0
      replace q0_1 := hk25.cellAt q0_1
      replace q1_0 := hk25.cellAt q1_0
      replace q1_1 := hk25.cellAt q1_1
      replace q2_0 := hk25.cellAt q2_0
      replace q2_1 := hk25.cellAt q2_1
      replace q3_0 := hk25.cellAt q3_0
      replace q3_1 := hk25.cellAt q3_1
      have z25 := hk25.size
      replace ox2 := ox2.keep (keepE hk25 (by omega))
      replace ox3 := ox3.keep (keepE hk25 (by omega))
      replace om19 := om19.keep (keepE hk25 (by omega))
      replace om20 := om20.keep (keepE hk25 (by omega))
      replace ox10 := ox10.keep (keepE hk25 (by omega))
      replace ox11 := ox11.keep (keepE hk25 (by omega))
      have hB25 := hB24.trans hk25
      clear hk25
      have hE25 : Ext w w25 := hB25
      clear hb25
      obtain ⟨vx12u, vx12s, hvx12, ⟨vx12A, vx12n, vx12c, hvx12a, -⟩, ⟨vx12B, vx12m, vx12d, hvx12b, -⟩⟩ := id ox12
      subst hvx12a hvx12b hvx12
      have zb11 : w.heap.size < w25.heap.size := World.block_lt_of_cell? _ _ q0_0
      have zb12 : w5.heap.size < w25.heap.size := World.block_lt_of_cell? _ _ q1_0
      have zb13 : w6.heap.size < w25.heap.size := World.block_lt_of_cell? _ _ q2_0
      have zb14 : w8.heap.size < w25.heap.size := World.block_lt_of_cell? _ _ q3_0
      clear ox10
      clear ox11
      go_wp2_with fail
      refine (eqImage_v _ _ _ _ _ _ _ (by exact ox12.rd.keep (keepE' (by repeat' (first | with_reducible exact Ext.refl _ | with_reducible assumption | with_reducible refine Ext.set ?_ ?_ _ _ | with_reducible refine Ext.alloc ?_ _ | with_reducible refine Ext.drew ?_ | with_reducible refine Ext.drewN ?_ _ | with_reducible refine Ext.trans ?_ (by with_reducible assumption) | omega | (simp; done) | (simp; omega))) (by first | omega | (simp; done) | (simp; omega)))) (by first | omega | (simp; done) | (simp; omega)) (by exact ox2.rd.keep (keepE' (by repeat' (first | with_reducible exact Ext.refl _ | with_reducible assumption | with_reducible refine Ext.set ?_ ?_ _ _ | with_reducible refine Ext.alloc ?_ _ | with_reducible refine Ext.drew ?_ | with_reducible refine Ext.drewN ?_ _ | with_reducible refine Ext.trans ?_ (by with_reducible assumption) | omega | (simp; done) | (simp; omega))) (by first | omega | (simp; done) | (simp; omega)))) (by first | omega | (simp; done) | (simp; omega))).mono ?_
      rintro e26 w26 ⟨rfl, hb26⟩
      have hk26 : Ext w25 w26 := by repeat' (first | with_reducible exact Ext.refl _ | with_reducible assumption | with_reducible refine Ext.set ?_ ?_ _ _ | with_reducible refine Ext.alloc ?_ _ | with_reducible refine Ext.drew ?_ | with_reducible refine Ext.drewN ?_ _ | with_reducible refine Ext.trans ?_ (by with_reducible assumption) | omega | (simp; done) | (simp; omega))
      have q4_0 : w26.cell? ⟨w25.heap.size, 0, none⟩ = some (.slice vx12A vx12n vx12c) := hb26.cellAt (new_box _ _ #[.slice vx12A vx12n vx12c, .slice vx12B vx12m vx12d] _ 0 _ (by simp) rfl)
      have q4_1 : w26.cell? ⟨w25.heap.size, 1, none⟩ = some (.slice vx12B vx12m vx12d) := hb26.cellAt (new_box _ _ #[.slice vx12A vx12n vx12c, .slice vx12B vx12m vx12d] _ 1 _ (by simp) rfl)
      have zb15 : w25.heap.size < w26.heap.size := World.block_lt_of_cell? _ _ q4_0
      replace q0_0 := hk26.cellAt q0_0
      replace q0_1 := hk26.cellAt q0_1
      replace q1_0 := hk26.cellAt q1_0
      replace q1_1 := hk26.cellAt q1_1
      replace q2_0 := hk26.cellAt q2_0
      replace q2_1 := hk26.cellAt q2_1
      replace q3_0 := hk26.cellAt q3_0
      replace q3_1 := hk26.cellAt q3_1
      have z26 := hk26.size
      replace ox2 := ox2.keep (keepE hk26 (by omega))
      replace ox3 := ox3.keep (keepE hk26 (by omega))
      replace om19 := om19.keep (keepE hk26 (by omega))
      replace om20 := om20.keep (keepE hk26 (by omega))
      replace ox12 := ox12.keep (keepE hk26 (by omega))
      replace ox13 := ox13.keep (keepE hk26 (by omega))
      have hB26 := hB25.trans hk26
      clear hk26
      have hE26 : Ext w w26 := hB26
      clear hb26
      go_wp2_with fail
      refine (eqIntS_v _ _ _ _ _ _ _ (by exact ox13.rd.keep (keepE' (by repeat' (first | with_reducible exact Ext.refl _ | with_reducible assumption | with_reducible refine Ext.set ?_ ?_ _ _ | with_reducible refine Ext.alloc ?_ _ | with_reducible refine Ext.drew ?_ | with_reducible refine Ext.drewN ?_ _ | with_reducible refine Ext.trans ?_ (by with_reducible assumption) | omega | (simp; done) | (simp; omega))) (by first | omega | (simp; done) | (simp; omega)))) (by first | omega | (simp; done) | (simp; omega)) (by exact ox3.rd.keep (keepE' (by repeat' (first | with_reducible exact Ext.refl _ | with_reducible assumption | with_reducible refine Ext.set ?_ ?_ _ _ | with_reducible refine Ext.alloc ?_ _ | with_reducible refine Ext.drew ?_ | with_reducible refine Ext.drewN ?_ _ | with_reducible refine Ext.trans ?_ (by with_reducible assumption) | omega | (simp; done) | (simp; omega))) (by first | omega | (simp; done) | (simp; omega)))) (by first | omega | (simp; done) | (simp; omega))).mono ?_
      rintro e27 w27 ⟨rfl, hb27⟩
      have hk27 : Ext w26 w27 := by repeat' (first | with_reducible exact Ext.refl _ | with_reducible assumption | with_reducible refine Ext.set ?_ ?_ _ _ | with_reducible refine Ext.alloc ?_ _ | with_reducible refine Ext.drew ?_ | with_reducible refine Ext.drewN ?_ _ | with_reducible refine Ext.trans ?_ (by with_reducible assumption) | omega | (simp; done) | (simp; omega))
      replace q0_0 := hk27.cellAt q0_0
      replace q0_1 := hk27.cellAt q0_1
      replace q1_0 := hk27.cellAt q1_0
      replace q1_1 := hk27.cellAt q1_1
      replace q2_0 := hk27.cellAt q2_0
      replace q2_1 := hk27.cellAt q2_1
      replace q3_0 := hk27.cellAt q3_0
      replace q3_1 := hk27.cellAt q3_1
      replace q4_0 := hk27.cellAt q4_0
      replace q4_1 := hk27.cellAt q4_1
      have z27 := hk27.size
      replace ox2 := ox2.keep (keepE hk27 (by omega))
      replace ox3 := ox3.keep (keepE hk27 (by omega))
      replace om19 := om19.keep (keepE hk27 (by omega))
      replace om20 := om20.keep (keepE hk27 (by omega))
      replace ox12 := ox12.keep (keepE hk27 (by omega))
      replace ox13 := ox13.keep (keepE hk27 (by omega))
      have hB27 := hB26.trans hk27
      clear hk27
      have hE27 : Ext w w27 := hB27
      clear hb27
      clear ox12
      clear ox13
      clear ox2
      clear ox3
      go_wp2_with fail
      refine (heldImage_v _ _ _ _ _ om19.rd (by omega) (by omega) (by omega)).mono ?_
      rintro e28 w28 ⟨rfl, hb28⟩
      have hk28 : Ext w27 w28 := by repeat' (first | with_reducible exact Ext.refl _ | with_reducible assumption | with_reducible refine Ext.set ?_ ?_ _ _ | with_reducible refine Ext.alloc ?_ _ | with_reducible refine Ext.drew ?_ | with_reducible refine Ext.drewN ?_ _ | with_reducible refine Ext.trans ?_ (by with_reducible assumption) | omega | (simp; done) | (simp; omega))
      replace q0_0 := hk28.cellAt q0_0
      replace q0_1 := hk28.cellAt q0_1
      replace q1_0 := hk28.cellAt q1_0
      replace q1_1 := hk28.cellAt q1_1
      replace q2_0 := hk28.cellAt q2_0
      replace q2_1 := hk28.cellAt q2_1
      replace q3_0 := hk28.cellAt q3_0
      replace q3_1 := hk28.cellAt q3_1
      replace q4_0 := hk28.cellAt q4_0
      replace q4_1 := hk28.cellAt q4_1
      have z28 := hk28.size
      replace om19 := om19.keep (keepE hk28 (by omega))
      replace om20 := om20.keep (keepE hk28 (by omega))
      have hB28 := hB27.trans hk28
      clear hk28
      have hE28 : Ext w w28 := hB28
      clear hb28
      go_wp2_with fail
      refine (heldIntS_v _ _ _ _ _ om20.rd (by omega) (by omega) (by omega)).mono ?_
      rintro e29 w29 ⟨rfl, hb29⟩
      have hk29 : Ext w28 w29 := by repeat' (first | with_reducible exact Ext.refl _ | with_reducible assumption | with_reducible refine Ext.set ?_ ?_ _ _ | with_reducible refine Ext.alloc ?_ _ | with_reducible refine Ext.drew ?_ | with_reducible refine Ext.drewN ?_ _ | with_reducible refine Ext.trans ?_ (by with_reducible assumption) | omega | (simp; done) | (simp; omega))
      replace q0_0 := hk29.cellAt q0_0
      replace q0_1 := hk29.cellAt q0_1
      replace q1_0 := hk29.cellAt q1_0
      replace q1_1 := hk29.cellAt q1_1
      replace q2_0 := hk29.cellAt q2_0
      replace q2_1 := hk29.cellAt q2_1
      replace q3_0 := hk29.cellAt q3_0
      replace q3_1 := hk29.cellAt q3_1
      replace q4_0 := hk29.cellAt q4_0
      replace q4_1 := hk29.cellAt q4_1
      have z29 := hk29.size
      replace om19 := om19.keep (keepE hk29 (by omega))
      replace om20 := om20.keep (keepE hk29 (by omega))
      have hB29 := hB28.trans hk29
      clear hk29
      have hE29 : Ext w w29 := hB29
      clear hb29
      go_wp2
      go_ret
      exact ⟨rfl, hE29⟩
    · skip
      obtain ⟨u0, s0, hv0, -⟩ := id r0
      subst hv0
      go_enter Try.func4, Try.ntmps4
      go_wp2_with fail
      refine (szImage_ok _ _ _ _ _ (by exact r0.keep (keepE' (by repeat' (first | with_reducible exact Ext.refl _ | with_reducible assumption | with_reducible refine Ext.set ?_ ?_ _ _ | with_reducible refine Ext.alloc ?_ _ | with_reducible refine Ext.drew ?_ | with_reducible refine Ext.drewN ?_ _ | with_reducible refine Ext.trans ?_ (by with_reducible assumption) | omega | (simp; done) | (simp; omega))) (Nat.le_refl _))) (by first | omega | (simp; done) | (simp; omega)) (by omega) (by omega)).mono ?_
      rintro e1 w1 ⟨rfl, hb1⟩
      have hk1 : Ext w w1 := by repeat' (first | with_reducible exact Ext.refl _ | with_reducible assumption | with_reducible refine Ext.set ?_ ?_ _ _ | with_reducible refine Ext.alloc ?_ _ | with_reducible refine Ext.drew ?_ | with_reducible refine Ext.drewN ?_ _ | with_reducible refine Ext.trans ?_ (by with_reducible assumption) | omega | (simp; done) | (simp; omega))
      have q0_0 : w1.cell? ⟨w.heap.size, 0, none⟩ = some u0 := hb1.cellAt (new_box _ _ #[u0, s0] _ 0 _ (by simp) rfl)
      have q0_1 : w1.cell? ⟨w.heap.size, 1, none⟩ = some s0 := hb1.cellAt (new_box _ _ #[u0, s0] _ 1 _ (by simp) rfl)
      have zb16 : w.heap.size < w1.heap.size := World.block_lt_of_cell? _ _ q0_0
      have z1 := hk1.size
      have hB1 := hk1
      clear hk1
      have hE1 : Ext w w1 := hB1
      clear hb1
      go_wp2_with fail
      refine (szEntryS_noE _ _ _ _ _ (by exact r1.keep (keepE' (by repeat' (first | with_reducible exact Ext.refl _ | with_reducible assumption | with_reducible refine Ext.set ?_ ?_ _ _ | with_reducible refine Ext.alloc ?_ _ | with_reducible refine Ext.drew ?_ | with_reducible refine Ext.drewN ?_ _ | with_reducible refine Ext.trans ?_ (by with_reducible assumption) | omega | (simp; done) | (simp; omega))) (Nat.le_refl _))) (by omega) (by omega) (by omega)).mono ?_
      rintro e2 w2 ⟨rfl, hb2⟩
      have hk2 : Ext w1 w2 := by repeat' (first | with_reducible exact Ext.refl _ | with_reducible assumption | with_reducible refine Ext.set ?_ ?_ _ _ | with_reducible refine Ext.alloc ?_ _ | with_reducible refine Ext.drew ?_ | with_reducible refine Ext.drewN ?_ _ | with_reducible refine Ext.trans ?_ (by with_reducible assumption) | omega | (simp; done) | (simp; omega))
      replace q0_0 := hk2.cellAt q0_0
      replace q0_1 := hk2.cellAt q0_1
      have z2 := hk2.size
      have hB2 := hB1.trans hk2
      clear hk2
      have hE2 : Ext w w2 := hB2
      clear hb2
      go_wp2
      go_ret
      exact ⟨rfl, hE2⟩
  · skip
    obtain ⟨u0, s0, hv0, -⟩ := id r0
    subst hv0
    go_enter Try.func4, Try.ntmps4
    go_wp2_with fail
    refine (szImage_no _ _ _ _ _ (by exact r0.keep (keepE' (by repeat' (first | with_reducible exact Ext.refl _ | with_reducible assumption | with_reducible refine Ext.set ?_ ?_ _ _ | with_reducible refine Ext.alloc ?_ _ | with_reducible refine Ext.drew ?_ | with_reducible refine Ext.drewN ?_ _ | with_reducible refine Ext.trans ?_ (by with_reducible assumption) | omega | (simp; done) | (simp; omega))) (Nat.le_refl _))) (by first | omega | (simp; done) | (simp; omega)) (by omega) (by omega) (by omega)).mono ?_
    rintro e1 w1 ⟨rfl, hb1⟩
    have hk1 : Ext w w1 := by repeat' (first | with_reducible exact Ext.refl _ | with_reducible assumption | with_reducible refine Ext.set ?_ ?_ _ _ | with_reducible refine Ext.alloc ?_ _ | with_reducible refine Ext.drew ?_ | with_reducible refine Ext.drewN ?_ _ | with_reducible refine Ext.trans ?_ (by with_reducible assumption) | omega | (simp; done) | (simp; omega))
    have q0_0 : w1.cell? ⟨w.heap.size, 0, none⟩ = some u0 := hb1.cellAt (new_box _ _ #[u0, s0] _ 0 _ (by simp) rfl)
    have q0_1 : w1.cell? ⟨w.heap.size, 1, none⟩ = some s0 := hb1.cellAt (new_box _ _ #[u0, s0] _ 1 _ (by simp) rfl)
    have zb17 : w.heap.size < w1.heap.size := World.block_lt_of_cell? _ _ q0_0
    have z1 := hk1.size
    have hB1 := hk1
    clear hk1
    have hE1 : Ext w w1 := hB1
    clear hb1
    go_wp2
    go_ret
    exact ⟨rfl, hE1⟩

set_option maxRecDepth 100000 in
theorem lifted (os : Os) (started : os.Started) (H : Type) (enc : TypeId × Value → H) :
    ReturnsInHanded {} Try.checked os 4 .any (Rows.fnExactRunAllSpec.pre6 enc Try.prog Try.f4 Rows.fnExactRunAllRow.domain false) (Rows.fnExactRunAllSpec.post enc Try.prog Try.f4 false true false false) := by
  refine returnsInHanded_of_change (C := Try.checked) own started (by kernel_rfl) Try.func4
    (ChangeSpec.witness6 (enc := enc) (C := Try.checked) false ⟨#[], #[.agg #[.slice none 0 0, .slice none 0 0], .slice none 0 0], []⟩ 8 (by kernel_rfl) (by kernel_rfl) (by kernel_rfl) (by kernel_rfl)) ?_
  intro W base args ds gs before hval0 hW hcnd _
  have hval : ∀ (j : Nat) t v, Try.f4.params[j]? = some t → args[j]? = some v → Value.okWide Try.prog W .any base t v := hval0
  have hW' := hW
  obtain ⟨p, q, hA0, hV, rfl, hfz, hnd⟩ := hW
  have hA : DataW.TrodAll enc Try.prog W 0 (fun _ => true) true Try.f4.params.toList args.toList ds p := hA0
  rw [Try.params4] at hA hval
  obtain ⟨vv0, vs0, dd0, ds0, pp0, qq0, hargs, rfl, rfl, ht0, rr0⟩ := trodAll_cons hA
  obtain ⟨vv1, vs1, dd1, ds1, pp1, qq1, rfl, rfl, rfl, ht1, rr1⟩ := trodAll_cons rr0
  obtain ⟨rfl, rfl, rfl⟩ := trodAll_nil rr1
  obtain rfl : args = #[vv0, vv1] := by cases args; simp_all
  obtain ⟨rfl, rfl⟩ := trodVars_none hV
  have trd0 := ht0
  have lts0 : ∀ x ∈ pp0, x.block < W.heap.size := by obtain ⟨m, hm⟩ := trd0; exact DataW.trod_lt m _ _ _ hm
  obtain ⟨l0, r0, g0⟩ := open_Image_arg (hval 0 48 vv0 rfl rfl) ht0
  have trd1 := ht1
  have lts1 : ∀ x ∈ pp1, x.block < W.heap.size := by obtain ⟨m, hm⟩ := trd1; exact DataW.trod_lt m _ _ _ hm
  obtain ⟨l1, r1, g1⟩ := open_EntryS_arg (hval 1 49 vv1 rfl rfl) ht1
  clear hA0 hval0
  refine (walk vv0  l0  vv1  l1  W r0 g0 r1 g1).mono fun e W' ⟨he, bel⟩ => ?_
  subst he
  exact ⟨_, rfl, _, _, _, [], _, [], hW', trodAll_mk1 (shut_bool Try.underlying4 _), (trodAll_cons_mk (Below.trod laidOut (by kernel_rfl) (of_decide_eq_true (by kernel_rfl)) trd0 bel lts0) (trodAll_cons_mk (Below.trod laidOut (by kernel_rfl) (of_decide_eq_true (by kernel_rfl)) trd1 bel lts1) trodAll_mk0)), rfl, Below.frame bel _, fun h => by cases h⟩

theorem over : Rows.fnExactRunAllRow.holds Try.pinned (OpenSpec.ofChange Rows.fnExactRunAllSpec) :=
  OpenClaim.holds_of_wide 4 Try.f4 rfl rfl rfl rfl rfl rfl rfl ⟨rfl, rfl, rfl, rfl, rfl⟩ rfl rfl rfl rfl rfl (by as_aux_lemma => kernel_rfl) Try.func4 (by as_aux_lemma => kernel_rfl)
    (of_decide_eq_true (by as_aux_lemma => kernel_rfl)) (by as_aux_lemma => unfold Func.isWrapper; first | (rw [if_pos (by decide +kernel)]; kernel_rfl) | (rw [if_neg (by decide +kernel)]; exact ⟨rfl, rfl⟩))
    (fun os started H enc _ => lifted os started H enc)

theorem proved : Rows.FnExactRunAllSaid := over
#print axioms proved
end Go.Proofs.Ytekphmkgiioloaa.fnExactRunAll
