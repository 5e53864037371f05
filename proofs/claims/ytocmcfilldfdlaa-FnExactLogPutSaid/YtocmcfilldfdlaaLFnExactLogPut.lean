/-
  FnExactLogPut returns true for every input: the program's LogPut returns what the reference's does, leaves its arguments alone, and returns memory of its own.
  Conditions: none: for every argument, in whatever memory.
-/
import Derived.Test.YtocmcfilldfdlaaOpen
import Derived.Test.YtocmcfilldfdlaaLogPut
import Derived.Test.YtocmcfilldfdlaaLog
import Derived.Test.YtocmcfilldfdlaaBox
import Derived.Deep.DeepCutAuto
namespace Go.Proofs.Ytocmcfilldfdlaa.fnExactLogPut
open Go.ChangeShapes Go.WideShapes Go.ChangeAt Go.RowKit
set_option linter.unusedVariables false
set_option maxRecDepth 1000000

set_option maxRecDepth 100000 in
set_option maxHeartbeats 8000000 in
theorem walk (vv0 : Value) (l0 : LogD) (p1 q1 k1 x1 y1 : Int) (w : World) (r0 : R_Log w w.heap.size vv0 l0) (g0 : FitsL l0) (fp1 : Fits p1) (fq1 : Fits q1) (fk1 : Fits k1) (fx1 : Fits x1) (fy1 : Fits y1) :
    Calls Try.prog 10 #[vv0, .agg #[.int .i64 p1, .int .i64 q1, .int .i64 k1, .int .i64 x1, .int .i64 y1]] w fun e w' => e = .returned (.bool true) ∧ Ext w w' := by
  by_cases hbig0 : szL l0 ≤ 1048576
  · skip
    have hbig := hbig0
    obtain ⟨u0, s0, t0, hv0, -⟩ := id r0
    subst hv0
    have nk0 : NK_Log l0 ≤ 8388608 := by unfold NK_Log NK_Image NK_CellS NK_SeatS NK_EntryS; unfold szL szI at hbig; omega
    have nk1 : NK_Log (logPut l0 ⟨p1, q1, ⟨k1, x1, y1⟩⟩).1 ≤ 4194304 := logPut_nk l0 _
    go_enter Try.func10, Try.ntmps10
    go_wp2_with fail
    refine (szLog_ok _ _ _ _ _ (by exact r0.keep (keepE' (by repeat' (first | with_reducible exact Ext.refl _ | with_reducible assumption | with_reducible refine Ext.set ?_ ?_ _ _ | with_reducible refine Ext.alloc ?_ _ | with_reducible refine Ext.drew ?_ | with_reducible refine Ext.drewN ?_ _ | with_reducible refine Ext.trans ?_ (by with_reducible assumption) | omega | (simp; done) | (simp; omega))) (Nat.le_refl _))) (by first | omega | (simp; done) | (simp; omega)) (by omega) (by omega)).mono ?_
    rintro e1 w1 ⟨rfl, hb1⟩
    have hk1 : Ext w w1 := by repeat' (first | with_reducible exact Ext.refl _ | with_reducible assumption | with_reducible refine Ext.set ?_ ?_ _ _ | with_reducible refine Ext.alloc ?_ _ | with_reducible refine Ext.drew ?_ | with_reducible refine Ext.drewN ?_ _ | with_reducible refine Ext.trans ?_ (by with_reducible assumption) | omega | (simp; done) | (simp; omega))
    have q0_0 : w1.cell? ⟨w.heap.size, 0, none⟩ = some (.int .i64 l0.base) := hb1.cellAt (Ext.cellAt ((Ext.refl _).alloc _) (new_box _ _ #[.int .i64 l0.base, u0, s0, t0] _ 0 _ (by simp) rfl))
    have q0_1 : w1.cell? ⟨w.heap.size, 1, none⟩ = some u0 := hb1.cellAt (Ext.cellAt ((Ext.refl _).alloc _) (new_box _ _ #[.int .i64 l0.base, u0, s0, t0] _ 1 _ (by simp) rfl))
    have q0_2 : w1.cell? ⟨w.heap.size, 2, none⟩ = some s0 := hb1.cellAt (Ext.cellAt ((Ext.refl _).alloc _) (new_box _ _ #[.int .i64 l0.base, u0, s0, t0] _ 2 _ (by simp) rfl))
    have q0_3 : w1.cell? ⟨w.heap.size, 3, none⟩ = some t0 := hb1.cellAt (Ext.cellAt ((Ext.refl _).alloc _) (new_box _ _ #[.int .i64 l0.base, u0, s0, t0] _ 3 _ (by simp) rfl))
    have zb1 : w.heap.size < w1.heap.size := World.block_lt_of_cell? _ _ q0_0
    have q1_0 : w1.cell? ⟨w.heap.size + 1, 0, none⟩ = some (.int .i64 p1) := hb1.cellAt (new_box _ _ #[.int .i64 p1, .int .i64 q1, .int .i64 k1, .int .i64 x1, .int .i64 y1] _ 0 _ (by simp) rfl)
    have q1_1 : w1.cell? ⟨w.heap.size + 1, 1, none⟩ = some (.int .i64 q1) := hb1.cellAt (new_box _ _ #[.int .i64 p1, .int .i64 q1, .int .i64 k1, .int .i64 x1, .int .i64 y1] _ 1 _ (by simp) rfl)
    have q1_2 : w1.cell? ⟨w.heap.size + 1, 2, none⟩ = some (.int .i64 k1) := hb1.cellAt (new_box _ _ #[.int .i64 p1, .int .i64 q1, .int .i64 k1, .int .i64 x1, .int .i64 y1] _ 2 _ (by simp) rfl)
    have q1_3 : w1.cell? ⟨w.heap.size + 1, 3, none⟩ = some (.int .i64 x1) := hb1.cellAt (new_box _ _ #[.int .i64 p1, .int .i64 q1, .int .i64 k1, .int .i64 x1, .int .i64 y1] _ 3 _ (by simp) rfl)
    have q1_4 : w1.cell? ⟨w.heap.size + 1, 4, none⟩ = some (.int .i64 y1) := hb1.cellAt (new_box _ _ #[.int .i64 p1, .int .i64 q1, .int .i64 k1, .int .i64 x1, .int .i64 y1] _ 4 _ (by simp) rfl)
    have zb2 : w.heap.size + 1 < w1.heap.size := World.block_lt_of_cell? _ _ q1_0
    have z1 := hk1.size
    have hB1 := hk1
    clear hk1
    have hE1 : Ext w w1 := hB1
    clear hb1
    go_upto_region 5 with (fail)
    have zb3 : w.heap.size < w1.heap.size := World.block_lt_of_cell? _ _ q0_0
    have zb4 : w.heap.size + 1 < w1.heap.size := World.block_lt_of_cell? _ _ q1_0
    go_cut [6, 7] (fun s6 s7 wx => ∃ (g_ : Nat) (A_ : Option Addr) (n_ c_ : Nat) (B_ : Option Addr) (m_ d_ : Nat) (C_ : Option Addr) (k_ e_ : Nat), s6 = .pointer (some ⟨g_, 0, none⟩) ∧ s7 = .bool ((logPut l0 ⟨p1, q1, ⟨k1, x1, y1⟩⟩).2) ∧ Ext w1 wx ∧ w1.heap.size ≤ g_ ∧ g_ < wx.heap.size ∧ wx.cell? ⟨g_, 0, none⟩ = some (.int .i64 ((logPut l0 ⟨p1, q1, ⟨k1, x1, y1⟩⟩).1).base) ∧ wx.cell? ⟨g_, 1, none⟩ = some (.slice A_ n_ c_) ∧ wx.cell? ⟨g_, 2, none⟩ = some (.slice B_ m_ d_) ∧ wx.cell? ⟨g_, 3, none⟩ = some (.slice C_ k_ e_) ∧ ∃ lo0 hi0 : Nat, O_Log wx lo0 hi0 (.agg #[.int .i64 ((logPut l0 ⟨p1, q1, ⟨k1, x1, y1⟩⟩).1).base, .slice A_ n_ c_, .slice B_ m_ d_, .slice C_ k_ e_]) ((logPut l0 ⟨p1, q1, ⟨k1, x1, y1⟩⟩).1) ∧ w1.heap.size ≤ lo0 ∧ hi0 ≤ wx.heap.size ∧ (g_ < lo0 ∨ hi0 ≤ g_))
    case first =>
      have hS : Ext w1 w1 := Ext.refl _
      go_region_held3 (fun w' => w'.cell? ⟨w.heap.size, 0, none⟩ = some (.int .i64 l0.base) ∧ w'.cell? ⟨w.heap.size, 1, none⟩ = some (u0) ∧ w'.cell? ⟨w.heap.size, 2, none⟩ = some (s0) ∧ w'.cell? ⟨w.heap.size, 3, none⟩ = some (t0) ∧ w'.cell? ⟨w.heap.size + 1, 0, none⟩ = some (.int .i64 p1) ∧ w'.cell? ⟨w.heap.size + 1, 1, none⟩ = some (.int .i64 q1) ∧ w'.cell? ⟨w.heap.size + 1, 2, none⟩ = some (.int .i64 k1) ∧ w'.cell? ⟨w.heap.size + 1, 3, none⟩ = some (.int .i64 x1) ∧ w'.cell? ⟨w.heap.size + 1, 4, none⟩ = some (.int .i64 y1)) (first | exact ⟨by rw [cell_set_ne _ _ _ _ _ _ (by omega), cell_set_ne _ _ _ _ _ _ (by omega), cell_set_ne _ _ _ _ _ _ (by omega), cell_set_ne _ _ _ _ _ _ (by omega)]; exact q0_0, by rw [cell_set_ne _ _ _ _ _ _ (by omega), cell_set_ne _ _ _ _ _ _ (by omega), cell_set_ne _ _ _ _ _ _ (by omega), cell_set_ne _ _ _ _ _ _ (by omega)]; exact q0_1, by rw [cell_set_ne _ _ _ _ _ _ (by omega), cell_set_ne _ _ _ _ _ _ (by omega), cell_set_ne _ _ _ _ _ _ (by omega), cell_set_ne _ _ _ _ _ _ (by omega)]; exact q0_2, by rw [cell_set_ne _ _ _ _ _ _ (by omega), cell_set_ne _ _ _ _ _ _ (by omega), cell_set_ne _ _ _ _ _ _ (by omega), cell_set_ne _ _ _ _ _ _ (by omega)]; exact q0_3, by rw [cell_set_ne _ _ _ _ _ _ (by omega), cell_set_ne _ _ _ _ _ _ (by omega), cell_set_ne _ _ _ _ _ _ (by omega), cell_set_ne _ _ _ _ _ _ (by omega)]; exact q1_0, by rw [cell_set_ne _ _ _ _ _ _ (by omega), cell_set_ne _ _ _ _ _ _ (by omega), cell_set_ne _ _ _ _ _ _ (by omega), cell_set_ne _ _ _ _ _ _ (by omega)]; exact q1_1, by rw [cell_set_ne _ _ _ _ _ _ (by omega), cell_set_ne _ _ _ _ _ _ (by omega), cell_set_ne _ _ _ _ _ _ (by omega), cell_set_ne _ _ _ _ _ _ (by omega)]; exact q1_2, by rw [cell_set_ne _ _ _ _ _ _ (by omega), cell_set_ne _ _ _ _ _ _ (by omega), cell_set_ne _ _ _ _ _ _ (by omega), cell_set_ne _ _ _ _ _ _ (by omega)]; exact q1_3, by rw [cell_set_ne _ _ _ _ _ _ (by omega), cell_set_ne _ _ _ _ _ _ (by omega), cell_set_ne _ _ _ _ _ _ (by omega), cell_set_ne _ _ _ _ _ _ (by omega)]; exact q1_4⟩ | exact ⟨q0_0, q0_1, q0_2, q0_3, q1_0, q1_1, q1_2, q1_3, q1_4⟩ | exact ⟨Ext.cellAt ((Ext.refl _).alloc _) q0_0, Ext.cellAt ((Ext.refl _).alloc _) q0_1, Ext.cellAt ((Ext.refl _).alloc _) q0_2, Ext.cellAt ((Ext.refl _).alloc _) q0_3, Ext.cellAt ((Ext.refl _).alloc _) q1_0, Ext.cellAt ((Ext.refl _).alloc _) q1_1, Ext.cellAt ((Ext.refl _).alloc _) q1_2, Ext.cellAt ((Ext.refl _).alloc _) q1_3, Ext.cellAt ((Ext.refl _).alloc _) q1_4⟩)
        (first
          | (go_at_call 35; refine (logPut_s _ _ _ _ _ _ _ _ _ (by exact ox0.rd.keep (keepE' (by first | exact Ext.refl _ | exact (Ext.refl _).drew | exact (Ext.refl _).drewN _ | exact (Ext.refl _).alloc _ | exact ((Ext.refl _).alloc _).drew) (by first | omega | (simp; done) | (simp; omega)))) (by first | omega | (simp; done) | (simp; omega))).mono ?_; rintro e4 w4 ⟨vx1, rfl, ox1, hb4⟩; have hk4 : Ext w3 w4 := (by first | exact hb4 | exact ((Ext.refl _).drew).trans hb4 | exact ((Ext.refl _).drewN _).trans hb4 | exact ((Ext.refl _).alloc _).trans hb4 | exact (((Ext.refl _).alloc _).drew).trans hb4); (first | have bx0 := Bx.ext (Bx.new w3 #[.int .i64 0, .slice none 0 0, .slice none 0 0, .slice none 0 0] 37 0 (.int .i64 0) rfl rfl) hb4 | have bx0 := Bx.ext (Bx.drew (Bx.new w3 #[.int .i64 0, .slice none 0 0, .slice none 0 0, .slice none 0 0] 37 0 (.int .i64 0) rfl rfl)) hb4 | replace bx0 := Bx.ext bx0 hb4 | replace bx0 := Bx.ext (Bx.drew bx0) hb4 | skip); (first | have bx1 := Bx.ext (Bx.new w3 #[.int .i64 0, .slice none 0 0, .slice none 0 0, .slice none 0 0] 37 1 (.slice none 0 0) rfl rfl) hb4 | have bx1 := Bx.ext (Bx.drew (Bx.new w3 #[.int .i64 0, .slice none 0 0, .slice none 0 0, .slice none 0 0] 37 1 (.slice none 0 0) rfl rfl)) hb4 | replace bx1 := Bx.ext bx1 hb4 | replace bx1 := Bx.ext (Bx.drew bx1) hb4 | skip); (first | have bx2 := Bx.ext (Bx.new w3 #[.int .i64 0, .slice none 0 0, .slice none 0 0, .slice none 0 0] 37 2 (.slice none 0 0) rfl rfl) hb4 | have bx2 := Bx.ext (Bx.drew (Bx.new w3 #[.int .i64 0, .slice none 0 0, .slice none 0 0, .slice none 0 0] 37 2 (.slice none 0 0) rfl rfl)) hb4 | replace bx2 := Bx.ext bx2 hb4 | replace bx2 := Bx.ext (Bx.drew bx2) hb4 | skip); (first | have bx3 := Bx.ext (Bx.new w3 #[.int .i64 0, .slice none 0 0, .slice none 0 0, .slice none 0 0] 37 3 (.slice none 0 0) rfl rfl) hb4 | have bx3 := Bx.ext (Bx.drew (Bx.new w3 #[.int .i64 0, .slice none 0 0, .slice none 0 0, .slice none 0 0] 37 3 (.slice none 0 0) rfl rfl)) hb4 | replace bx3 := Bx.ext bx3 hb4 | replace bx3 := Bx.ext (Bx.drew bx3) hb4 | skip); (first | (have bxp0 := bx0.1; have bxf0 := bx0.2) | skip); (first | (have bxp1 := bx1.1; have bxf1 := bx1.2) | skip); (first | (have bxp2 := bx2.1; have bxf2 := bx2.2) | skip); (first | (have bxp3 := bx3.1; have bxf3 := bx3.2) | skip); (first | have bxlt4 := Bx.lt bx0 | skip); replace hS := hS.trans hk4; replace q0_0 := hk4.cellAt q0_0; replace q0_1 := hk4.cellAt q0_1; replace q0_2 := hk4.cellAt q0_2; replace q0_3 := hk4.cellAt q0_3; replace q1_0 := hk4.cellAt q1_0; replace q1_1 := hk4.cellAt q1_1; replace q1_2 := hk4.cellAt q1_2; replace q1_3 := hk4.cellAt q1_3; replace q1_4 := hk4.cellAt q1_4; have z4 := hk4.size; replace ox0 := ox0.keep (keepE hk4 (by omega)); have hB4 := hB3.trans hk4; clear hk4; have hE4 : Ext w w4 := hB4; clear hb4; obtain ⟨vx1u, vx1s, vx1t, hvx1, ⟨vx1A, vx1n, vx1c, hvx1a, -⟩, ⟨vx1B, vx1m, vx1d, hvx1b, -⟩, ⟨vx1C, vx1k, vx1e, hvx1t, -⟩⟩ := id ox1; subst hvx1a hvx1b hvx1t hvx1; have zb5 : w.heap.size < w4.heap.size := World.block_lt_of_cell? _ _ q0_0; have zb6 : w.heap.size + 1 < w4.heap.size := World.block_lt_of_cell? _ _ q1_0)
          | (go_at_call 36; refine (toEntry_any _ _ _ _ _ _).mono ?_; rintro e3 w3 ⟨rfl, hb3⟩; have hk3 : Ext w2 w3 := (by first | exact hb3 | exact ((Ext.refl _).drew).trans hb3 | exact ((Ext.refl _).drewN _).trans hb3 | exact ((Ext.refl _).alloc _).trans hb3 | exact (((Ext.refl _).alloc _).drew).trans hb3); (first | have bx0 := Bx.ext (Bx.new w2 #[.int .i64 0, .slice none 0 0, .slice none 0 0, .slice none 0 0] 37 0 (.int .i64 0) rfl rfl) hb3 | have bx0 := Bx.ext (Bx.drew (Bx.new w2 #[.int .i64 0, .slice none 0 0, .slice none 0 0, .slice none 0 0] 37 0 (.int .i64 0) rfl rfl)) hb3 | replace bx0 := Bx.ext bx0 hb3 | replace bx0 := Bx.ext (Bx.drew bx0) hb3 | skip); (first | have bx1 := Bx.ext (Bx.new w2 #[.int .i64 0, .slice none 0 0, .slice none 0 0, .slice none 0 0] 37 1 (.slice none 0 0) rfl rfl) hb3 | have bx1 := Bx.ext (Bx.drew (Bx.new w2 #[.int .i64 0, .slice none 0 0, .slice none 0 0, .slice none 0 0] 37 1 (.slice none 0 0) rfl rfl)) hb3 | replace bx1 := Bx.ext bx1 hb3 | replace bx1 := Bx.ext (Bx.drew bx1) hb3 | skip); (first | have bx2 := Bx.ext (Bx.new w2 #[.int .i64 0, .slice none 0 0, .slice none 0 0, .slice none 0 0] 37 2 (.slice none 0 0) rfl rfl) hb3 | have bx2 := Bx.ext (Bx.drew (Bx.new w2 #[.int .i64 0, .slice none 0 0, .slice none 0 0, .slice none 0 0] 37 2 (.slice none 0 0) rfl rfl)) hb3 | replace bx2 := Bx.ext bx2 hb3 | replace bx2 := Bx.ext (Bx.drew bx2) hb3 | skip); (first | have bx3 := Bx.ext (Bx.new w2 #[.int .i64 0, .slice none 0 0, .slice none 0 0, .slice none 0 0] 37 3 (.slice none 0 0) rfl rfl) hb3 | have bx3 := Bx.ext (Bx.drew (Bx.new w2 #[.int .i64 0, .slice none 0 0, .slice none 0 0, .slice none 0 0] 37 3 (.slice none 0 0) rfl rfl)) hb3 | replace bx3 := Bx.ext bx3 hb3 | replace bx3 := Bx.ext (Bx.drew bx3) hb3 | skip); (first | (have bxp0 := bx0.1; have bxf0 := bx0.2) | skip); (first | (have bxp1 := bx1.1; have bxf1 := bx1.2) | skip); (first | (have bxp2 := bx2.1; have bxf2 := bx2.2) | skip); (first | (have bxp3 := bx3.1; have bxf3 := bx3.2) | skip); (first | have bxlt3 := Bx.lt bx0 | skip); replace hS := hS.trans hk3; replace q0_0 := hk3.cellAt q0_0; replace q0_1 := hk3.cellAt q0_1; replace q0_2 := hk3.cellAt q0_2; replace q0_3 := hk3.cellAt q0_3; replace q1_0 := hk3.cellAt q1_0; replace q1_1 := hk3.cellAt q1_1; replace q1_2 := hk3.cellAt q1_2; replace q1_3 := hk3.cellAt q1_3; replace q1_4 := hk3.cellAt q1_4; have z3 := hk3.size; replace ox0 := ox0.keep (keepE hk3 (by omega)); have hB3 := hB2.trans hk3; clear hk3; have hE3 : Ext w w3 := hB3; clear hb3)
          | (go_at_call 13; refine (toLog_v _ _ _ _ (by exact r0.keep (keepE' (by first | exact hB1 | exact hB1.drew | exact hB1.drewN _ | exact hB1.alloc _ | exact (hB1.alloc _).drew) (Nat.le_refl _))) (by first | omega | (simp; done) | (simp; omega)) (by omega)).mono ?_; rintro e2 w2 ⟨vx0, rfl, ox0, hb2⟩; have hk2 : Ext w1 w2 := (by first | exact hb2 | exact ((Ext.refl _).drew).trans hb2 | exact ((Ext.refl _).drewN _).trans hb2 | exact ((Ext.refl _).alloc _).trans hb2 | exact (((Ext.refl _).alloc _).drew).trans hb2); (first | have bx0 := Bx.ext (Bx.new w1 #[.int .i64 0, .slice none 0 0, .slice none 0 0, .slice none 0 0] 37 0 (.int .i64 0) rfl rfl) hb2 | have bx0 := Bx.ext (Bx.drew (Bx.new w1 #[.int .i64 0, .slice none 0 0, .slice none 0 0, .slice none 0 0] 37 0 (.int .i64 0) rfl rfl)) hb2 | replace bx0 := Bx.ext bx0 hb2 | replace bx0 := Bx.ext (Bx.drew bx0) hb2 | skip); (first | have bx1 := Bx.ext (Bx.new w1 #[.int .i64 0, .slice none 0 0, .slice none 0 0, .slice none 0 0] 37 1 (.slice none 0 0) rfl rfl) hb2 | have bx1 := Bx.ext (Bx.drew (Bx.new w1 #[.int .i64 0, .slice none 0 0, .slice none 0 0, .slice none 0 0] 37 1 (.slice none 0 0) rfl rfl)) hb2 | replace bx1 := Bx.ext bx1 hb2 | replace bx1 := Bx.ext (Bx.drew bx1) hb2 | skip); (first | have bx2 := Bx.ext (Bx.new w1 #[.int .i64 0, .slice none 0 0, .slice none 0 0, .slice none 0 0] 37 2 (.slice none 0 0) rfl rfl) hb2 | have bx2 := Bx.ext (Bx.drew (Bx.new w1 #[.int .i64 0, .slice none 0 0, .slice none 0 0, .slice none 0 0] 37 2 (.slice none 0 0) rfl rfl)) hb2 | replace bx2 := Bx.ext bx2 hb2 | replace bx2 := Bx.ext (Bx.drew bx2) hb2 | skip); (first | have bx3 := Bx.ext (Bx.new w1 #[.int .i64 0, .slice none 0 0, .slice none 0 0, .slice none 0 0] 37 3 (.slice none 0 0) rfl rfl) hb2 | have bx3 := Bx.ext (Bx.drew (Bx.new w1 #[.int .i64 0, .slice none 0 0, .slice none 0 0, .slice none 0 0] 37 3 (.slice none 0 0) rfl rfl)) hb2 | replace bx3 := Bx.ext bx3 hb2 | replace bx3 := Bx.ext (Bx.drew bx3) hb2 | skip); (first | (have bxp0 := bx0.1; have bxf0 := bx0.2) | skip); (first | (have bxp1 := bx1.1; have bxf1 := bx1.2) | skip); (first | (have bxp2 := bx2.1; have bxf2 := bx2.2) | skip); (first | (have bxp3 := bx3.1; have bxf3 := bx3.2) | skip); (first | have bxlt2 := Bx.lt bx0 | skip); replace hS := hS.trans hk2; replace q0_0 := hk2.cellAt q0_0; replace q0_1 := hk2.cellAt q0_1; replace q0_2 := hk2.cellAt q0_2; replace q0_3 := hk2.cellAt q0_3; replace q1_0 := hk2.cellAt q1_0; replace q1_1 := hk2.cellAt q1_1; replace q1_2 := hk2.cellAt q1_2; replace q1_3 := hk2.cellAt q1_3; replace q1_4 := hk2.cellAt q1_4; have z2 := hk2.size; have hB2 := hB1.trans hk2; clear hk2; have hE2 : Ext w w2 := hB2; clear hb2; obtain ⟨vx0u, vx0s, vx0t, hvx0, ⟨vx0A, vx0n, vx0c, hvx0a, -⟩, ⟨vx0B, vx0m, vx0d, hvx0b, -⟩, ⟨vx0C, vx0k, vx0e, hvx0t, -⟩⟩ := id ox0; subst hvx0a hvx0b hvx0t hvx0))
      all_goals (go_wp2_with fail; go_meet; exact ⟨_, vx1A, vx1n, vx1c, vx1B, vx1m, vx1d, vx1C, vx1k, vx1e, by first | rfl | (simp; done), by first | rfl | (simp; done), by repeat' (first | with_reducible exact Ext.refl _ | with_reducible assumption | with_reducible refine Ext.set ?_ ?_ _ _ | with_reducible refine Ext.alloc ?_ _ | with_reducible refine Ext.drew ?_ | with_reducible refine Ext.drewN ?_ _ | with_reducible refine Ext.trans ?_ (by with_reducible assumption) | omega | (simp; done) | (simp; omega)), by first | omega | (simp; omega), by first | omega | (simp; done) | (simp; omega), by first | exact ((Bx.off (Bx.off (Bx.off (Bx.same bx0 _) (by omega) _) (by omega) _) (by omega) _)).1 | exact new_box _ _ #[.int .i64 ((logPut l0 ⟨p1, q1, ⟨k1, x1, y1⟩⟩).1).base, .slice vx1A vx1n vx1c, .slice vx1B vx1m vx1d, .slice vx1C vx1k vx1e] _ 0 _ (by simp) rfl, by first | exact ((Bx.off (Bx.off (Bx.same (Bx.off bx1 (by omega) _) _) (by omega) _) (by omega) _)).1 | exact new_box _ _ #[.int .i64 ((logPut l0 ⟨p1, q1, ⟨k1, x1, y1⟩⟩).1).base, .slice vx1A vx1n vx1c, .slice vx1B vx1m vx1d, .slice vx1C vx1k vx1e] _ 1 _ (by simp) rfl, by first | exact ((Bx.off (Bx.same (Bx.off (Bx.off bx2 (by omega) _) (by omega) _) _) (by omega) _)).1 | exact new_box _ _ #[.int .i64 ((logPut l0 ⟨p1, q1, ⟨k1, x1, y1⟩⟩).1).base, .slice vx1A vx1n vx1c, .slice vx1B vx1m vx1d, .slice vx1C vx1k vx1e] _ 2 _ (by simp) rfl, by first | exact ((Bx.same (Bx.off (Bx.off (Bx.off bx3 (by omega) _) (by omega) _) (by omega) _) _)).1 | exact new_box _ _ #[.int .i64 ((logPut l0 ⟨p1, q1, ⟨k1, x1, y1⟩⟩).1).base, .slice vx1A vx1n vx1c, .slice vx1B vx1m vx1d, .slice vx1C vx1k vx1e] _ 3 _ (by simp) rfl, _, _, by exact ox1.keep (show Kp _ _ _ _ by repeat' (first | with_reducible exact Kp.refl _ _ _ | with_reducible assumption | with_reducible refine Kp.set ?_ ?_ _ _ | with_reducible refine Kp.alloc ?_ ?_ _ | with_reducible refine Kp.drew ?_ | with_reducible refine Kp.drewN ?_ _ | with_reducible refine Kp.ext ?_ ?_ (by with_reducible assumption) | with_reducible refine Kp.fr ?_ ?_ ?_ (by with_reducible assumption) | omega | (simp; done) | (simp; omega))), by first | omega | (simp; omega), by first | omega | (simp; done) | (simp; omega), by first | omega | (simp; done) | (simp; omega)⟩)
    obtain ⟨gg5, vx1A, vx1n, vx1c, vx1B, vx1m, vx1d, vx1C, vx1k, vx1e, rfl, rfl, hk5, zg5, zh5, q2_0, q2_1, q2_2, q2_3, lo5_0, hi5_0, ox1, zl5_0, zm5_0, zn5_0⟩ := hcut
    rename World => w5
    replace q0_0 := hk5.cellAt q0_0
    replace q0_1 := hk5.cellAt q0_1
    replace q0_2 := hk5.cellAt q0_2
    replace q0_3 := hk5.cellAt q0_3
    replace q1_0 := hk5.cellAt q1_0
    replace q1_1 := hk5.cellAt q1_1
    replace q1_2 := hk5.cellAt q1_2
    replace q1_3 := hk5.cellAt q1_3
    replace q1_4 := hk5.cellAt q1_4
    have z5 := hk5.size
    have hB5 := hB1.trans hk5
    have hE5 : Ext w w5 := hB5
    clear hk5
    go_wp2_with fail
    refine (toLog_v _ _ _ _ (by exact r0.keep (keepE' (by repeat' (first | with_reducible exact Ext.refl _ | with_reducible assumption | with_reducible refine Ext.set ?_ ?_ _ _ | with_reducible refine Ext.alloc ?_ _ | with_reducible refine Ext.drew ?_ | with_reducible refine Ext.drewN ?_ _ | with_reducible refine Ext.trans ?_ (by with_reducible assumption) | omega | (simp; done) | (simp; omega))) (Nat.le_refl _))) (by first | omega | (simp; done) | (simp; omega)) (by omega)).mono ?_
    rintro e6 w6 ⟨vx2, rfl, ox2, hb6⟩
    have hk6 : Ext w5 w6 := by repeat' (first | with_reducible exact Ext.refl _ | with_reducible assumption | with_reducible refine Ext.set ?_ ?_ _ _ | with_reducible refine Ext.alloc ?_ _ | with_reducible refine Ext.drew ?_ | with_reducible refine Ext.drewN ?_ _ | with_reducible refine Ext.trans ?_ (by with_reducible assumption) | omega | (simp; done) | (simp; omega))
    replace q0_0 := hk6.cellAt q0_0
    replace q0_1 := hk6.cellAt q0_1
    replace q0_2 := hk6.cellAt q0_2
    replace q0_3 := hk6.cellAt q0_3
    replace q1_0 := hk6.cellAt q1_0
    replace q1_1 := hk6.cellAt q1_1
    replace q1_2 := hk6.cellAt q1_2
    replace q1_3 := hk6.cellAt q1_3
    replace q1_4 := hk6.cellAt q1_4
    replace q2_0 := hk6.cellAt q2_0
    replace q2_1 := hk6.cellAt q2_1
    replace q2_2 := hk6.cellAt q2_2
    replace q2_3 := hk6.cellAt q2_3
    have z6 := hk6.size
    replace ox1 := ox1.keep (keepE hk6 (by omega))
    have hB6 := hB5.trans hk6
    clear hk6
    have hE6 : Ext w w6 := hB6
    clear hb6
    obtain ⟨vx2u, vx2s, vx2t, hvx2, ⟨vx2A, vx2n, vx2c, hvx2a, -⟩, ⟨vx2B, vx2m, vx2d, hvx2b, -⟩, ⟨vx2C, vx2k, vx2e, hvx2t, -⟩⟩ := id ox2
    subst hvx2a hvx2b hvx2t hvx2
    have zb7 : w.heap.size < w6.heap.size := World.block_lt_of_cell? _ _ q0_0
    have zb8 : w.heap.size + 1 < w6.heap.size := World.block_lt_of_cell? _ _ q1_0
    have zb9 : gg5 < w6.heap.size := World.block_lt_of_cell? _ _ q2_0
    go_upto_region 7 with (fail)
    have hk7 : Ext w6 (w6.alloc (.cells #[.int .i64 (l0).base, .slice vx2A vx2n vx2c, .slice vx2B vx2m vx2d, .slice vx2C vx2k vx2e] 37)) := ((Ext.refl _).alloc _)
    have q3_0 : (w6.alloc (.cells #[.int .i64 (l0).base, .slice vx2A vx2n vx2c, .slice vx2B vx2m vx2d, .slice vx2C vx2k vx2e] 37)).cell? ⟨w6.heap.size, 0, none⟩ = some (.int .i64 (l0).base) := (new_box _ _ #[.int .i64 (l0).base, .slice vx2A vx2n vx2c, .slice vx2B vx2m vx2d, .slice vx2C vx2k vx2e] _ 0 _ (by simp) rfl)
    have q3_1 : (w6.alloc (.cells #[.int .i64 (l0).base, .slice vx2A vx2n vx2c, .slice vx2B vx2m vx2d, .slice vx2C vx2k vx2e] 37)).cell? ⟨w6.heap.size, 1, none⟩ = some (.slice vx2A vx2n vx2c) := (new_box _ _ #[.int .i64 (l0).base, .slice vx2A vx2n vx2c, .slice vx2B vx2m vx2d, .slice vx2C vx2k vx2e] _ 1 _ (by simp) rfl)
    have q3_2 : (w6.alloc (.cells #[.int .i64 (l0).base, .slice vx2A vx2n vx2c, .slice vx2B vx2m vx2d, .slice vx2C vx2k vx2e] 37)).cell? ⟨w6.heap.size, 2, none⟩ = some (.slice vx2B vx2m vx2d) := (new_box _ _ #[.int .i64 (l0).base, .slice vx2A vx2n vx2c, .slice vx2B vx2m vx2d, .slice vx2C vx2k vx2e] _ 2 _ (by simp) rfl)
    have q3_3 : (w6.alloc (.cells #[.int .i64 (l0).base, .slice vx2A vx2n vx2c, .slice vx2B vx2m vx2d, .slice vx2C vx2k vx2e] 37)).cell? ⟨w6.heap.size, 3, none⟩ = some (.slice vx2C vx2k vx2e) := (new_box _ _ #[.int .i64 (l0).base, .slice vx2A vx2n vx2c, .slice vx2B vx2m vx2d, .slice vx2C vx2k vx2e] _ 3 _ (by simp) rfl)
    replace q0_0 := hk7.cellAt q0_0
    replace q0_1 := hk7.cellAt q0_1
    replace q0_2 := hk7.cellAt q0_2
    replace q0_3 := hk7.cellAt q0_3
    replace q1_0 := hk7.cellAt q1_0
    replace q1_1 := hk7.cellAt q1_1
    replace q1_2 := hk7.cellAt q1_2
    replace q1_3 := hk7.cellAt q1_3
    replace q1_4 := hk7.cellAt q1_4
    replace q2_0 := hk7.cellAt q2_0
    replace q2_1 := hk7.cellAt q2_1
    replace q2_2 := hk7.cellAt q2_2
    replace q2_3 := hk7.cellAt q2_3
    have z7 := hk7.size
    replace ox1 := ox1.keep (keepE hk7 (by omega))
    replace ox2 := ox2.keep (keepE hk7 (by omega))
    have hB7 := hB6.trans hk7
    generalize (w6.alloc (.cells #[.int .i64 (l0).base, .slice vx2A vx2n vx2c, .slice vx2B vx2m vx2d, .slice vx2C vx2k vx2e] 37)) = w7 at *
    have hE7 : Ext w w7 := hB7
    have zb10 : w6.heap.size < w7.heap.size := World.block_lt_of_cell? _ _ q3_0
    clear hk7
    have zb11 : w.heap.size < w7.heap.size := World.block_lt_of_cell? _ _ q0_0
    have zb12 : w.heap.size + 1 < w7.heap.size := World.block_lt_of_cell? _ _ q1_0
    have zb13 : gg5 < w7.heap.size := World.block_lt_of_cell? _ _ q2_0
    have zb14 : w6.heap.size < w7.heap.size := World.block_lt_of_cell? _ _ q3_0
    go_cut [9, 10] (fun s9 s10 wx => ∃ (g_ : Nat) (A_ : Option Addr) (n_ c_ : Nat) (B_ : Option Addr) (m_ d_ : Nat) (C_ : Option Addr) (k_ e_ : Nat), s9 = .pointer (some ⟨g_, 0, none⟩) ∧ s10 = .bool ((logPut l0 ⟨p1, q1, ⟨k1, x1, y1⟩⟩).2) ∧ Ext w7 wx ∧ w7.heap.size ≤ g_ ∧ g_ < wx.heap.size ∧ wx.cell? ⟨g_, 0, none⟩ = some (.int .i64 ((logPut l0 ⟨p1, q1, ⟨k1, x1, y1⟩⟩).1).base) ∧ wx.cell? ⟨g_, 1, none⟩ = some (.slice A_ n_ c_) ∧ wx.cell? ⟨g_, 2, none⟩ = some (.slice B_ m_ d_) ∧ wx.cell? ⟨g_, 3, none⟩ = some (.slice C_ k_ e_) ∧ ∃ lo0 hi0 : Nat, O_Log wx lo0 hi0 (.agg #[.int .i64 ((logPut l0 ⟨p1, q1, ⟨k1, x1, y1⟩⟩).1).base, .slice A_ n_ c_, .slice B_ m_ d_, .slice C_ k_ e_]) ((logPut l0 ⟨p1, q1, ⟨k1, x1, y1⟩⟩).1) ∧ w7.heap.size ≤ lo0 ∧ hi0 ≤ wx.heap.size ∧ (g_ < lo0 ∨ hi0 ≤ g_))
    case first =>
      have hS : Ext w7 w7 := Ext.refl _
      go_region_held3 (fun w' => w'.cell? ⟨w.heap.size, 0, none⟩ = some (.int .i64 l0.base) ∧ w'.cell? ⟨w.heap.size, 1, none⟩ = some (u0) ∧ w'.cell? ⟨w.heap.size, 2, none⟩ = some (s0) ∧ w'.cell? ⟨w.heap.size, 3, none⟩ = some (t0) ∧ w'.cell? ⟨w.heap.size + 1, 0, none⟩ = some (.int .i64 p1) ∧ w'.cell? ⟨w.heap.size + 1, 1, none⟩ = some (.int .i64 q1) ∧ w'.cell? ⟨w.heap.size + 1, 2, none⟩ = some (.int .i64 k1) ∧ w'.cell? ⟨w.heap.size + 1, 3, none⟩ = some (.int .i64 x1) ∧ w'.cell? ⟨w.heap.size + 1, 4, none⟩ = some (.int .i64 y1) ∧ w'.cell? ⟨gg5, 0, none⟩ = some (.int .i64 ((logPut l0 ⟨p1, q1, ⟨k1, x1, y1⟩⟩).1).base) ∧ w'.cell? ⟨gg5, 1, none⟩ = some (.slice vx1A vx1n vx1c) ∧ w'.cell? ⟨gg5, 2, none⟩ = some (.slice vx1B vx1m vx1d) ∧ w'.cell? ⟨gg5, 3, none⟩ = some (.slice vx1C vx1k vx1e) ∧ w'.cell? ⟨w6.heap.size, 0, none⟩ = some (.int .i64 (l0).base) ∧ w'.cell? ⟨w6.heap.size, 1, none⟩ = some (.slice vx2A vx2n vx2c) ∧ w'.cell? ⟨w6.heap.size, 2, none⟩ = some (.slice vx2B vx2m vx2d) ∧ w'.cell? ⟨w6.heap.size, 3, none⟩ = some (.slice vx2C vx2k vx2e)) (first | exact ⟨by rw [cell_set_ne _ _ _ _ _ _ (by omega), cell_set_ne _ _ _ _ _ _ (by omega), cell_set_ne _ _ _ _ _ _ (by omega), cell_set_ne _ _ _ _ _ _ (by omega)]; exact q0_0, by rw [cell_set_ne _ _ _ _ _ _ (by omega), cell_set_ne _ _ _ _ _ _ (by omega), cell_set_ne _ _ _ _ _ _ (by omega), cell_set_ne _ _ _ _ _ _ (by omega)]; exact q0_1, by rw [cell_set_ne _ _ _ _ _ _ (by omega), cell_set_ne _ _ _ _ _ _ (by omega), cell_set_ne _ _ _ _ _ _ (by omega), cell_set_ne _ _ _ _ _ _ (by omega)]; exact q0_2, by rw [cell_set_ne _ _ _ _ _ _ (by omega), cell_set_ne _ _ _ _ _ _ (by omega), cell_set_ne _ _ _ _ _ _ (by omega), cell_set_ne _ _ _ _ _ _ (by omega)]; exact q0_3, by rw [cell_set_ne _ _ _ _ _ _ (by omega), cell_set_ne _ _ _ _ _ _ (by omega), cell_set_ne _ _ _ _ _ _ (by omega), cell_set_ne _ _ _ _ _ _ (by omega)]; exact q1_0, by rw [cell_set_ne _ _ _ _ _ _ (by omega), cell_set_ne _ _ _ _ _ _ (by omega), cell_set_ne _ _ _ _ _ _ (by omega), cell_set_ne _ _ _ _ _ _ (by omega)]; exact q1_1, by rw [cell_set_ne _ _ _ _ _ _ (by omega), cell_set_ne _ _ _ _ _ _ (by omega), cell_set_ne _ _ _ _ _ _ (by omega), cell_set_ne _ _ _ _ _ _ (by omega)]; exact q1_2, by rw [cell_set_ne _ _ _ _ _ _ (by omega), cell_set_ne _ _ _ _ _ _ (by omega), cell_set_ne _ _ _ _ _ _ (by omega), cell_set_ne _ _ _ _ _ _ (by omega)]; exact q1_3, by rw [cell_set_ne _ _ _ _ _ _ (by omega), cell_set_ne _ _ _ _ _ _ (by omega), cell_set_ne _ _ _ _ _ _ (by omega), cell_set_ne _ _ _ _ _ _ (by omega)]; exact q1_4, by rw [cell_set_ne _ _ _ _ _ _ (by omega), cell_set_ne _ _ _ _ _ _ (by omega), cell_set_ne _ _ _ _ _ _ (by omega), cell_set_ne _ _ _ _ _ _ (by omega)]; exact q2_0, by rw [cell_set_ne _ _ _ _ _ _ (by omega), cell_set_ne _ _ _ _ _ _ (by omega), cell_set_ne _ _ _ _ _ _ (by omega), cell_set_ne _ _ _ _ _ _ (by omega)]; exact q2_1, by rw [cell_set_ne _ _ _ _ _ _ (by omega), cell_set_ne _ _ _ _ _ _ (by omega), cell_set_ne _ _ _ _ _ _ (by omega), cell_set_ne _ _ _ _ _ _ (by omega)]; exact q2_2, by rw [cell_set_ne _ _ _ _ _ _ (by omega), cell_set_ne _ _ _ _ _ _ (by omega), cell_set_ne _ _ _ _ _ _ (by omega), cell_set_ne _ _ _ _ _ _ (by omega)]; exact q2_3, by rw [cell_set_ne _ _ _ _ _ _ (by omega), cell_set_ne _ _ _ _ _ _ (by omega), cell_set_ne _ _ _ _ _ _ (by omega), cell_set_ne _ _ _ _ _ _ (by omega)]; exact q3_0, by rw [cell_set_ne _ _ _ _ _ _ (by omega), cell_set_ne _ _ _ _ _ _ (by omega), cell_set_ne _ _ _ _ _ _ (by omega), cell_set_ne _ _ _ _ _ _ (by omega)]; exact q3_1, by rw [cell_set_ne _ _ _ _ _ _ (by omega), cell_set_ne _ _ _ _ _ _ (by omega), cell_set_ne _ _ _ _ _ _ (by omega), cell_set_ne _ _ _ _ _ _ (by omega)]; exact q3_2, by rw [cell_set_ne _ _ _ _ _ _ (by omega), cell_set_ne _ _ _ _ _ _ (by omega), cell_set_ne _ _ _ _ _ _ (by omega), cell_set_ne _ _ _ _ _ _ (by omega)]; exact q3_3⟩ | exact ⟨q0_0, q0_1, q0_2, q0_3, q1_0, q1_1, q1_2, q1_3, q1_4, q2_0, q2_1, q2_2, q2_3, q3_0, q3_1, q3_2, q3_3⟩ | exact ⟨Ext.cellAt ((Ext.refl _).alloc _) q0_0, Ext.cellAt ((Ext.refl _).alloc _) q0_1, Ext.cellAt ((Ext.refl _).alloc _) q0_2, Ext.cellAt ((Ext.refl _).alloc _) q0_3, Ext.cellAt ((Ext.refl _).alloc _) q1_0, Ext.cellAt ((Ext.refl _).alloc _) q1_1, Ext.cellAt ((Ext.refl _).alloc _) q1_2, Ext.cellAt ((Ext.refl _).alloc _) q1_3, Ext.cellAt ((Ext.refl _).alloc _) q1_4, Ext.cellAt ((Ext.refl _).alloc _) q2_0, Ext.cellAt ((Ext.refl _).alloc _) q2_1, Ext.cellAt ((Ext.refl _).alloc _) q2_2, Ext.cellAt ((Ext.refl _).alloc _) q2_3, Ext.cellAt ((Ext.refl _).alloc _) q3_0, Ext.cellAt ((Ext.refl _).alloc _) q3_1, Ext.cellAt ((Ext.refl _).alloc _) q3_2, Ext.cellAt ((Ext.refl _).alloc _) q3_3⟩)
        (first
          | (go_at_call 33; refine (logPut_i _ _ _ _ _ _ _ _ _ (by exact ox2.rd.keep (keepE' (by first | exact Ext.refl _ | exact (Ext.refl _).drew | exact (Ext.refl _).drewN _ | exact (Ext.refl _).alloc _ | exact ((Ext.refl _).alloc _).drew) (by first | omega | (simp; done) | (simp; omega)))) (by first | omega | (simp; done) | (simp; omega))).mono ?_; rintro e9 w9 ⟨vx3, rfl, ox3, hb9⟩; have hk9 : Ext w8 w9 := (by first | exact hb9 | exact ((Ext.refl _).drew).trans hb9 | exact ((Ext.refl _).drewN _).trans hb9 | exact ((Ext.refl _).alloc _).trans hb9 | exact (((Ext.refl _).alloc _).drew).trans hb9); (first | have bx0 := Bx.ext (Bx.new w8 #[.int .i64 0, .slice none 0 0, .slice none 0 0, .slice none 0 0] 37 0 (.int .i64 0) rfl rfl) hb9 | have bx0 := Bx.ext (Bx.drew (Bx.new w8 #[.int .i64 0, .slice none 0 0, .slice none 0 0, .slice none 0 0] 37 0 (.int .i64 0) rfl rfl)) hb9 | replace bx0 := Bx.ext bx0 hb9 | replace bx0 := Bx.ext (Bx.drew bx0) hb9 | skip); (first | have bx1 := Bx.ext (Bx.new w8 #[.int .i64 0, .slice none 0 0, .slice none 0 0, .slice none 0 0] 37 1 (.slice none 0 0) rfl rfl) hb9 | have bx1 := Bx.ext (Bx.drew (Bx.new w8 #[.int .i64 0, .slice none 0 0, .slice none 0 0, .slice none 0 0] 37 1 (.slice none 0 0) rfl rfl)) hb9 | replace bx1 := Bx.ext bx1 hb9 | replace bx1 := Bx.ext (Bx.drew bx1) hb9 | skip); (first | have bx2 := Bx.ext (Bx.new w8 #[.int .i64 0, .slice none 0 0, .slice none 0 0, .slice none 0 0] 37 2 (.slice none 0 0) rfl rfl) hb9 | have bx2 := Bx.ext (Bx.drew (Bx.new w8 #[.int .i64 0, .slice none 0 0, .slice none 0 0, .slice none 0 0] 37 2 (.slice none 0 0) rfl rfl)) hb9 | replace bx2 := Bx.ext bx2 hb9 | replace bx2 := Bx.ext (Bx.drew bx2) hb9 | skip); (first | have bx3 := Bx.ext (Bx.new w8 #[.int .i64 0, .slice none 0 0, .slice none 0 0, .slice none 0 0] 37 3 (.slice none 0 0) rfl rfl) hb9 | have bx3 := Bx.ext (Bx.drew (Bx.new w8 #[.int .i64 0, .slice none 0 0, .slice none 0 0, .slice none 0 0] 37 3 (.slice none 0 0) rfl rfl)) hb9 | replace bx3 := Bx.ext bx3 hb9 | replace bx3 := Bx.ext (Bx.drew bx3) hb9 | skip); (first | (have bxp0 := bx0.1; have bxf0 := bx0.2) | skip); (first | (have bxp1 := bx1.1; have bxf1 := bx1.2) | skip); (first | (have bxp2 := bx2.1; have bxf2 := bx2.2) | skip); (first | (have bxp3 := bx3.1; have bxf3 := bx3.2) | skip); (first | have bxlt9 := Bx.lt bx0 | skip); replace hS := hS.trans hk9; replace q0_0 := hk9.cellAt q0_0; replace q0_1 := hk9.cellAt q0_1; replace q0_2 := hk9.cellAt q0_2; replace q0_3 := hk9.cellAt q0_3; replace q1_0 := hk9.cellAt q1_0; replace q1_1 := hk9.cellAt q1_1; replace q1_2 := hk9.cellAt q1_2; replace q1_3 := hk9.cellAt q1_3; replace q1_4 := hk9.cellAt q1_4; replace q2_0 := hk9.cellAt q2_0; replace q2_1 := hk9.cellAt q2_1; replace q2_2 := hk9.cellAt q2_2; replace q2_3 := hk9.cellAt q2_3; replace q3_0 := hk9.cellAt q3_0; replace q3_1 := hk9.cellAt q3_1; replace q3_2 := hk9.cellAt q3_2; replace q3_3 := hk9.cellAt q3_3; have z9 := hk9.size; replace ox1 := ox1.keep (keepE hk9 (by omega)); replace ox2 := ox2.keep (keepE hk9 (by omega)); have hB9 := hB8.trans hk9; clear hk9; have hE9 : Ext w w9 := hB9; clear hb9; obtain ⟨vx3u, vx3s, vx3t, hvx3, ⟨vx3A, vx3n, vx3c, hvx3a, -⟩, ⟨vx3B, vx3m, vx3d, hvx3b, -⟩, ⟨vx3C, vx3k, vx3e, hvx3t, -⟩⟩ := id ox3; subst hvx3a hvx3b hvx3t hvx3; have zb15 : w.heap.size < w9.heap.size := World.block_lt_of_cell? _ _ q0_0; have zb16 : w.heap.size + 1 < w9.heap.size := World.block_lt_of_cell? _ _ q1_0; have zb17 : gg5 < w9.heap.size := World.block_lt_of_cell? _ _ q2_0; have zb18 : w6.heap.size < w9.heap.size := World.block_lt_of_cell? _ _ q3_0)
          | (go_at_call 36; refine (toEntry_any _ _ _ _ _ _).mono ?_; rintro e8 w8 ⟨rfl, hb8⟩; have hk8 : Ext w7 w8 := (by first | exact hb8 | exact ((Ext.refl _).drew).trans hb8 | exact ((Ext.refl _).drewN _).trans hb8 | exact ((Ext.refl _).alloc _).trans hb8 | exact (((Ext.refl _).alloc _).drew).trans hb8); (first | have bx0 := Bx.ext (Bx.new w7 #[.int .i64 0, .slice none 0 0, .slice none 0 0, .slice none 0 0] 37 0 (.int .i64 0) rfl rfl) hb8 | have bx0 := Bx.ext (Bx.drew (Bx.new w7 #[.int .i64 0, .slice none 0 0, .slice none 0 0, .slice none 0 0] 37 0 (.int .i64 0) rfl rfl)) hb8 | replace bx0 := Bx.ext bx0 hb8 | replace bx0 := Bx.ext (Bx.drew bx0) hb8 | skip); (first | have bx1 := Bx.ext (Bx.new w7 #[.int .i64 0, .slice none 0 0, .slice none 0 0, .slice none 0 0] 37 1 (.slice none 0 0) rfl rfl) hb8 | have bx1 := Bx.ext (Bx.drew (Bx.new w7 #[.int .i64 0, .slice none 0 0, .slice none 0 0, .slice none 0 0] 37 1 (.slice none 0 0) rfl rfl)) hb8 | replace bx1 := Bx.ext bx1 hb8 | replace bx1 := Bx.ext (Bx.drew bx1) hb8 | skip); (first | have bx2 := Bx.ext (Bx.new w7 #[.int .i64 0, .slice none 0 0, .slice none 0 0, .slice none 0 0] 37 2 (.slice none 0 0) rfl rfl) hb8 | have bx2 := Bx.ext (Bx.drew (Bx.new w7 #[.int .i64 0, .slice none 0 0, .slice none 0 0, .slice none 0 0] 37 2 (.slice none 0 0) rfl rfl)) hb8 | replace bx2 := Bx.ext bx2 hb8 | replace bx2 := Bx.ext (Bx.drew bx2) hb8 | skip); (first | have bx3 := Bx.ext (Bx.new w7 #[.int .i64 0, .slice none 0 0, .slice none 0 0, .slice none 0 0] 37 3 (.slice none 0 0) rfl rfl) hb8 | have bx3 := Bx.ext (Bx.drew (Bx.new w7 #[.int .i64 0, .slice none 0 0, .slice none 0 0, .slice none 0 0] 37 3 (.slice none 0 0) rfl rfl)) hb8 | replace bx3 := Bx.ext bx3 hb8 | replace bx3 := Bx.ext (Bx.drew bx3) hb8 | skip); (first | (have bxp0 := bx0.1; have bxf0 := bx0.2) | skip); (first | (have bxp1 := bx1.1; have bxf1 := bx1.2) | skip); (first | (have bxp2 := bx2.1; have bxf2 := bx2.2) | skip); (first | (have bxp3 := bx3.1; have bxf3 := bx3.2) | skip); (first | have bxlt8 := Bx.lt bx0 | skip); replace hS := hS.trans hk8; replace q0_0 := hk8.cellAt q0_0; replace q0_1 := hk8.cellAt q0_1; replace q0_2 := hk8.cellAt q0_2; replace q0_3 := hk8.cellAt q0_3; replace q1_0 := hk8.cellAt q1_0; replace q1_1 := hk8.cellAt q1_1; replace q1_2 := hk8.cellAt q1_2; replace q1_3 := hk8.cellAt q1_3; replace q1_4 := hk8.cellAt q1_4; replace q2_0 := hk8.cellAt q2_0; replace q2_1 := hk8.cellAt q2_1; replace q2_2 := hk8.cellAt q2_2; replace q2_3 := hk8.cellAt q2_3; replace q3_0 := hk8.cellAt q3_0; replace q3_1 := hk8.cellAt q3_1; replace q3_2 := hk8.cellAt q3_2; replace q3_3 := hk8.cellAt q3_3; have z8 := hk8.size; replace ox1 := ox1.keep (keepE hk8 (by omega)); replace ox2 := ox2.keep (keepE hk8 (by omega)); have hB8 := hB7.trans hk8; clear hk8; have hE8 : Ext w w8 := hB8; clear hb8))
      all_goals (go_wp2_with fail; go_meet; exact ⟨_, vx3A, vx3n, vx3c, vx3B, vx3m, vx3d, vx3C, vx3k, vx3e, by first | rfl | (simp; done), by first | rfl | (simp; done), by repeat' (first | with_reducible exact Ext.refl _ | with_reducible assumption | with_reducible refine Ext.set ?_ ?_ _ _ | with_reducible refine Ext.alloc ?_ _ | with_reducible refine Ext.drew ?_ | with_reducible refine Ext.drewN ?_ _ | with_reducible refine Ext.trans ?_ (by with_reducible assumption) | omega | (simp; done) | (simp; omega)), by first | omega | (simp; omega), by first | omega | (simp; done) | (simp; omega), by first | exact ((Bx.off (Bx.off (Bx.off (Bx.same bx0 _) (by omega) _) (by omega) _) (by omega) _)).1 | exact new_box _ _ #[.int .i64 ((logPut l0 ⟨p1, q1, ⟨k1, x1, y1⟩⟩).1).base, .slice vx3A vx3n vx3c, .slice vx3B vx3m vx3d, .slice vx3C vx3k vx3e] _ 0 _ (by simp) rfl, by first | exact ((Bx.off (Bx.off (Bx.same (Bx.off bx1 (by omega) _) _) (by omega) _) (by omega) _)).1 | exact new_box _ _ #[.int .i64 ((logPut l0 ⟨p1, q1, ⟨k1, x1, y1⟩⟩).1).base, .slice vx3A vx3n vx3c, .slice vx3B vx3m vx3d, .slice vx3C vx3k vx3e] _ 1 _ (by simp) rfl, by first | exact ((Bx.off (Bx.same (Bx.off (Bx.off bx2 (by omega) _) (by omega) _) _) (by omega) _)).1 | exact new_box _ _ #[.int .i64 ((logPut l0 ⟨p1, q1, ⟨k1, x1, y1⟩⟩).1).base, .slice vx3A vx3n vx3c, .slice vx3B vx3m vx3d, .slice vx3C vx3k vx3e] _ 2 _ (by simp) rfl, by first | exact ((Bx.same (Bx.off (Bx.off (Bx.off bx3 (by omega) _) (by omega) _) (by omega) _) _)).1 | exact new_box _ _ #[.int .i64 ((logPut l0 ⟨p1, q1, ⟨k1, x1, y1⟩⟩).1).base, .slice vx3A vx3n vx3c, .slice vx3B vx3m vx3d, .slice vx3C vx3k vx3e] _ 3 _ (by simp) rfl, _, _, by exact ox3.keep (show Kp _ _ _ _ by repeat' (first | with_reducible exact Kp.refl _ _ _ | with_reducible assumption | with_reducible refine Kp.set ?_ ?_ _ _ | with_reducible refine Kp.alloc ?_ ?_ _ | with_reducible refine Kp.drew ?_ | with_reducible refine Kp.drewN ?_ _ | with_reducible refine Kp.ext ?_ ?_ (by with_reducible assumption) | with_reducible refine Kp.fr ?_ ?_ ?_ (by with_reducible assumption) | omega | (simp; done) | (simp; omega))), by first | omega | (simp; omega), by first | omega | (simp; done) | (simp; omega), by first | omega | (simp; done) | (simp; omega)⟩)
    obtain ⟨gg10, vx3A, vx3n, vx3c, vx3B, vx3m, vx3d, vx3C, vx3k, vx3e, rfl, rfl, hk10, zg10, zh10, q4_0, q4_1, q4_2, q4_3, lo10_0, hi10_0, ox3, zl10_0, zm10_0, zn10_0⟩ := hcut
    rename World => w10
    replace q0_0 := hk10.cellAt q0_0
    replace q0_1 := hk10.cellAt q0_1
    replace q0_2 := hk10.cellAt q0_2
    replace q0_3 := hk10.cellAt q0_3
    replace q1_0 := hk10.cellAt q1_0
    replace q1_1 := hk10.cellAt q1_1
    replace q1_2 := hk10.cellAt q1_2
    replace q1_3 := hk10.cellAt q1_3
    replace q1_4 := hk10.cellAt q1_4
    replace q2_0 := hk10.cellAt q2_0
    replace q2_1 := hk10.cellAt q2_1
    replace q2_2 := hk10.cellAt q2_2
    replace q2_3 := hk10.cellAt q2_3
    replace q3_0 := hk10.cellAt q3_0
    replace q3_1 := hk10.cellAt q3_1
    replace q3_2 := hk10.cellAt q3_2
    replace q3_3 := hk10.cellAt q3_3
    have z10 := hk10.size
    replace ox1 := ox1.keep (keepE hk10 (by omega))
    replace ox2 := ox2.keep (keepE hk10 (by omega))
    have hB10 := hB7.trans hk10
    have hE10 : Ext w w10 := hB10
    clear hk10
    go_wp2_with fail
    refine (eqLog_v _ _ _ _ _ _ _ (by exact ox3.rd.keep (keepE' (by repeat' (first | with_reducible exact Ext.refl _ | with_reducible assumption | with_reducible refine Ext.set ?_ ?_ _ _ | with_reducible refine Ext.alloc ?_ _ | with_reducible refine Ext.drew ?_ | with_reducible refine Ext.drewN ?_ _ | with_reducible refine Ext.trans ?_ (by with_reducible assumption) | omega | (simp; done) | (simp; omega))) (by first | omega | (simp; done) | (simp; omega)))) (by first | omega | (simp; done) | (simp; omega)) (by exact ox1.rd.keep (keepE' (by repeat' (first | with_reducible exact Ext.refl _ | with_reducible assumption | with_reducible refine Ext.set ?_ ?_ _ _ | with_reducible refine Ext.alloc ?_ _ | with_reducible refine Ext.drew ?_ | with_reducible refine Ext.drewN ?_ _ | with_reducible refine Ext.trans ?_ (by with_reducible assumption) | omega | (simp; done) | (simp; omega))) (by first | omega | (simp; done) | (simp; omega)))) (by first | omega | (simp; done) | (simp; omega))).mono ?_
    rintro e11 w11 ⟨rfl, hb11⟩
    have hk11 : Ext w10 w11 := by repeat' (first | with_reducible exact Ext.refl _ | with_reducible assumption | with_reducible refine Ext.set ?_ ?_ _ _ | with_reducible refine Ext.alloc ?_ _ | with_reducible refine Ext.drew ?_ | with_reducible refine Ext.drewN ?_ _ | with_reducible refine Ext.trans ?_ (by with_reducible assumption) | omega | (simp; done) | (simp; omega))
    replace q0_0 := hk11.cellAt q0_0
    replace q0_1 := hk11.cellAt q0_1
    replace q0_2 := hk11.cellAt q0_2
    replace q0_3 := hk11.cellAt q0_3
    replace q1_0 := hk11.cellAt q1_0
    replace q1_1 := hk11.cellAt q1_1
    replace q1_2 := hk11.cellAt q1_2
    replace q1_3 := hk11.cellAt q1_3
    replace q1_4 := hk11.cellAt q1_4
    replace q2_0 := hk11.cellAt q2_0
    replace q2_1 := hk11.cellAt q2_1
    replace q2_2 := hk11.cellAt q2_2
    replace q2_3 := hk11.cellAt q2_3
    replace q3_0 := hk11.cellAt q3_0
    replace q3_1 := hk11.cellAt q3_1
    replace q3_2 := hk11.cellAt q3_2
    replace q3_3 := hk11.cellAt q3_3
    replace q4_0 := hk11.cellAt q4_0
    replace q4_1 := hk11.cellAt q4_1
    replace q4_2 := hk11.cellAt q4_2
    replace q4_3 := hk11.cellAt q4_3
    have z11 := hk11.size
    replace ox1 := ox1.keep (keepE hk11 (by omega))
    replace ox2 := ox2.keep (keepE hk11 (by omega))
    replace ox3 := ox3.keep (keepE hk11 (by omega))
    have hB11 := hB10.trans hk11
    clear hk11
    have hE11 : Ext w w11 := hB11
    clear hb11
    go_wp2_with fail
    go_region_held3 (fun w' => w'.cell? ⟨w.heap.size, 0, none⟩ = some (.int .i64 l0.base) ∧ w'.cell? ⟨w.heap.size, 1, none⟩ = some (u0) ∧ w'.cell? ⟨w.heap.size, 2, none⟩ = some (s0) ∧ w'.cell? ⟨w.heap.size, 3, none⟩ = some (t0) ∧ w'.cell? ⟨w.heap.size + 1, 0, none⟩ = some (.int .i64 p1) ∧ w'.cell? ⟨w.heap.size + 1, 1, none⟩ = some (.int .i64 q1) ∧ w'.cell? ⟨w.heap.size + 1, 2, none⟩ = some (.int .i64 k1) ∧ w'.cell? ⟨w.heap.size + 1, 3, none⟩ = some (.int .i64 x1) ∧ w'.cell? ⟨w.heap.size + 1, 4, none⟩ = some (.int .i64 y1) ∧ w'.cell? ⟨gg5, 0, none⟩ = some (.int .i64 ((logPut l0 ⟨p1, q1, ⟨k1, x1, y1⟩⟩).1).base) ∧ w'.cell? ⟨gg5, 1, none⟩ = some (.slice vx1A vx1n vx1c) ∧ w'.cell? ⟨gg5, 2, none⟩ = some (.slice vx1B vx1m vx1d) ∧ w'.cell? ⟨gg5, 3, none⟩ = some (.slice vx1C vx1k vx1e) ∧ w'.cell? ⟨w6.heap.size, 0, none⟩ = some (.int .i64 (l0).base) ∧ w'.cell? ⟨w6.heap.size, 1, none⟩ = some (.slice vx2A vx2n vx2c) ∧ w'.cell? ⟨w6.heap.size, 2, none⟩ = some (.slice vx2B vx2m vx2d) ∧ w'.cell? ⟨w6.heap.size, 3, none⟩ = some (.slice vx2C vx2k vx2e) ∧ w'.cell? ⟨gg10, 0, none⟩ = some (.int .i64 ((logPut l0 ⟨p1, q1, ⟨k1, x1, y1⟩⟩).1).base) ∧ w'.cell? ⟨gg10, 1, none⟩ = some (.slice vx3A vx3n vx3c) ∧ w'.cell? ⟨gg10, 2, none⟩ = some (.slice vx3B vx3m vx3d) ∧ w'.cell? ⟨gg10, 3, none⟩ = some (.slice vx3C vx3k vx3e)) (exact ⟨q0_0, q0_1, q0_2, q0_3, q1_0, q1_1, q1_2, q1_3, q1_4, q2_0, q2_1, q2_2, q2_3, q3_0, q3_1, q3_2, q3_3, q4_0, q4_1, q4_2, q4_3⟩)
      (first
        | (go_at_call 15; refine (eqLog_v _ _ _ _ _ _ _ (by exact ox2.rd.keep (keepE' (by first | exact Ext.refl _ | exact (Ext.refl _).drew | exact (Ext.refl _).drewN _) (by first | omega | (simp; done) | (simp; omega)))) (by first | omega | (simp; done) | (simp; omega)) (by exact ox4.rd.keep (keepE' (by first | exact Ext.refl _ | exact (Ext.refl _).drew | exact (Ext.refl _).drewN _) (by first | omega | (simp; done) | (simp; omega)))) (by first | omega | (simp; done) | (simp; omega))).mono ?_; rintro e13 w13 ⟨rfl, hb13⟩; have hk13 : Ext w12 w13 := (by first | exact hb13 | exact ((Ext.refl _).drew).trans hb13 | exact ((Ext.refl _).drewN _).trans hb13); replace q0_0 := hk13.cellAt q0_0; replace q0_1 := hk13.cellAt q0_1; replace q0_2 := hk13.cellAt q0_2; replace q0_3 := hk13.cellAt q0_3; replace q1_0 := hk13.cellAt q1_0; replace q1_1 := hk13.cellAt q1_1; replace q1_2 := hk13.cellAt q1_2; replace q1_3 := hk13.cellAt q1_3; replace q1_4 := hk13.cellAt q1_4; replace q2_0 := hk13.cellAt q2_0; replace q2_1 := hk13.cellAt q2_1; replace q2_2 := hk13.cellAt q2_2; replace q2_3 := hk13.cellAt q2_3; replace q3_0 := hk13.cellAt q3_0; replace q3_1 := hk13.cellAt q3_1; replace q3_2 := hk13.cellAt q3_2; replace q3_3 := hk13.cellAt q3_3; replace q4_0 := hk13.cellAt q4_0; replace q4_1 := hk13.cellAt q4_1; replace q4_2 := hk13.cellAt q4_2; replace q4_3 := hk13.cellAt q4_3; have z13 := hk13.size; replace ox1 := ox1.keep (keepE hk13 (by omega)); replace ox2 := ox2.keep (keepE hk13 (by omega)); replace ox3 := ox3.keep (keepE hk13 (by omega)); replace ox4 := ox4.keep (keepE hk13 (by omega)); have hB13 := hB12.trans hk13; clear hk13; have hE13 : Ext w w13 := hB13; clear hb13; clear ox4)
        | (go_at_call 13; refine (toLog_v _ _ _ _ (by exact r0.keep (keepE' (by first | exact hB11 | exact hB11.drew | exact hB11.drewN _) (Nat.le_refl _))) (by first | omega | (simp; done) | (simp; omega)) (by omega)).mono ?_; rintro e12 w12 ⟨vx4, rfl, ox4, hb12⟩; have hk12 : Ext w11 w12 := (by first | exact hb12 | exact ((Ext.refl _).drew).trans hb12 | exact ((Ext.refl _).drewN _).trans hb12); replace q0_0 := hk12.cellAt q0_0; replace q0_1 := hk12.cellAt q0_1; replace q0_2 := hk12.cellAt q0_2; replace q0_3 := hk12.cellAt q0_3; replace q1_0 := hk12.cellAt q1_0; replace q1_1 := hk12.cellAt q1_1; replace q1_2 := hk12.cellAt q1_2; replace q1_3 := hk12.cellAt q1_3; replace q1_4 := hk12.cellAt q1_4; replace q2_0 := hk12.cellAt q2_0; replace q2_1 := hk12.cellAt q2_1; replace q2_2 := hk12.cellAt q2_2; replace q2_3 := hk12.cellAt q2_3; replace q3_0 := hk12.cellAt q3_0; replace q3_1 := hk12.cellAt q3_1; replace q3_2 := hk12.cellAt q3_2; replace q3_3 := hk12.cellAt q3_3; replace q4_0 := hk12.cellAt q4_0; replace q4_1 := hk12.cellAt q4_1; replace q4_2 := hk12.cellAt q4_2; replace q4_3 := hk12.cellAt q4_3; have z12 := hk12.size; replace ox1 := ox1.keep (keepE hk12 (by omega)); replace ox2 := ox2.keep (keepE hk12 (by omega)); replace ox3 := ox3.keep (keepE hk12 (by omega)); have hB12 := hB11.trans hk12; clear hk12; have hE12 : Ext w w12 := hB12; clear hb12))
    go_wp2_with fail
    refine (markLog_v _ _ _ _ _ _ ox2 (by omega) (by omega) (by omega)).mono ?_
    rintro e14 w14 ⟨rfl, om14, hb14⟩
    have z14 := hb14.size
    replace q0_0 := hb14.cellAt q0_0 (by omega)
    replace q0_1 := hb14.cellAt q0_1 (by omega)
    replace q0_2 := hb14.cellAt q0_2 (by omega)
    replace q0_3 := hb14.cellAt q0_3 (by omega)
    replace q1_0 := hb14.cellAt q1_0 (by omega)
    replace q1_1 := hb14.cellAt q1_1 (by omega)
    replace q1_2 := hb14.cellAt q1_2 (by omega)
    replace q1_3 := hb14.cellAt q1_3 (by omega)
    replace q1_4 := hb14.cellAt q1_4 (by omega)
    replace q2_0 := hb14.cellAt q2_0 (by omega)
    replace q2_1 := hb14.cellAt q2_1 (by omega)
    replace q2_2 := hb14.cellAt q2_2 (by omega)
    replace q2_3 := hb14.cellAt q2_3 (by omega)
    replace q3_0 := hb14.cellAt q3_0 (by omega)
    replace q3_1 := hb14.cellAt q3_1 (by omega)
    replace q3_2 := hb14.cellAt q3_2 (by omega)
    replace q3_3 := hb14.cellAt q3_3 (by omega)
    replace q4_0 := hb14.cellAt q4_0 (by omega)
    replace q4_1 := hb14.cellAt q4_1 (by omega)
    replace q4_2 := hb14.cellAt q4_2 (by omega)
    replace q4_3 := hb14.cellAt q4_3 (by omega)
    replace ox1 := ox1.keep (keepF hb14 (by omega) (by omega))
    replace ox3 := ox3.keep (keepF hb14 (by omega) (by omega))
    have hB14 := hB13.fr hb14 (by omega)
    have hE14 : Ext w w14 := hB14
    clear hb14
    clear ox2
    clear om14
    go_wp2_with fail
    refine (eqLog_v _ _ _ _ _ _ _ (by exact ox3.rd.keep (keepE' (by repeat' (first | with_reducible exact Ext.refl _ | with_reducible assumption | with_reducible refine Ext.set ?_ ?_ _ _ | with_reducible refine Ext.alloc ?_ _ | with_reducible refine Ext.drew ?_ | with_reducible refine Ext.drewN ?_ _ | with_reducible refine Ext.trans ?_ (by with_reducible assumption) | omega | (simp; done) | (simp; omega))) (by first | omega | (simp; done) | (simp; omega)))) (by first | omega | (simp; done) | (simp; omega)) (by exact ox1.rd.keep (keepE' (by repeat' (first | with_reducible exact Ext.refl _ | with_reducible assumption | with_reducible refine Ext.set ?_ ?_ _ _ | with_reducible refine Ext.alloc ?_ _ | with_reducible refine Ext.drew ?_ | with_reducible refine Ext.drewN ?_ _ | with_reducible refine Ext.trans ?_ (by with_reducible assumption) | omega | (simp; done) | (simp; omega))) (by first | omega | (simp; done) | (simp; omega)))) (by first | omega | (simp; done) | (simp; omega))).mono ?_
    rintro e15 w15 ⟨rfl, hb15⟩
    have hk15 : Ext w14 w15 := by repeat' (first | with_reducible exact Ext.refl _ | with_reducible assumption | with_reducible refine Ext.set ?_ ?_ _ _ | with_reducible refine Ext.alloc ?_ _ | with_reducible refine Ext.drew ?_ | with_reducible refine Ext.drewN ?_ _ | with_reducible refine Ext.trans ?_ (by with_reducible assumption) | omega | (simp; done) | (simp; omega))
    replace q0_0 := hk15.cellAt q0_0
    replace q0_1 := hk15.cellAt q0_1
    replace q0_2 := hk15.cellAt q0_2
    replace q0_3 := hk15.cellAt q0_3
    replace q1_0 := hk15.cellAt q1_0
    replace q1_1 := hk15.cellAt q1_1
    replace q1_2 := hk15.cellAt q1_2
    replace q1_3 := hk15.cellAt q1_3
    replace q1_4 := hk15.cellAt q1_4
    replace q2_0 := hk15.cellAt q2_0
    replace q2_1 := hk15.cellAt q2_1
    replace q2_2 := hk15.cellAt q2_2
    replace q2_3 := hk15.cellAt q2_3
    replace q3_0 := hk15.cellAt q3_0
    replace q3_1 := hk15.cellAt q3_1
    replace q3_2 := hk15.cellAt q3_2
    replace q3_3 := hk15.cellAt q3_3
    replace q4_0 := hk15.cellAt q4_0
    replace q4_1 := hk15.cellAt q4_1
    replace q4_2 := hk15.cellAt q4_2
    replace q4_3 := hk15.cellAt q4_3
    have z15 := hk15.size
    replace ox1 := ox1.keep (keepE hk15 (by omega))
    replace ox3 := ox3.keep (keepE hk15 (by omega))
    have hB15 := hB14.trans hk15
    clear hk15
    have hE15 : Ext w w15 := hB15
    clear hb15
    go_wp2_with fail
    refine (markLog_v _ _ _ _ _ _ ox3 (by omega) (by omega) (by omega)).mono ?_
    rintro e16 w16 ⟨rfl, om16, hb16⟩
    have z16 := hb16.size
    replace q0_0 := hb16.cellAt q0_0 (by omega)
    replace q0_1 := hb16.cellAt q0_1 (by omega)
    replace q0_2 := hb16.cellAt q0_2 (by omega)
    replace q0_3 := hb16.cellAt q0_3 (by omega)
    replace q1_0 := hb16.cellAt q1_0 (by omega)
    replace q1_1 := hb16.cellAt q1_1 (by omega)
    replace q1_2 := hb16.cellAt q1_2 (by omega)
    replace q1_3 := hb16.cellAt q1_3 (by omega)
    replace q1_4 := hb16.cellAt q1_4 (by omega)
    replace q2_0 := hb16.cellAt q2_0 (by omega)
    replace q2_1 := hb16.cellAt q2_1 (by omega)
    replace q2_2 := hb16.cellAt q2_2 (by omega)
    replace q2_3 := hb16.cellAt q2_3 (by omega)
    replace q3_0 := hb16.cellAt q3_0 (by omega)
    replace q3_1 := hb16.cellAt q3_1 (by omega)
    replace q3_2 := hb16.cellAt q3_2 (by omega)
    replace q3_3 := hb16.cellAt q3_3 (by omega)
    replace q4_0 := hb16.cellAt q4_0 (by omega)
    replace q4_1 := hb16.cellAt q4_1 (by omega)
    replace q4_2 := hb16.cellAt q4_2 (by omega)
    replace q4_3 := hb16.cellAt q4_3 (by omega)
    replace ox1 := ox1.keep (keepF hb16 (by omega) (by omega))
    have hB16 := hB15.fr hb16 (by omega)
    have hE16 : Ext w w16 := hB16
    clear hb16
    clear ox3
    go_wp2_with fail
    refine (heldLog_v _ _ _ _ _ om16.rd (by omega) (by omega) (by omega)).mono ?_
    rintro e17 w17 ⟨rfl, hb17⟩
    have hk17 : Ext w16 w17 := by repeat' (first | with_reducible exact Ext.refl _ | with_reducible assumption | with_reducible refine Ext.set ?_ ?_ _ _ | with_reducible refine Ext.alloc ?_ _ | with_reducible refine Ext.drew ?_ | with_reducible refine Ext.drewN ?_ _ | with_reducible refine Ext.trans ?_ (by with_reducible assumption) | omega | (simp; done) | (simp; omega))
    replace q0_0 := hk17.cellAt q0_0
    replace q0_1 := hk17.cellAt q0_1
    replace q0_2 := hk17.cellAt q0_2
    replace q0_3 := hk17.cellAt q0_3
    replace q1_0 := hk17.cellAt q1_0
    replace q1_1 := hk17.cellAt q1_1
    replace q1_2 := hk17.cellAt q1_2
    replace q1_3 := hk17.cellAt q1_3
    replace q1_4 := hk17.cellAt q1_4
    replace q2_0 := hk17.cellAt q2_0
    replace q2_1 := hk17.cellAt q2_1
    replace q2_2 := hk17.cellAt q2_2
    replace q2_3 := hk17.cellAt q2_3
    replace q3_0 := hk17.cellAt q3_0
    replace q3_1 := hk17.cellAt q3_1
    replace q3_2 := hk17.cellAt q3_2
    replace q3_3 := hk17.cellAt q3_3
    replace q4_0 := hk17.cellAt q4_0
    replace q4_1 := hk17.cellAt q4_1
    replace q4_2 := hk17.cellAt q4_2
    replace q4_3 := hk17.cellAt q4_3
    have z17 := hk17.size
    replace ox1 := ox1.keep (keepE hk17 (by omega))
    replace om16 := om16.keep (keepE hk17 (by omega))
    have hB17 := hB16.trans hk17
    clear hk17
    have hE17 : Ext w w17 := hB17
    clear hb17
    go_upto_region 24 with (fail)
    have zb19 : w.heap.size < w17.heap.size := World.block_lt_of_cell? _ _ q0_0
    have zb20 : w.heap.size + 1 < w17.heap.size := World.block_lt_of_cell? _ _ q1_0
    have zb21 : gg5 < w17.heap.size := World.block_lt_of_cell? _ _ q2_0
    have zb22 : w6.heap.size < w17.heap.size := World.block_lt_of_cell? _ _ q3_0
    have zb23 : gg10 < w17.heap.size := World.block_lt_of_cell? _ _ q4_0
    go_cut [14, 15] (fun s14 s15 wx => ∃ (g_ : Nat) (A_ : Option Addr) (n_ c_ : Nat) (B_ : Option Addr) (m_ d_ : Nat) (C_ : Option Addr) (k_ e_ : Nat), s14 = .pointer (some ⟨g_, 0, none⟩) ∧ s15 = .bool ((logPut l0 ⟨p1, q1, ⟨k1, x1, y1⟩⟩).2) ∧ Ext w17 wx ∧ w17.heap.size ≤ g_ ∧ g_ < wx.heap.size ∧ wx.cell? ⟨g_, 0, none⟩ = some (.int .i64 ((logPut l0 ⟨p1, q1, ⟨k1, x1, y1⟩⟩).1).base) ∧ wx.cell? ⟨g_, 1, none⟩ = some (.slice A_ n_ c_) ∧ wx.cell? ⟨g_, 2, none⟩ = some (.slice B_ m_ d_) ∧ wx.cell? ⟨g_, 3, none⟩ = some (.slice C_ k_ e_) ∧ ∃ lo0 hi0 : Nat, O_Log wx lo0 hi0 (.agg #[.int .i64 ((logPut l0 ⟨p1, q1, ⟨k1, x1, y1⟩⟩).1).base, .slice A_ n_ c_, .slice B_ m_ d_, .slice C_ k_ e_]) ((logPut l0 ⟨p1, q1, ⟨k1, x1, y1⟩⟩).1) ∧ w17.heap.size ≤ lo0 ∧ hi0 ≤ wx.heap.size ∧ (g_ < lo0 ∨ hi0 ≤ g_))
    case first =>
      have hS : Ext w17 w17 := Ext.refl _
      go_region_held3 (fun w' => w'.cell? ⟨w.heap.size, 0, none⟩ = some (.int .i64 l0.base) ∧ w'.cell? ⟨w.heap.size, 1, none⟩ = some (u0) ∧ w'.cell? ⟨w.heap.size, 2, none⟩ = some (s0) ∧ w'.cell? ⟨w.heap.size, 3, none⟩ = some (t0) ∧ w'.cell? ⟨w.heap.size + 1, 0, none⟩ = some (.int .i64 p1) ∧ w'.cell? ⟨w.heap.size + 1, 1, none⟩ = some (.int .i64 q1) ∧ w'.cell? ⟨w.heap.size + 1, 2, none⟩ = some (.int .i64 k1) ∧ w'.cell? ⟨w.heap.size + 1, 3, none⟩ = some (.int .i64 x1) ∧ w'.cell? ⟨w.heap.size + 1, 4, none⟩ = some (.int .i64 y1) ∧ w'.cell? ⟨gg5, 0, none⟩ = some (.int .i64 ((logPut l0 ⟨p1, q1, ⟨k1, x1, y1⟩⟩).1).base) ∧ w'.cell? ⟨gg5, 1, none⟩ = some (.slice vx1A vx1n vx1c) ∧ w'.cell? ⟨gg5, 2, none⟩ = some (.slice vx1B vx1m vx1d) ∧ w'.cell? ⟨gg5, 3, none⟩ = some (.slice vx1C vx1k vx1e) ∧ w'.cell? ⟨w6.heap.size, 0, none⟩ = some (.int .i64 (l0).base) ∧ w'.cell? ⟨w6.heap.size, 1, none⟩ = some (.slice vx2A vx2n vx2c) ∧ w'.cell? ⟨w6.heap.size, 2, none⟩ = some (.slice vx2B vx2m vx2d) ∧ w'.cell? ⟨w6.heap.size, 3, none⟩ = some (.slice vx2C vx2k vx2e) ∧ w'.cell? ⟨gg10, 0, none⟩ = some (.int .i64 ((logPut l0 ⟨p1, q1, ⟨k1, x1, y1⟩⟩).1).base) ∧ w'.cell? ⟨gg10, 1, none⟩ = some (.slice vx3A vx3n vx3c) ∧ w'.cell? ⟨gg10, 2, none⟩ = some (.slice vx3B vx3m vx3d) ∧ w'.cell? ⟨gg10, 3, none⟩ = some (.slice vx3C vx3k vx3e)) (first | exact ⟨by rw [cell_set_ne _ _ _ _ _ _ (by omega), cell_set_ne _ _ _ _ _ _ (by omega), cell_set_ne _ _ _ _ _ _ (by omega), cell_set_ne _ _ _ _ _ _ (by omega)]; exact q0_0, by rw [cell_set_ne _ _ _ _ _ _ (by omega), cell_set_ne _ _ _ _ _ _ (by omega), cell_set_ne _ _ _ _ _ _ (by omega), cell_set_ne _ _ _ _ _ _ (by omega)]; exact q0_1, by rw [cell_set_ne _ _ _ _ _ _ (by omega), cell_set_ne _ _ _ _ _ _ (by omega), cell_set_ne _ _ _ _ _ _ (by omega), cell_set_ne _ _ _ _ _ _ (by omega)]; exact q0_2, by rw [cell_set_ne _ _ _ _ _ _ (by omega), cell_set_ne _ _ _ _ _ _ (by omega), cell_set_ne _ _ _ _ _ _ (by omega), cell_set_ne _ _ _ _ _ _ (by omega)]; exact q0_3, by rw [cell_set_ne _ _ _ _ _ _ (by omega), cell_set_ne _ _ _ _ _ _ (by omega), cell_set_ne _ _ _ _ _ _ (by omega), cell_set_ne _ _ _ _ _ _ (by omega)]; exact q1_0, by rw [cell_set_ne _ _ _ _ _ _ (by omega), cell_set_ne _ _ _ _ _ _ (by omega), cell_set_ne _ _ _ _ _ _ (by omega), cell_set_ne _ _ _ _ _ _ (by omega)]; exact q1_1, by rw [cell_set_ne _ _ _ _ _ _ (by omega), cell_set_ne _ _ _ _ _ _ (by omega), cell_set_ne _ _ _ _ _ _ (by omega), cell_set_ne _ _ _ _ _ _ (by omega)]; exact q1_2, by rw [cell_set_ne _ _ _ _ _ _ (by omega), cell_set_ne _ _ _ _ _ _ (by omega), cell_set_ne _ _ _ _ _ _ (by omega), cell_set_ne _ _ _ _ _ _ (by omega)]; exact q1_3, by rw [cell_set_ne _ _ _ _ _ _ (by omega), cell_set_ne _ _ _ _ _ _ (by omega), cell_set_ne _ _ _ _ _ _ (by omega), cell_set_ne _ _ _ _ _ _ (by omega)]; exact q1_4, by rw [cell_set_ne _ _ _ _ _ _ (by omega), cell_set_ne _ _ _ _ _ _ (by omega), cell_set_ne _ _ _ _ _ _ (by omega), cell_set_ne _ _ _ _ _ _ (by omega)]; exact q2_0, by rw [cell_set_ne _ _ _ _ _ _ (by omega), cell_set_ne _ _ _ _ _ _ (by omega), cell_set_ne _ _ _ _ _ _ (by omega), cell_set_ne _ _ _ _ _ _ (by omega)]; exact q2_1, by rw [cell_set_ne _ _ _ _ _ _ (by omega), cell_set_ne _ _ _ _ _ _ (by omega), cell_set_ne _ _ _ _ _ _ (by omega), cell_set_ne _ _ _ _ _ _ (by omega)]; exact q2_2, by rw [cell_set_ne _ _ _ _ _ _ (by omega), cell_set_ne _ _ _ _ _ _ (by omega), cell_set_ne _ _ _ _ _ _ (by omega), cell_set_ne _ _ _ _ _ _ (by omega)]; exact q2_3, by rw [cell_set_ne _ _ _ _ _ _ (by omega), cell_set_ne _ _ _ _ _ _ (by omega), cell_set_ne _ _ _ _ _ _ (by omega), cell_set_ne _ _ _ _ _ _ (by omega)]; exact q3_0, by rw [cell_set_ne _ _ _ _ _ _ (by omega), cell_set_ne _ _ _ _ _ _ (by omega), cell_set_ne _ _ _ _ _ _ (by omega), cell_set_ne _ _ _ _ _ _ (by omega)]; exact q3_1, by rw [cell_set_ne _ _ _ _ _ _ (by omega), cell_set_ne _ _ _ _ _ _ (by omega), cell_set_ne _ _ _ _ _ _ (by omega), cell_set_ne _ _ _ _ _ _ (by omega)]; exact q3_2, by rw [cell_set_ne _ _ _ _ _ _ (by omega), cell_set_ne _ _ _ _ _ _ (by omega), cell_set_ne _ _ _ _ _ _ (by omega), cell_set_ne _ _ _ _ _ _ (by omega)]; exact q3_3, by rw [cell_set_ne _ _ _ _ _ _ (by omega), cell_set_ne _ _ _ _ _ _ (by omega), cell_set_ne _ _ _ _ _ _ (by omega), cell_set_ne _ _ _ _ _ _ (by omega)]; exact q4_0, by rw [cell_set_ne _ _ _ _ _ _ (by omega), cell_set_ne _ _ _ _ _ _ (by omega), cell_set_ne _ _ _ _ _ _ (by omega), cell_set_ne _ _ _ _ _ _ (by omega)]; exact q4_1, by rw [cell_set_ne _ _ _ _ _ _ (by omega), cell_set_ne _ _ _ _ _ _ (by omega), cell_set_ne _ _ _ _ _ _ (by omega), cell_set_ne _ _ _ _ _ _ (by omega)]; exact q4_2, by rw [cell_set_ne _ _ _ _ _ _ (by omega), cell_set_ne _ _ _ _ _ _ (by omega), cell_set_ne _ _ _ _ _ _ (by omega), cell_set_ne _ _ _ _ _ _ (by omega)]; exact q4_3⟩ | exact ⟨q0_0, q0_1, q0_2, q0_3, q1_0, q1_1, q1_2, q1_3, q1_4, q2_0, q2_1, q2_2, q2_3, q3_0, q3_1, q3_2, q3_3, q4_0, q4_1, q4_2, q4_3⟩ | exact ⟨Ext.cellAt ((Ext.refl _).alloc _) q0_0, Ext.cellAt ((Ext.refl _).alloc _) q0_1, Ext.cellAt ((Ext.refl _).alloc _) q0_2, Ext.cellAt ((Ext.refl _).alloc _) q0_3, Ext.cellAt ((Ext.refl _).alloc _) q1_0, Ext.cellAt ((Ext.refl _).alloc _) q1_1, Ext.cellAt ((Ext.refl _).alloc _) q1_2, Ext.cellAt ((Ext.refl _).alloc _) q1_3, Ext.cellAt ((Ext.refl _).alloc _) q1_4, Ext.cellAt ((Ext.refl _).alloc _) q2_0, Ext.cellAt ((Ext.refl _).alloc _) q2_1, Ext.cellAt ((Ext.refl _).alloc _) q2_2, Ext.cellAt ((Ext.refl _).alloc _) q2_3, Ext.cellAt ((Ext.refl _).alloc _) q3_0, Ext.cellAt ((Ext.refl _).alloc _) q3_1, Ext.cellAt ((Ext.refl _).alloc _) q3_2, Ext.cellAt ((Ext.refl _).alloc _) q3_3, Ext.cellAt ((Ext.refl _).alloc _) q4_0, Ext.cellAt ((Ext.refl _).alloc _) q4_1, Ext.cellAt ((Ext.refl _).alloc _) q4_2, Ext.cellAt ((Ext.refl _).alloc _) q4_3⟩)
        (first
          | (go_at_call 33; refine (logPut_i _ _ _ _ _ _ _ _ _ (by exact ox5.rd.keep (keepE' (by first | exact Ext.refl _ | exact (Ext.refl _).drew | exact (Ext.refl _).drewN _ | exact (Ext.refl _).alloc _ | exact ((Ext.refl _).alloc _).drew) (by first | omega | (simp; done) | (simp; omega)))) (by first | omega | (simp; done) | (simp; omega))).mono ?_; rintro e20 w20 ⟨vx6, rfl, ox6, hb20⟩; have hk20 : Ext w19 w20 := (by first | exact hb20 | exact ((Ext.refl _).drew).trans hb20 | exact ((Ext.refl _).drewN _).trans hb20 | exact ((Ext.refl _).alloc _).trans hb20 | exact (((Ext.refl _).alloc _).drew).trans hb20); (first | have bx0 := Bx.ext (Bx.new w19 #[.int .i64 0, .slice none 0 0, .slice none 0 0, .slice none 0 0] 37 0 (.int .i64 0) rfl rfl) hb20 | have bx0 := Bx.ext (Bx.drew (Bx.new w19 #[.int .i64 0, .slice none 0 0, .slice none 0 0, .slice none 0 0] 37 0 (.int .i64 0) rfl rfl)) hb20 | replace bx0 := Bx.ext bx0 hb20 | replace bx0 := Bx.ext (Bx.drew bx0) hb20 | skip); (first | have bx1 := Bx.ext (Bx.new w19 #[.int .i64 0, .slice none 0 0, .slice none 0 0, .slice none 0 0] 37 1 (.slice none 0 0) rfl rfl) hb20 | have bx1 := Bx.ext (Bx.drew (Bx.new w19 #[.int .i64 0, .slice none 0 0, .slice none 0 0, .slice none 0 0] 37 1 (.slice none 0 0) rfl rfl)) hb20 | replace bx1 := Bx.ext bx1 hb20 | replace bx1 := Bx.ext (Bx.drew bx1) hb20 | skip); (first | have bx2 := Bx.ext (Bx.new w19 #[.int .i64 0, .slice none 0 0, .slice none 0 0, .slice none 0 0] 37 2 (.slice none 0 0) rfl rfl) hb20 | have bx2 := Bx.ext (Bx.drew (Bx.new w19 #[.int .i64 0, .slice none 0 0, .slice none 0 0, .slice none 0 0] 37 2 (.slice none 0 0) rfl rfl)) hb20 | replace bx2 := Bx.ext bx2 hb20 | replace bx2 := Bx.ext (Bx.drew bx2) hb20 | skip); (first | have bx3 := Bx.ext (Bx.new w19 #[.int .i64 0, .slice none 0 0, .slice none 0 0, .slice none 0 0] 37 3 (.slice none 0 0) rfl rfl) hb20 | have bx3 := Bx.ext (Bx.drew (Bx.new w19 #[.int .i64 0, .slice none 0 0, .slice none 0 0, .slice none 0 0] 37 3 (.slice none 0 0) rfl rfl)) hb20 | replace bx3 := Bx.ext bx3 hb20 | replace bx3 := Bx.ext (Bx.drew bx3) hb20 | skip); (first | (have bxp0 := bx0.1; have bxf0 := bx0.2) | skip); (first | (have bxp1 := bx1.1; have bxf1 := bx1.2) | skip); (first | (have bxp2 := bx2.1; have bxf2 := bx2.2) | skip); (first | (have bxp3 := bx3.1; have bxf3 := bx3.2) | skip); (first | have bxlt20 := Bx.lt bx0 | skip); replace hS := hS.trans hk20; replace q0_0 := hk20.cellAt q0_0; replace q0_1 := hk20.cellAt q0_1; replace q0_2 := hk20.cellAt q0_2; replace q0_3 := hk20.cellAt q0_3; replace q1_0 := hk20.cellAt q1_0; replace q1_1 := hk20.cellAt q1_1; replace q1_2 := hk20.cellAt q1_2; replace q1_3 := hk20.cellAt q1_3; replace q1_4 := hk20.cellAt q1_4; replace q2_0 := hk20.cellAt q2_0; replace q2_1 := hk20.cellAt q2_1; replace q2_2 := hk20.cellAt q2_2; replace q2_3 := hk20.cellAt q2_3; replace q3_0 := hk20.cellAt q3_0; replace q3_1 := hk20.cellAt q3_1; replace q3_2 := hk20.cellAt q3_2; replace q3_3 := hk20.cellAt q3_3; replace q4_0 := hk20.cellAt q4_0; replace q4_1 := hk20.cellAt q4_1; replace q4_2 := hk20.cellAt q4_2; replace q4_3 := hk20.cellAt q4_3; have z20 := hk20.size; replace ox1 := ox1.keep (keepE hk20 (by omega)); replace om16 := om16.keep (keepE hk20 (by omega)); replace ox5 := ox5.keep (keepE hk20 (by omega)); have hB20 := hB19.trans hk20; clear hk20; have hE20 : Ext w w20 := hB20; clear hb20; obtain ⟨vx6u, vx6s, vx6t, hvx6, ⟨vx6A, vx6n, vx6c, hvx6a, -⟩, ⟨vx6B, vx6m, vx6d, hvx6b, -⟩, ⟨vx6C, vx6k, vx6e, hvx6t, -⟩⟩ := id ox6; subst hvx6a hvx6b hvx6t hvx6; have zb24 : w.heap.size < w20.heap.size := World.block_lt_of_cell? _ _ q0_0; have zb25 : w.heap.size + 1 < w20.heap.size := World.block_lt_of_cell? _ _ q1_0; have zb26 : gg5 < w20.heap.size := World.block_lt_of_cell? _ _ q2_0; have zb27 : w6.heap.size < w20.heap.size := World.block_lt_of_cell? _ _ q3_0; have zb28 : gg10 < w20.heap.size := World.block_lt_of_cell? _ _ q4_0)
          | (go_at_call 36; refine (toEntry_any _ _ _ _ _ _).mono ?_; rintro e19 w19 ⟨rfl, hb19⟩; have hk19 : Ext w18 w19 := (by first | exact hb19 | exact ((Ext.refl _).drew).trans hb19 | exact ((Ext.refl _).drewN _).trans hb19 | exact ((Ext.refl _).alloc _).trans hb19 | exact (((Ext.refl _).alloc _).drew).trans hb19); (first | have bx0 := Bx.ext (Bx.new w18 #[.int .i64 0, .slice none 0 0, .slice none 0 0, .slice none 0 0] 37 0 (.int .i64 0) rfl rfl) hb19 | have bx0 := Bx.ext (Bx.drew (Bx.new w18 #[.int .i64 0, .slice none 0 0, .slice none 0 0, .slice none 0 0] 37 0 (.int .i64 0) rfl rfl)) hb19 | replace bx0 := Bx.ext bx0 hb19 | replace bx0 := Bx.ext (Bx.drew bx0) hb19 | skip); (first | have bx1 := Bx.ext (Bx.new w18 #[.int .i64 0, .slice none 0 0, .slice none 0 0, .slice none 0 0] 37 1 (.slice none 0 0) rfl rfl) hb19 | have bx1 := Bx.ext (Bx.drew (Bx.new w18 #[.int .i64 0, .slice none 0 0, .slice none 0 0, .slice none 0 0] 37 1 (.slice none 0 0) rfl rfl)) hb19 | replace bx1 := Bx.ext bx1 hb19 | replace bx1 := Bx.ext (Bx.drew bx1) hb19 | skip); (first | have bx2 := Bx.ext (Bx.new w18 #[.int .i64 0, .slice none 0 0, .slice none 0 0, .slice none 0 0] 37 2 (.slice none 0 0) rfl rfl) hb19 | have bx2 := Bx.ext (Bx.drew (Bx.new w18 #[.int .i64 0, .slice none 0 0, .slice none 0 0, .slice none 0 0] 37 2 (.slice none 0 0) rfl rfl)) hb19 | replace bx2 := Bx.ext bx2 hb19 | replace bx2 := Bx.ext (Bx.drew bx2) hb19 | skip); (first | have bx3 := Bx.ext (Bx.new w18 #[.int .i64 0, .slice none 0 0, .slice none 0 0, .slice none 0 0] 37 3 (.slice none 0 0) rfl rfl) hb19 | have bx3 := Bx.ext (Bx.drew (Bx.new w18 #[.int .i64 0, .slice none 0 0, .slice none 0 0, .slice none 0 0] 37 3 (.slice none 0 0) rfl rfl)) hb19 | replace bx3 := Bx.ext bx3 hb19 | replace bx3 := Bx.ext (Bx.drew bx3) hb19 | skip); (first | (have bxp0 := bx0.1; have bxf0 := bx0.2) | skip); (first | (have bxp1 := bx1.1; have bxf1 := bx1.2) | skip); (first | (have bxp2 := bx2.1; have bxf2 := bx2.2) | skip); (first | (have bxp3 := bx3.1; have bxf3 := bx3.2) | skip); (first | have bxlt19 := Bx.lt bx0 | skip); replace hS := hS.trans hk19; replace q0_0 := hk19.cellAt q0_0; replace q0_1 := hk19.cellAt q0_1; replace q0_2 := hk19.cellAt q0_2; replace q0_3 := hk19.cellAt q0_3; replace q1_0 := hk19.cellAt q1_0; replace q1_1 := hk19.cellAt q1_1; replace q1_2 := hk19.cellAt q1_2; replace q1_3 := hk19.cellAt q1_3; replace q1_4 := hk19.cellAt q1_4; replace q2_0 := hk19.cellAt q2_0; replace q2_1 := hk19.cellAt q2_1; replace q2_2 := hk19.cellAt q2_2; replace q2_3 := hk19.cellAt q2_3; replace q3_0 := hk19.cellAt q3_0; replace q3_1 := hk19.cellAt q3_1; replace q3_2 := hk19.cellAt q3_2; replace q3_3 := hk19.cellAt q3_3; replace q4_0 := hk19.cellAt q4_0; replace q4_1 := hk19.cellAt q4_1; replace q4_2 := hk19.cellAt q4_2; replace q4_3 := hk19.cellAt q4_3; have z19 := hk19.size; replace ox1 := ox1.keep (keepE hk19 (by omega)); replace om16 := om16.keep (keepE hk19 (by omega)); replace ox5 := ox5.keep (keepE hk19 (by omega)); have hB19 := hB18.trans hk19; clear hk19; have hE19 : Ext w w19 := hB19; clear hb19)
          | (go_at_call 13; refine (toLog_v _ _ _ _ (by exact r0.keep (keepE' (by first | exact hB17 | exact hB17.drew | exact hB17.drewN _ | exact hB17.alloc _ | exact (hB17.alloc _).drew) (Nat.le_refl _))) (by first | omega | (simp; done) | (simp; omega)) (by omega)).mono ?_; rintro e18 w18 ⟨vx5, rfl, ox5, hb18⟩; have hk18 : Ext w17 w18 := (by first | exact hb18 | exact ((Ext.refl _).drew).trans hb18 | exact ((Ext.refl _).drewN _).trans hb18 | exact ((Ext.refl _).alloc _).trans hb18 | exact (((Ext.refl _).alloc _).drew).trans hb18); (first | have bx0 := Bx.ext (Bx.new w17 #[.int .i64 0, .slice none 0 0, .slice none 0 0, .slice none 0 0] 37 0 (.int .i64 0) rfl rfl) hb18 | have bx0 := Bx.ext (Bx.drew (Bx.new w17 #[.int .i64 0, .slice none 0 0, .slice none 0 0, .slice none 0 0] 37 0 (.int .i64 0) rfl rfl)) hb18 | replace bx0 := Bx.ext bx0 hb18 | replace bx0 := Bx.ext (Bx.drew bx0) hb18 | skip); (first | have bx1 := Bx.ext (Bx.new w17 #[.int .i64 0, .slice none 0 0, .slice none 0 0, .slice none 0 0] 37 1 (.slice none 0 0) rfl rfl) hb18 | have bx1 := Bx.ext (Bx.drew (Bx.new w17 #[.int .i64 0, .slice none 0 0, .slice none 0 0, .slice none 0 0] 37 1 (.slice none 0 0) rfl rfl)) hb18 | replace bx1 := Bx.ext bx1 hb18 | replace bx1 := Bx.ext (Bx.drew bx1) hb18 | skip); (first | have bx2 := Bx.ext (Bx.new w17 #[.int .i64 0, .slice none 0 0, .slice none 0 0, .slice none 0 0] 37 2 (.slice none 0 0) rfl rfl) hb18 | have bx2 := Bx.ext (Bx.drew (Bx.new w17 #[.int .i64 0, .slice none 0 0, .slice none 0 0, .slice none 0 0] 37 2 (.slice none 0 0) rfl rfl)) hb18 | replace bx2 := Bx.ext bx2 hb18 | replace bx2 := Bx.ext (Bx.drew bx2) hb18 | skip); (first | have bx3 := Bx.ext (Bx.new w17 #[.int .i64 0, .slice none 0 0, .slice none 0 0, .slice none 0 0] 37 3 (.slice none 0 0) rfl rfl) hb18 | have bx3 := Bx.ext (Bx.drew (Bx.new w17 #[.int .i64 0, .slice none 0 0, .slice none 0 0, .slice none 0 0] 37 3 (.slice none 0 0) rfl rfl)) hb18 | replace bx3 := Bx.ext bx3 hb18 | replace bx3 := Bx.ext (Bx.drew bx3) hb18 | skip); (first | (have bxp0 := bx0.1; have bxf0 := bx0.2) | skip); (first | (have bxp1 := bx1.1; have bxf1 := bx1.2) | skip); (first | (have bxp2 := bx2.1; have bxf2 := bx2.2) | skip); (first | (have bxp3 := bx3.1; have bxf3 := bx3.2) | skip); (first | have bxlt18 := Bx.lt bx0 | skip); replace hS := hS.trans hk18; replace q0_0 := hk18.cellAt q0_0; replace q0_1 := hk18.cellAt q0_1; replace q0_2 := hk18.cellAt q0_2; replace q0_3 := hk18.cellAt q0_3; replace q1_0 := hk18.cellAt q1_0; replace q1_1 := hk18.cellAt q1_1; replace q1_2 := hk18.cellAt q1_2; replace q1_3 := hk18.cellAt q1_3; replace q1_4 := hk18.cellAt q1_4; replace q2_0 := hk18.cellAt q2_0; replace q2_1 := hk18.cellAt q2_1; replace q2_2 := hk18.cellAt q2_2; replace q2_3 := hk18.cellAt q2_3; replace q3_0 := hk18.cellAt q3_0; replace q3_1 := hk18.cellAt q3_1; replace q3_2 := hk18.cellAt q3_2; replace q3_3 := hk18.cellAt q3_3; replace q4_0 := hk18.cellAt q4_0; replace q4_1 := hk18.cellAt q4_1; replace q4_2 := hk18.cellAt q4_2; replace q4_3 := hk18.cellAt q4_3; have z18 := hk18.size; replace ox1 := ox1.keep (keepE hk18 (by omega)); replace om16 := om16.keep (keepE hk18 (by omega)); have hB18 := hB17.trans hk18; clear hk18; have hE18 : Ext w w18 := hB18; clear hb18; obtain ⟨vx5u, vx5s, vx5t, hvx5, ⟨vx5A, vx5n, vx5c, hvx5a, -⟩, ⟨vx5B, vx5m, vx5d, hvx5b, -⟩, ⟨vx5C, vx5k, vx5e, hvx5t, -⟩⟩ := id ox5; subst hvx5a hvx5b hvx5t hvx5))
      all_goals (go_wp2_with fail; go_meet; exact ⟨_, vx6A, vx6n, vx6c, vx6B, vx6m, vx6d, vx6C, vx6k, vx6e, by first | rfl | (simp; done), by first | rfl | (simp; done), by repeat' (first | with_reducible exact Ext.refl _ | with_reducible assumption | with_reducible refine Ext.set ?_ ?_ _ _ | with_reducible refine Ext.alloc ?_ _ | with_reducible refine Ext.drew ?_ | with_reducible refine Ext.drewN ?_ _ | with_reducible refine Ext.trans ?_ (by with_reducible assumption) | omega | (simp; done) | (simp; omega)), by first | omega | (simp; omega), by first | omega | (simp; done) | (simp; omega), by first | exact ((Bx.off (Bx.off (Bx.off (Bx.same bx0 _) (by omega) _) (by omega) _) (by omega) _)).1 | exact new_box _ _ #[.int .i64 ((logPut l0 ⟨p1, q1, ⟨k1, x1, y1⟩⟩).1).base, .slice vx6A vx6n vx6c, .slice vx6B vx6m vx6d, .slice vx6C vx6k vx6e] _ 0 _ (by simp) rfl, by first | exact ((Bx.off (Bx.off (Bx.same (Bx.off bx1 (by omega) _) _) (by omega) _) (by omega) _)).1 | exact new_box _ _ #[.int .i64 ((logPut l0 ⟨p1, q1, ⟨k1, x1, y1⟩⟩).1).base, .slice vx6A vx6n vx6c, .slice vx6B vx6m vx6d, .slice vx6C vx6k vx6e] _ 1 _ (by simp) rfl, by first | exact ((Bx.off (Bx.same (Bx.off (Bx.off bx2 (by omega) _) (by omega) _) _) (by omega) _)).1 | exact new_box _ _ #[.int .i64 ((logPut l0 ⟨p1, q1, ⟨k1, x1, y1⟩⟩).1).base, .slice vx6A vx6n vx6c, .slice vx6B vx6m vx6d, .slice vx6C vx6k vx6e] _ 2 _ (by simp) rfl, by first | exact ((Bx.same (Bx.off (Bx.off (Bx.off bx3 (by omega) _) (by omega) _) (by omega) _) _)).1 | exact new_box _ _ #[.int .i64 ((logPut l0 ⟨p1, q1, ⟨k1, x1, y1⟩⟩).1).base, .slice vx6A vx6n vx6c, .slice vx6B vx6m vx6d, .slice vx6C vx6k vx6e] _ 3 _ (by simp) rfl, _, _, by exact ox6.keep (show Kp _ _ _ _ by repeat' (first | with_reducible exact Kp.refl _ _ _ | with_reducible assumption | with_reducible refine Kp.set ?_ ?_ _ _ | with_reducible refine Kp.alloc ?_ ?_ _ | with_reducible refine Kp.drew ?_ | with_reducible refine Kp.drewN ?_ _ | with_reducible refine Kp.ext ?_ ?_ (by with_reducible assumption) | with_reducible refine Kp.fr ?_ ?_ ?_ (by with_reducible assumption) | omega | (simp; done) | (simp; omega))), by first | omega | (simp; omega), by first | omega | (simp; done) | (simp; omega), by first | omega | (simp; done) | (simp; omega)⟩)
    obtain ⟨gg21, vx6A, vx6n, vx6c, vx6B, vx6m, vx6d, vx6C, vx6k, vx6e, rfl, rfl, hk21, zg21, zh21, q5_0, q5_1, q5_2, q5_3, lo21_0, hi21_0, ox6, zl21_0, zm21_0, zn21_0⟩ := hcut
    rename World => w21
    replace q0_0 := hk21.cellAt q0_0
    replace q0_1 := hk21.cellAt q0_1
    replace q0_2 := hk21.cellAt q0_2
    replace q0_3 := hk21.cellAt q0_3
    replace q1_0 := hk21.cellAt q1_0
    replace q1_1 := hk21.cellAt q1_1
    replace q1_2 := hk21.cellAt q1_2
    replace q1_3 := hk21.cellAt q1_3
    replace q1_4 := hk21.cellAt q1_4
    replace q2_0 := hk21.cellAt q2_0
    replace q2_1 := hk21.cellAt q2_1
    replace q2_2 := hk21.cellAt q2_2
    replace q2_3 := hk21.cellAt q2_3
    replace q3_0 := hk21.cellAt q3_0
    replace q3_1 := hk21.cellAt q3_1
    replace q3_2 := hk21.cellAt q3_2
    replace q3_3 := hk21.cellAt q3_3
    replace q4_0 := hk21.cellAt q4_0
    replace q4_1 := hk21.cellAt q4_1
    replace q4_2 := hk21.cellAt q4_2
    replace q4_3 := hk21.cellAt q4_3
    have z21 := hk21.size
    replace ox1 := ox1.keep (keepE hk21 (by omega))
    replace om16 := om16.keep (keepE hk21 (by omega))
    have hB21 := hB17.trans hk21
    have hE21 : Ext w w21 := hB21
    clear hk21
    go_wp2_with fail
    refine (eqLog_v _ _ _ _ _ _ _ (by exact ox6.rd.keep (keepE' (by repeat' (first | with_reducible exact Ext.refl _ | with_reducible assumption | with_reducible refine Ext.set ?_ ?_ _ _ | with_reducible refine Ext.alloc ?_ _ | with_reducible refine Ext.drew ?_ | with_reducible refine Ext.drewN ?_ _ | with_reducible refine Ext.trans ?_ (by with_reducible assumption) | omega | (simp; done) | (simp; omega))) (by first | omega | (simp; done) | (simp; omega)))) (by first | omega | (simp; done) | (simp; omega)) (by exact ox1.rd.keep (keepE' (by repeat' (first | with_reducible exact Ext.refl _ | with_reducible assumption | with_reducible refine Ext.set ?_ ?_ _ _ | with_reducible refine Ext.alloc ?_ _ | with_reducible refine Ext.drew ?_ | with_reducible refine Ext.drewN ?_ _ | with_reducible refine Ext.trans ?_ (by with_reducible assumption) | omega | (simp; done) | (simp; omega))) (by first | omega | (simp; done) | (simp; omega)))) (by first | omega | (simp; done) | (simp; omega))).mono ?_
    rintro e22 w22 ⟨rfl, hb22⟩
    have hk22 : Ext w21 w22 := by repeat' (first | with_reducible exact Ext.refl _ | with_reducible assumption | with_reducible refine Ext.set ?_ ?_ _ _ | with_reducible refine Ext.alloc ?_ _ | with_reducible refine Ext.drew ?_ | with_reducible refine Ext.drewN ?_ _ | with_reducible refine Ext.trans ?_ (by with_reducible assumption) | omega | (simp; done) | (simp; omega))
    replace q0_0 := hk22.cellAt q0_0
    replace q0_1 := hk22.cellAt q0_1
    replace q0_2 := hk22.cellAt q0_2
    replace q0_3 := hk22.cellAt q0_3
    replace q1_0 := hk22.cellAt q1_0
    replace q1_1 := hk22.cellAt q1_1
    replace q1_2 := hk22.cellAt q1_2
    replace q1_3 := hk22.cellAt q1_3
    replace q1_4 := hk22.cellAt q1_4
    replace q2_0 := hk22.cellAt q2_0
    replace q2_1 := hk22.cellAt q2_1
    replace q2_2 := hk22.cellAt q2_2
    replace q2_3 := hk22.cellAt q2_3
    replace q3_0 := hk22.cellAt q3_0
    replace q3_1 := hk22.cellAt q3_1
    replace q3_2 := hk22.cellAt q3_2
    replace q3_3 := hk22.cellAt q3_3
    replace q4_0 := hk22.cellAt q4_0
    replace q4_1 := hk22.cellAt q4_1
    replace q4_2 := hk22.cellAt q4_2
    replace q4_3 := hk22.cellAt q4_3
    replace q5_0 := hk22.cellAt q5_0
    replace q5_1 := hk22.cellAt q5_1
    replace q5_2 := hk22.cellAt q5_2
    replace q5_3 := hk22.cellAt q5_3
    have z22 := hk22.size
    replace ox1 := ox1.keep (keepE hk22 (by omega))
    replace om16 := om16.keep (keepE hk22 (by omega))
    replace ox6 := ox6.keep (keepE hk22 (by omega))
    have hB22 := hB21.trans hk22
    clear hk22
    have hE22 : Ext w w22 := hB22
    clear hb22
    clear ox6
    clear ox1
    go_wp2_with fail
    refine (heldLog_v _ _ _ _ _ om16.rd (by omega) (by omega) (by omega)).mono ?_
    rintro e23 w23 ⟨rfl, hb23⟩
    have hk23 : Ext w22 w23 := by repeat' (first | with_reducible exact Ext.refl _ | with_reducible assumption | with_reducible refine Ext.set ?_ ?_ _ _ | with_reducible refine Ext.alloc ?_ _ | with_reducible refine Ext.drew ?_ | with_reducible refine Ext.drewN ?_ _ | with_reducible refine Ext.trans ?_ (by with_reducible assumption) | omega | (simp; done) | (simp; omega))
    replace q0_0 := hk23.cellAt q0_0
    replace q0_1 := hk23.cellAt q0_1
    replace q0_2 := hk23.cellAt q0_2
    replace q0_3 := hk23.cellAt q0_3
    replace q1_0 := hk23.cellAt q1_0
    replace q1_1 := hk23.cellAt q1_1
    replace q1_2 := hk23.cellAt q1_2
    replace q1_3 := hk23.cellAt q1_3
    replace q1_4 := hk23.cellAt q1_4
    replace q2_0 := hk23.cellAt q2_0
    replace q2_1 := hk23.cellAt q2_1
    replace q2_2 := hk23.cellAt q2_2
    replace q2_3 := hk23.cellAt q2_3
    replace q3_0 := hk23.cellAt q3_0
    replace q3_1 := hk23.cellAt q3_1
    replace q3_2 := hk23.cellAt q3_2
    replace q3_3 := hk23.cellAt q3_3
    replace q4_0 := hk23.cellAt q4_0
    replace q4_1 := hk23.cellAt q4_1
    replace q4_2 := hk23.cellAt q4_2
    replace q4_3 := hk23.cellAt q4_3
    replace q5_0 := hk23.cellAt q5_0
    replace q5_1 := hk23.cellAt q5_1
    replace q5_2 := hk23.cellAt q5_2
    replace q5_3 := hk23.cellAt q5_3
    have z23 := hk23.size
    replace om16 := om16.keep (keepE hk23 (by omega))
    have hB23 := hB22.trans hk23
    clear hk23
    have hE23 : Ext w w23 := hB23
    clear hb23
    go_wp2
    go_ret
    exact ⟨rfl, hE23⟩
  · skip
    obtain ⟨u0, s0, t0, hv0, -⟩ := id r0
    subst hv0
    go_enter Try.func10, Try.ntmps10
    go_wp2_with fail
    refine (szLog_no _ _ _ _ _ (by exact r0.keep (keepE' (by repeat' (first | with_reducible exact Ext.refl _ | with_reducible assumption | with_reducible refine Ext.set ?_ ?_ _ _ | with_reducible refine Ext.alloc ?_ _ | with_reducible refine Ext.drew ?_ | with_reducible refine Ext.drewN ?_ _ | with_reducible refine Ext.trans ?_ (by with_reducible assumption) | omega | (simp; done) | (simp; omega))) (Nat.le_refl _))) (by first | omega | (simp; done) | (simp; omega)) (by omega) (by omega) (by omega)).mono ?_
    rintro e1 w1 ⟨rfl, hb1⟩
    have hk1 : Ext w w1 := by repeat' (first | with_reducible exact Ext.refl _ | with_reducible assumption | with_reducible refine Ext.set ?_ ?_ _ _ | with_reducible refine Ext.alloc ?_ _ | with_reducible refine Ext.drew ?_ | with_reducible refine Ext.drewN ?_ _ | with_reducible refine Ext.trans ?_ (by with_reducible assumption) | omega | (simp; done) | (simp; omega))
    have q0_0 : w1.cell? ⟨w.heap.size, 0, none⟩ = some (.int .i64 l0.base) := hb1.cellAt (Ext.cellAt ((Ext.refl _).alloc _) (new_box _ _ #[.int .i64 l0.base, u0, s0, t0] _ 0 _ (by simp) rfl))
    have q0_1 : w1.cell? ⟨w.heap.size, 1, none⟩ = some u0 := hb1.cellAt (Ext.cellAt ((Ext.refl _).alloc _) (new_box _ _ #[.int .i64 l0.base, u0, s0, t0] _ 1 _ (by simp) rfl))
    have q0_2 : w1.cell? ⟨w.heap.size, 2, none⟩ = some s0 := hb1.cellAt (Ext.cellAt ((Ext.refl _).alloc _) (new_box _ _ #[.int .i64 l0.base, u0, s0, t0] _ 2 _ (by simp) rfl))
    have q0_3 : w1.cell? ⟨w.heap.size, 3, none⟩ = some t0 := hb1.cellAt (Ext.cellAt ((Ext.refl _).alloc _) (new_box _ _ #[.int .i64 l0.base, u0, s0, t0] _ 3 _ (by simp) rfl))
    have zb29 : w.heap.size < w1.heap.size := World.block_lt_of_cell? _ _ q0_0
    have q1_0 : w1.cell? ⟨w.heap.size + 1, 0, none⟩ = some (.int .i64 p1) := hb1.cellAt (new_box _ _ #[.int .i64 p1, .int .i64 q1, .int .i64 k1, .int .i64 x1, .int .i64 y1] _ 0 _ (by simp) rfl)
    have q1_1 : w1.cell? ⟨w.heap.size + 1, 1, none⟩ = some (.int .i64 q1) := hb1.cellAt (new_box _ _ #[.int .i64 p1, .int .i64 q1, .int .i64 k1, .int .i64 x1, .int .i64 y1] _ 1 _ (by simp) rfl)
    have q1_2 : w1.cell? ⟨w.heap.size + 1, 2, none⟩ = some (.int .i64 k1) := hb1.cellAt (new_box _ _ #[.int .i64 p1, .int .i64 q1, .int .i64 k1, .int .i64 x1, .int .i64 y1] _ 2 _ (by simp) rfl)
    have q1_3 : w1.cell? ⟨w.heap.size + 1, 3, none⟩ = some (.int .i64 x1) := hb1.cellAt (new_box _ _ #[.int .i64 p1, .int .i64 q1, .int .i64 k1, .int .i64 x1, .int .i64 y1] _ 3 _ (by simp) rfl)
    have q1_4 : w1.cell? ⟨w.heap.size + 1, 4, none⟩ = some (.int .i64 y1) := hb1.cellAt (new_box _ _ #[.int .i64 p1, .int .i64 q1, .int .i64 k1, .int .i64 x1, .int .i64 y1] _ 4 _ (by simp) rfl)
    have zb30 : w.heap.size + 1 < w1.heap.size := World.block_lt_of_cell? _ _ q1_0
    have z1 := hk1.size
    have hB1 := hk1
    clear hk1
    have hE1 : Ext w w1 := hB1
    clear hb1
    go_wp2
    go_ret
    exact ⟨rfl, hE1⟩

set_option maxRecDepth 100000 in
theorem lifted (os : Os) (started : os.Started) (H : Type) (enc : TypeId × Value → H) :
    ReturnsInHanded {} Try.checked os 10 .any (Rows.fnExactLogPutSpec.pre6 enc Try.prog Try.f10 Rows.fnExactLogPutRow.domain false) (Rows.fnExactLogPutSpec.post enc Try.prog Try.f10 false true false false) := by
  refine returnsInHanded_of_change (C := Try.checked) own started (by kernel_rfl) Try.func10
    (ChangeSpec.witness6 (enc := enc) (C := Try.checked) false ⟨#[], #[.agg #[.int .i64 0, .slice none 0 0, .slice none 0 0, .slice none 0 0], .agg #[.int .i64 0, .int .i64 0, .int .i64 0, .int .i64 0, .int .i64 0]], []⟩ 8 (by kernel_rfl) (by kernel_rfl) (by kernel_rfl) (by kernel_rfl)) ?_
  intro W base args ds gs before hval0 hW hcnd _
  have hval : ∀ (j : Nat) t v, Try.f10.params[j]? = some t → args[j]? = some v → Value.okWide Try.prog W .any base t v := hval0
  have hW' := hW
  obtain ⟨p, q, hA0, hV, rfl, hfz, hnd⟩ := hW
  have hA : DataW.TrodAll enc Try.prog W 0 (fun _ => true) true Try.f10.params.toList args.toList ds p := hA0
  rw [Try.params10] at hA hval
  obtain ⟨vv0, vs0, dd0, ds0, pp0, qq0, hargs, rfl, rfl, ht0, rr0⟩ := trodAll_cons hA
  obtain ⟨vv1, vs1, dd1, ds1, pp1, qq1, rfl, rfl, rfl, ht1, rr1⟩ := trodAll_cons rr0
  obtain ⟨rfl, rfl, rfl⟩ := trodAll_nil rr1
  obtain rfl : args = #[vv0, vv1] := by cases args; simp_all
  obtain ⟨rfl, rfl⟩ := trodVars_none hV
  have trd0 := ht0
  have lts0 : ∀ x ∈ pp0, x.block < W.heap.size := by obtain ⟨m, hm⟩ := trd0; exact DataW.trod_lt m _ _ _ hm
  obtain ⟨l0, r0, g0⟩ := open_Log_arg (hval 0 28 vv0 rfl rfl) ht0
  have trd1 := ht1
  have lts1 : ∀ x ∈ pp1, x.block < W.heap.size := by obtain ⟨m, hm⟩ := trd1; exact DataW.trod_lt m _ _ _ hm
  obtain ⟨p1, q1, k1, x1, y1, rfl, fp1, fq1, fk1, fx1, fy1⟩ := open_entry_arg (hval 1 65 vv1 rfl rfl) ht1
  clear hA0 hval0
  refine (walk vv0  l0  p1 q1 k1 x1 y1  W r0 g0 fp1 fq1 fk1 fx1 fy1).mono fun e W' ⟨he, bel⟩ => ?_
  subst he
  exact ⟨_, rfl, _, _, _, [], _, [], hW', trodAll_mk1 (shut_bool Try.underlying4 _), (trodAll_cons_mk (Below.trod laidOut (by kernel_rfl) (of_decide_eq_true (by kernel_rfl)) trd0 bel lts0) (trodAll_cons_mk (Below.trod laidOut (by kernel_rfl) (of_decide_eq_true (by kernel_rfl)) trd1 bel lts1) trodAll_mk0)), rfl, Below.frame bel _, fun h => by cases h⟩

theorem over : Rows.fnExactLogPutRow.holds Try.pinned (OpenSpec.ofChange Rows.fnExactLogPutSpec) :=
  OpenClaim.holds_of_wide 10 Try.f10 rfl rfl rfl rfl rfl rfl rfl ⟨rfl, rfl, rfl, rfl, rfl⟩ rfl rfl rfl rfl rfl (by as_aux_lemma => kernel_rfl) Try.func10 (by as_aux_lemma => kernel_rfl)
    (of_decide_eq_true (by as_aux_lemma => kernel_rfl)) (by as_aux_lemma => unfold Func.isWrapper; first | (rw [if_pos (by decide +kernel)]; kernel_rfl) | (rw [if_neg (by decide +kernel)]; exact ⟨rfl, rfl⟩))
    (fun os started H enc _ => lifted os started H enc)

theorem proved : Rows.FnExactLogPutSaid := over
#print axioms proved
end Go.Proofs.Ytocmcfilldfdlaa.fnExactLogPut
