/-
  SameImage, the program's and the reference's, walked.
-/
import Derived.Test.YtbfbdhjeoknjkaaFind
namespace Go.Proofs.Ytbfbdhjeoknjkaa
open Go.RowKit

set_option maxRecDepth 100000 in
set_option maxHeartbeats 1000000 in
theorem sameImage_i (u v : Value) (x y : ImageD) (w : World) (X Y : Nat) (hu : R_Image w X u x) (hX : X ≤ w.heap.size) (hv : R_Image w Y v y) (hY : Y ≤ w.heap.size) :
    Calls Try.prog 64 #[u, v] w fun e w' => e = .returned (.bool (decide (x = y))) ∧ Ext w w' := by
  obtain ⟨u1, u2, rfl, hu1, hu2⟩ := hu
  obtain ⟨v1, v2, rfl, hv1, hv2⟩ := hv
  obtain ⟨A0, n0, c0, hw0, -⟩ := id hu1
  obtain ⟨A1, n1, c1, hw1, -⟩ := id hu2
  obtain ⟨A2, n2, c2, hw2, -⟩ := id hv1
  obtain ⟨A3, n3, c3, hw3, -⟩ := id hv2
  subst hw0 hw1 hw2 hw3
  obtain ⟨x1, x2⟩ := x
  obtain ⟨y1, y2⟩ := y
  dsimp only at *
  go_enter Try.func64, Try.ntmps64
  go_wp2_with fail
  refine (equalCell_v _ _ _ _ _ X Y (by exact hu1.keep (keepE' (by repeat' (first | with_reducible exact Ext.refl _ | with_reducible assumption | with_reducible refine Ext.set ?_ ?_ _ _ | with_reducible refine Ext.alloc ?_ _ | with_reducible refine Ext.drew ?_ | with_reducible refine Ext.drewN ?_ _ | with_reducible refine Ext.trans ?_ (by with_reducible assumption) | omega | (simp; done) | (simp; omega))) hX)) (by exact hv1.keep (keepE' (by repeat' (first | with_reducible exact Ext.refl _ | with_reducible assumption | with_reducible refine Ext.set ?_ ?_ _ _ | with_reducible refine Ext.alloc ?_ _ | with_reducible refine Ext.drew ?_ | with_reducible refine Ext.drewN ?_ _ | with_reducible refine Ext.trans ?_ (by with_reducible assumption) | omega | (simp; done) | (simp; omega))) hY))).mono ?_
  rintro e w1 ⟨rfl, hs1⟩
  have hE1 := hs1.ext
  obtain ⟨hc1, hf1, hz1⟩ := hs1.look
  have hz2 : w.heap.size + 1 < w1.heap.size := by simp at hz1; omega
  clear hz1 hs1
  by_cases h1 : x1 = y1
  · rw [decide_eq_true h1]
    go_wp2_with fail
    refine (equalSeat_v _ _ _ _ _ X Y (by exact hu2.keep (keepE' (by repeat' (first | with_reducible exact Ext.refl _ | with_reducible assumption | with_reducible refine Ext.set ?_ ?_ _ _ | with_reducible refine Ext.alloc ?_ _ | with_reducible refine Ext.drew ?_ | with_reducible refine Ext.drewN ?_ _ | with_reducible refine Ext.trans ?_ (by with_reducible assumption) | omega | (simp; done) | (simp; omega))) hX)) (by exact hv2.keep (keepE' (by repeat' (first | with_reducible exact Ext.refl _ | with_reducible assumption | with_reducible refine Ext.set ?_ ?_ _ _ | with_reducible refine Ext.alloc ?_ _ | with_reducible refine Ext.drew ?_ | with_reducible refine Ext.drewN ?_ _ | with_reducible refine Ext.trans ?_ (by with_reducible assumption) | omega | (simp; done) | (simp; omega))) hY))).mono ?_
    rintro e w2 ⟨rfl, hs2⟩
    have hE2 := hs2.ext
    by_cases h2 : x2 = y2
    · rw [decide_eq_true h2]
      go_wp2
      go_ret
      exact ⟨ret_bool (by simp [h1, h2]), by repeat' (first | with_reducible exact Ext.refl _ | with_reducible assumption | with_reducible refine Ext.set ?_ ?_ _ _ | with_reducible refine Ext.alloc ?_ _ | with_reducible refine Ext.drew ?_ | with_reducible refine Ext.drewN ?_ _ | with_reducible refine Ext.trans ?_ (by with_reducible assumption) | omega | (simp; done) | (simp; omega))⟩
    · rw [decide_eq_false h2]
      go_wp2
      go_ret
      exact ⟨ret_bool (by simp [h2]), by repeat' (first | with_reducible exact Ext.refl _ | with_reducible assumption | with_reducible refine Ext.set ?_ ?_ _ _ | with_reducible refine Ext.alloc ?_ _ | with_reducible refine Ext.drew ?_ | with_reducible refine Ext.drewN ?_ _ | with_reducible refine Ext.trans ?_ (by with_reducible assumption) | omega | (simp; done) | (simp; omega))⟩
  · rw [decide_eq_false h1]
    go_wp2
    go_ret
    exact ⟨ret_bool (by simp [h1]), by repeat' (first | with_reducible exact Ext.refl _ | with_reducible assumption | with_reducible refine Ext.set ?_ ?_ _ _ | with_reducible refine Ext.alloc ?_ _ | with_reducible refine Ext.drew ?_ | with_reducible refine Ext.drewN ?_ _ | with_reducible refine Ext.trans ?_ (by with_reducible assumption) | omega | (simp; done) | (simp; omega))⟩

set_option maxRecDepth 100000 in
set_option maxHeartbeats 2000000 in
theorem sameImage_s (u v : Value) (x y : ImageD) (w : World) (X Y : Nat) (hu : R_Image w X u x) (hX : X ≤ w.heap.size) (hv : R_Image w Y v y) (hY : Y ≤ w.heap.size) :
    Calls Try.prog 87 #[u, v] w fun e w' => e = .returned (.bool (decide (x = y))) ∧ Ext w w' := by
  obtain ⟨u1, u2, rfl, hu1, hu2⟩ := hu
  obtain ⟨v1, v2, rfl, hv1, hv2⟩ := hv
  have l0 := hu1.len
  have l1 := hu2.len
  have l2 := hv1.len
  have l3 := hv2.len
  obtain ⟨A0, n0, c0, rfl, e0, -, -, r0⟩ := hu1
  obtain ⟨A1, n1, c1, rfl, e1, -, -, r1⟩ := hu2
  obtain ⟨A2, n2, c2, rfl, e2, -, -, r2⟩ := hv1
  obtain ⟨A3, n3, c3, rfl, e3, -, -, r3⟩ := hv2
  obtain ⟨x1, x2⟩ := x
  obtain ⟨y1, y2⟩ := y
  dsimp only at *
  rw [e0] at l0
  rw [e1] at l1
  rw [e2] at l2
  rw [e3] at l3
  by_cases hn : n0 = n2 ∧ n1 = n3
  · obtain ⟨rfl, rfl⟩ := hn
    have E0 := Lib.hid e0
    have E1 := Lib.hid e1
    have E2 := Lib.hid e2
    have E3 := Lib.hid e3
    clear e0 e1 e2 e3
    go_enter Try.func87, Try.ntmps87
    go_wp2
    go_loopw [5] (fun iv wr => ∃ k : Nat, k ≤ n0 ∧ iv = .int .i64 k ∧ Hid (x1.take k = y1.take k) ∧ wr.cell? ⟨w.heap.size, 0, none⟩ = some (.slice A0 n0 c0) ∧ wr.cell? ⟨w.heap.size, 1, none⟩ = some (.slice A1 n1 c1) ∧ wr.cell? ⟨w.heap.size + 1, 0, none⟩ = some (.slice A2 n0 c2) ∧ wr.cell? ⟨w.heap.size + 1, 1, none⟩ = some (.slice A3 n1 c3) ∧ Ext w wr) (fun iv _ => n0 - (intOf iv).toNat)
    case atStart => exact ⟨0, by omega, rfl, rfl, by simp, by simp, by simp, by simp, by repeat' (first | with_reducible exact Ext.refl _ | with_reducible assumption | with_reducible refine Ext.set ?_ ?_ _ _ | with_reducible refine Ext.alloc ?_ _ | with_reducible refine Ext.drew ?_ | with_reducible refine Ext.drewN ?_ _ | with_reducible refine Ext.trans ?_ (by with_reducible assumption) | omega | (simp; done) | (simp; omega))⟩
    case round =>
      obtain ⟨k, hk, rfl, hpre, q0, q1, q2, q3, hext⟩ := hrel
      by_cases hlt : k < n0
      · obtain ⟨b, off, x, rfl, _, hx1, hc0, hc1⟩ := (hext.rd r0 hX).Cell E0.out hlt
        obtain ⟨b', off', y, rfl, _, hy1, hd0, hd1⟩ := (hext.rd r2 hY).Cell E2.out hlt
        have Hx1 := Lib.hid hx1
        have Hy1 := Lib.hid hy1
        have hlt' : (k : Int) < (n0 : Int) := by omega
        clear hx1 hy1 r0 r2
        by_cases he : x = y
        · have hq : ∀ w, (binOp .neq 86 (.agg #[.int .i64 x.key, .int .i64 x.value]) (.agg #[.int .i64 y.key, .int .i64 y.value])).run Try.prog w = .ok (.bool false) w := fun w => by rw [neqCell, decide_eq_true he]; rfl
          have He := Lib.hid he
          clear he
          go_wp2
          go_quiet (fail)
          go_wp2
          go_roundw
          case rel => exact ⟨k + 1, by omega, by go_num, by
            show _ = _
            rw [take_snoc Hx1.out, take_snoc Hy1.out, hpre.out, He.out], by simpa using q0, by simpa using q1, by simpa using q2, by simpa using q3, by repeat' (first | with_reducible exact Ext.refl _ | with_reducible assumption | with_reducible refine Ext.set ?_ ?_ _ _ | with_reducible refine Ext.alloc ?_ _ | with_reducible refine Ext.drew ?_ | with_reducible refine Ext.drewN ?_ _ | with_reducible refine Ext.trans ?_ (by with_reducible assumption) | omega | (simp; done) | (simp; omega))⟩
          case measure => simp [intOf]; omega
        · have hq : ∀ w, (binOp .neq 86 (.agg #[.int .i64 x.key, .int .i64 x.value]) (.agg #[.int .i64 y.key, .int .i64 y.value])).run Try.prog w = .ok (.bool true) w := fun w => by rw [neqCell, decide_eq_false he]; rfl
          have He := Lib.hid he
          clear he
          go_wp2
          go_quiet (fail)
          go_wp2
          go_ret
          refine ⟨ret_bool (Eq.symm (decide_eq_false ?_)), by repeat' (first | with_reducible exact Ext.refl _ | with_reducible assumption | with_reducible refine Ext.set ?_ ?_ _ _ | with_reducible refine Ext.alloc ?_ _ | with_reducible refine Ext.drew ?_ | with_reducible refine Ext.drewN ?_ _ | with_reducible refine Ext.trans ?_ (by with_reducible assumption) | omega | (simp; done) | (simp; omega))⟩
          intro h
          injection h with h _
          subst h
          have h1 := Hx1.out.symm.trans Hy1.out
          injection h1 with h1
          exact He.out h1
      · obtain rfl : n0 = k := by omega
        have hcells : Hid (x1 = y1) := by
          have h := hpre.out
          rw [List.take_of_length_le (by rw [E0.out]; omega), List.take_of_length_le (by rw [E2.out]; omega)] at h
          exact h
        clear hpre r0 r2
        go_wp2
        go_loopw [6] (fun iv wr => ∃ k : Nat, k ≤ n1 ∧ iv = .int .i64 k ∧ Hid (x2.take k = y2.take k) ∧ wr.cell? ⟨w.heap.size, 0, none⟩ = some (.slice A0 n0 c0) ∧ wr.cell? ⟨w.heap.size, 1, none⟩ = some (.slice A1 n1 c1) ∧ wr.cell? ⟨w.heap.size + 1, 0, none⟩ = some (.slice A2 n0 c2) ∧ wr.cell? ⟨w.heap.size + 1, 1, none⟩ = some (.slice A3 n1 c3) ∧ Ext w wr) (fun iv _ => n1 - (intOf iv).toNat)
        case atStart => exact ⟨0, by omega, rfl, rfl, q0, q1, q2, q3, hext⟩
        case round =>
          obtain ⟨k, hk, rfl, hpre, q0, q1, q2, q3, hext⟩ := hrel
          by_cases hlt : k < n1
          · obtain ⟨b, off, x, rfl, _, hx1, hc0, hc1, hc2⟩ := (hext.rd r1 hX).Seat E1.out hlt
            obtain ⟨b', off', y, rfl, _, hy1, hd0, hd1, hd2⟩ := (hext.rd r3 hY).Seat E3.out hlt
            have Hx1 := Lib.hid hx1
            have Hy1 := Lib.hid hy1
            have hlt' : (k : Int) < (n1 : Int) := by omega
            clear hx1 hy1 r1 r3
            by_cases he : x = y
            · have hq : ∀ w, (binOp .neq 88 (.agg #[.int .i64 x.client, .int .i64 x.req, .int .i64 x.answer]) (.agg #[.int .i64 y.client, .int .i64 y.req, .int .i64 y.answer])).run Try.prog w = .ok (.bool false) w := fun w => by rw [neqSeat, decide_eq_true he]; rfl
              have He := Lib.hid he
              clear he
              go_wp2
              go_quiet (fail)
              go_wp2
              go_roundw
              case rel => exact ⟨k + 1, by omega, by go_num, by
                show _ = _
                rw [take_snoc Hx1.out, take_snoc Hy1.out, hpre.out, He.out], by simpa using q0, by simpa using q1, by simpa using q2, by simpa using q3, by repeat' (first | with_reducible exact Ext.refl _ | with_reducible assumption | with_reducible refine Ext.set ?_ ?_ _ _ | with_reducible refine Ext.alloc ?_ _ | with_reducible refine Ext.drew ?_ | with_reducible refine Ext.drewN ?_ _ | with_reducible refine Ext.trans ?_ (by with_reducible assumption) | omega | (simp; done) | (simp; omega))⟩
              case measure => simp [intOf]; omega
            · have hq : ∀ w, (binOp .neq 88 (.agg #[.int .i64 x.client, .int .i64 x.req, .int .i64 x.answer]) (.agg #[.int .i64 y.client, .int .i64 y.req, .int .i64 y.answer])).run Try.prog w = .ok (.bool true) w := fun w => by rw [neqSeat, decide_eq_false he]; rfl
              have He := Lib.hid he
              clear he
              go_wp2
              go_quiet (fail)
              go_wp2
              go_ret
              refine ⟨ret_bool (Eq.symm (decide_eq_false ?_)), by repeat' (first | with_reducible exact Ext.refl _ | with_reducible assumption | with_reducible refine Ext.set ?_ ?_ _ _ | with_reducible refine Ext.alloc ?_ _ | with_reducible refine Ext.drew ?_ | with_reducible refine Ext.drewN ?_ _ | with_reducible refine Ext.trans ?_ (by with_reducible assumption) | omega | (simp; done) | (simp; omega))⟩
              intro h
              injection h with _ h
              subst h
              have h1 := Hx1.out.symm.trans Hy1.out
              injection h1 with h1
              exact He.out h1
          · obtain rfl : n1 = k := by omega
            have hseats : Hid (x2 = y2) := by
              have h := hpre.out
              rw [List.take_of_length_le (by rw [E1.out]; omega), List.take_of_length_le (by rw [E3.out]; omega)] at h
              exact h
            clear hpre r1 r3
            go_wp2
            go_ret
            exact ⟨ret_bool (Eq.symm (decide_eq_true (by rw [hcells.out, hseats.out]))), hext⟩
  · have hne : Hid (¬ (⟨x1, x2⟩ : ImageD) = ⟨y1, y2⟩) := by
      intro h
      injection h with h1 h2
      subst h1 h2
      exact hn ⟨by omega, by omega⟩
    clear e0 e1 e2 e3
    by_cases h0 : n0 = n2
    · have h1 : ((n1 : Int) != (n3 : Int)) = true := by simp; omega
      have h2 : (n1 != n3) = true := by simp; omega
      have h3 : ((n0 : Int) != (n2 : Int)) = false := by simp [h0]
      have h4 : (n0 != n2) = false := by simp [h0]
      clear hn h0
      go_enter Try.func87, Try.ntmps87
      go_wp2
      go_ret
      exact ⟨ret_bool (Eq.symm (decide_eq_false hne.out)), by repeat' (first | with_reducible exact Ext.refl _ | with_reducible assumption | with_reducible refine Ext.set ?_ ?_ _ _ | with_reducible refine Ext.alloc ?_ _ | with_reducible refine Ext.drew ?_ | with_reducible refine Ext.drewN ?_ _ | with_reducible refine Ext.trans ?_ (by with_reducible assumption) | omega | (simp; done) | (simp; omega))⟩
    · have h3 : ((n0 : Int) != (n2 : Int)) = true := by simp; omega
      have h4 : (n0 != n2) = true := by simp; omega
      clear hn h0
      go_enter Try.func87, Try.ntmps87
      go_wp2
      go_ret
      exact ⟨ret_bool (Eq.symm (decide_eq_false hne.out)), by repeat' (first | with_reducible exact Ext.refl _ | with_reducible assumption | with_reducible refine Ext.set ?_ ?_ _ _ | with_reducible refine Ext.alloc ?_ _ | with_reducible refine Ext.drew ?_ | with_reducible refine Ext.drewN ?_ _ | with_reducible refine Ext.trans ?_ (by with_reducible assumption) | omega | (simp; done) | (simp; omega))⟩
end Go.Proofs.Ytbfbdhjeoknjkaa
