/-
  SameLog, the program's and the reference's, walked.
-/
import Derived.Test.YtbfbdhjeoknjkaaLog
import Derived.Test.YtbfbdhjeoknjkaaSame
namespace Go.Proofs.Ytbfbdhjeoknjkaa
open Go.RowKit

set_option maxRecDepth 100000 in
set_option maxHeartbeats 2000000 in
theorem sameLog_i (u v : Value) (x y : LogD) (w : World) (X Y : Nat) (hu : R_Log w X u x) (hX : X ≤ w.heap.size) (hv : R_Log w Y v y) (hY : Y ≤ w.heap.size) :
    Calls Try.prog 28 #[u, v] w fun e w' => e = .returned (.bool (decide (x = y))) ∧ Ext w w' := by
  obtain ⟨u1, u2, u3, rfl, hu1, hu2, hu3⟩ := hu
  obtain ⟨v1, v2, v3, rfl, hv1, hv2, hv3⟩ := hv
  have hi : R_Image w X (.agg #[u1, u2]) x.image := ⟨_, _, rfl, hu1, hu2⟩
  have hj : R_Image w Y (.agg #[v1, v2]) y.image := ⟨_, _, rfl, hv1, hv2⟩
  obtain ⟨A0, n0, c0, hw0, -⟩ := id hu1
  obtain ⟨A1, n1, c1, hw1, -⟩ := id hu2
  obtain ⟨A2, n2, c2, hw2, -⟩ := id hv1
  obtain ⟨A3, n3, c3, hw3, -⟩ := id hv2
  obtain ⟨A4, n4, c4, hw4, -⟩ := id hu3
  obtain ⟨A5, n5, c5, hw5, -⟩ := id hv3
  subst hw0 hw1 hw2 hw3 hw4 hw5
  obtain ⟨xb, x1, x2⟩ := x
  obtain ⟨yb, y1, y2⟩ := y
  dsimp only at *
  clear hu1 hu2 hv1 hv2
  by_cases hb : xb = yb
  · subst hb
    go_enter Try.func28, Try.ntmps28
    go_wp2_with fail
    refine (sameImage_i _ _ _ _ _ X Y (by exact hi.keep (keepE' (by repeat' (first | with_reducible exact Ext.refl _ | with_reducible assumption | with_reducible refine Ext.set ?_ ?_ _ _ | with_reducible refine Ext.alloc ?_ _ | with_reducible refine Ext.drew ?_ | with_reducible refine Ext.drewN ?_ _ | with_reducible refine Ext.trans ?_ (by with_reducible assumption) | omega | (simp; done) | (simp; omega))) hX)) (by simp; omega) (by exact hj.keep (keepE' (by repeat' (first | with_reducible exact Ext.refl _ | with_reducible assumption | with_reducible refine Ext.set ?_ ?_ _ _ | with_reducible refine Ext.alloc ?_ _ | with_reducible refine Ext.drew ?_ | with_reducible refine Ext.drewN ?_ _ | with_reducible refine Ext.trans ?_ (by with_reducible assumption) | omega | (simp; done) | (simp; omega))) hY)) (by simp; omega)).mono ?_
    rintro e w1 ⟨rfl, hE1⟩
    obtain ⟨hc1, hf1, hz1⟩ := hE1.look
    have hz2 : w.heap.size + 1 < w1.heap.size := by simp at hz1; omega
    clear hz1
    by_cases h1 : x1 = y1
    · rw [decide_eq_true h1]
      go_wp2_with fail
      refine (equalEntry_v _ _ _ _ _ X Y (by exact hu3.keep (keepE' (by repeat' (first | with_reducible exact Ext.refl _ | with_reducible assumption | with_reducible refine Ext.set ?_ ?_ _ _ | with_reducible refine Ext.alloc ?_ _ | with_reducible refine Ext.drew ?_ | with_reducible refine Ext.drewN ?_ _ | with_reducible refine Ext.trans ?_ (by with_reducible assumption) | omega | (simp; done) | (simp; omega))) hX)) (by exact hv3.keep (keepE' (by repeat' (first | with_reducible exact Ext.refl _ | with_reducible assumption | with_reducible refine Ext.set ?_ ?_ _ _ | with_reducible refine Ext.alloc ?_ _ | with_reducible refine Ext.drew ?_ | with_reducible refine Ext.drewN ?_ _ | with_reducible refine Ext.trans ?_ (by with_reducible assumption) | omega | (simp; done) | (simp; omega))) hY))).mono ?_
      rintro e w2 ⟨rfl, hs2⟩
      have hE2 := hs2.ext
      by_cases h2 : x2 = y2
      · rw [decide_eq_true h2]
        go_wp2
        go_ret
        exact ⟨ret_bool (by simp [h1, h2]), by repeat' (first | with_reducible exact Ext.refl _ | with_reducible assumption | with_reducible refine Ext.set ?_ ?_ _ _ | with_reducible refine Ext.alloc ?_ _ | with_reducible refine Ext.drew ?_ | with_reducible refine Ext.drewN ?_ _ | with_reducible refine Ext.trans ?_ (by with_reducible assumption) | omega | (simp; done) | (simp; omega))⟩
      · rw [decide_eq_false h2]
        go_wp2
        go_ret
        exact ⟨ret_bool (by simp [h2]), by repeat' (first | with_reducible exact Ext.refl _ | with_reducible assumption | with_reducible refine Ext.set ?_ ?_ _ _ | with_reducible refine Ext.alloc ?_ _ | with_reducible refine Ext.drew ?_ | with_reducible refine Ext.drewN ?_ _ | with_reducible refine Ext.trans ?_ (by with_reducible assumption) | omega | (simp; done) | (simp; omega))⟩
    · rw [decide_eq_false h1]
      go_wp2
      go_ret
      exact ⟨ret_bool (by simp [h1]), by repeat' (first | with_reducible exact Ext.refl _ | with_reducible assumption | with_reducible refine Ext.set ?_ ?_ _ _ | with_reducible refine Ext.alloc ?_ _ | with_reducible refine Ext.drew ?_ | with_reducible refine Ext.drewN ?_ _ | with_reducible refine Ext.trans ?_ (by with_reducible assumption) | omega | (simp; done) | (simp; omega))⟩
  · go_enter Try.func28, Try.ntmps28
    go_wp2
    go_ret
    exact ⟨ret_bool (by simp [hb]), by repeat' (first | with_reducible exact Ext.refl _ | with_reducible assumption | with_reducible refine Ext.set ?_ ?_ _ _ | with_reducible refine Ext.alloc ?_ _ | with_reducible refine Ext.drew ?_ | with_reducible refine Ext.drewN ?_ _ | with_reducible refine Ext.trans ?_ (by with_reducible assumption) | omega | (simp; done) | (simp; omega))⟩

set_option maxRecDepth 100000 in
set_option maxHeartbeats 2000000 in
theorem sameLog_s (u v : Value) (x y : LogD) (w : World) (X Y : Nat) (hu : R_Log w X u x) (hX : X ≤ w.heap.size) (hv : R_Log w Y v y) (hY : Y ≤ w.heap.size) :
    Calls Try.prog 41 #[u, v] w fun e w' => e = .returned (.bool (decide (x = y))) ∧ Ext w w' := by
  obtain ⟨u1, u2, u3, rfl, hu1, hu2, hu3⟩ := hu
  obtain ⟨v1, v2, v3, rfl, hv1, hv2, hv3⟩ := hv
  have hi : R_Image w X (.agg #[u1, u2]) x.image := ⟨_, _, rfl, hu1, hu2⟩
  have hj : R_Image w Y (.agg #[v1, v2]) y.image := ⟨_, _, rfl, hv1, hv2⟩
  have l4 := hu3.len
  have l5 := hv3.len
  obtain ⟨A0, n0, c0, hw0, -⟩ := id hu1
  obtain ⟨A1, n1, c1, hw1, -⟩ := id hu2
  obtain ⟨A2, n2, c2, hw2, -⟩ := id hv1
  obtain ⟨A3, n3, c3, hw3, -⟩ := id hv2
  obtain ⟨A4, n4, c4, rfl, e4, -, -, r4⟩ := hu3
  obtain ⟨A5, n5, c5, rfl, e5, -, -, r5⟩ := hv3
  subst hw0 hw1 hw2 hw3
  obtain ⟨xb, x1, x2⟩ := x
  obtain ⟨yb, y1, y2⟩ := y
  dsimp only at *
  rw [e4] at l4
  rw [e5] at l5
  clear hu1 hu2 hv1 hv2
  by_cases hb : xb = yb
  · subst hb
    by_cases hn : n4 = n5
    · subst hn
      have E4 := Lib.hid e4
      have E5 := Lib.hid e5
      clear e4 e5
      go_enter Try.func41, Try.ntmps41
      go_wp2_with fail
      refine (sameImage_s _ _ _ _ _ X Y (by exact hi.keep (keepE' (by repeat' (first | with_reducible exact Ext.refl _ | with_reducible assumption | with_reducible refine Ext.set ?_ ?_ _ _ | with_reducible refine Ext.alloc ?_ _ | with_reducible refine Ext.drew ?_ | with_reducible refine Ext.drewN ?_ _ | with_reducible refine Ext.trans ?_ (by with_reducible assumption) | omega | (simp; done) | (simp; omega))) hX)) (by simp; omega) (by exact hj.keep (keepE' (by repeat' (first | with_reducible exact Ext.refl _ | with_reducible assumption | with_reducible refine Ext.set ?_ ?_ _ _ | with_reducible refine Ext.alloc ?_ _ | with_reducible refine Ext.drew ?_ | with_reducible refine Ext.drewN ?_ _ | with_reducible refine Ext.trans ?_ (by with_reducible assumption) | omega | (simp; done) | (simp; omega))) hY)) (by simp; omega)).mono ?_
      rintro e w1 ⟨rfl, hE1⟩
      have q0 := hE1.cellAt (Ext.cellAt ((Ext.refl _).alloc _) (new_box w _ #[.int .i64 xb, .slice A0 n0 c0, .slice A1 n1 c1, .slice A4 n4 c4] 42 3 (.slice A4 n4 c4) rfl rfl))
      have q1 := hE1.cellAt (new_box (w.alloc (.cells #[.int .i64 xb, .slice A0 n0 c0, .slice A1 n1 c1, .slice A4 n4 c4] 42)) (w.heap.size + 1) #[.int .i64 xb, .slice A2 n2 c2, .slice A3 n3 c3, .slice A5 n4 c5] 42 3 (.slice A5 n4 c5) (by simp) rfl)
      have hX1 : Ext w w1 := by repeat' (first | with_reducible exact Ext.refl _ | with_reducible assumption | with_reducible refine Ext.set ?_ ?_ _ _ | with_reducible refine Ext.alloc ?_ _ | with_reducible refine Ext.drew ?_ | with_reducible refine Ext.drewN ?_ _ | with_reducible refine Ext.trans ?_ (by with_reducible assumption) | omega | (simp; done) | (simp; omega))
      clear hE1
      by_cases h1 : x1 = y1
      · have H1 := Lib.hid h1
        rw [decide_eq_true h1]
        clear h1
        go_wp2
        go_loopw [5] (fun iv wr => ∃ k : Nat, k ≤ n4 ∧ iv = .int .i64 k ∧ Hid (x2.take k = y2.take k) ∧ wr.cell? ⟨w.heap.size, 3, none⟩ = some (.slice A4 n4 c4) ∧ wr.cell? ⟨w.heap.size + 1, 3, none⟩ = some (.slice A5 n4 c5) ∧ Ext w wr) (fun iv _ => n4 - (intOf iv).toNat)
        case atStart => exact ⟨0, by omega, rfl, rfl, q0, q1, hX1⟩
        case round =>
          obtain ⟨k, hk, rfl, hpre, q0, q1, hext⟩ := hrel
          by_cases hlt : k < n4
          · obtain ⟨b, off, x, rfl, _, hx1, hc0, hc1, hc2, hc3, hc4⟩ := (hext.rd r4 hX).Entry E4.out hlt
            obtain ⟨b', off', y, rfl, _, hy1, hd0, hd1, hd2, hd3, hd4⟩ := (hext.rd r5 hY).Entry E5.out hlt
            have Hx1 := Lib.hid hx1
            have Hy1 := Lib.hid hy1
            have hlt' : (k : Int) < (n4 : Int) := by omega
            clear hx1 hy1 r4 r5
            by_cases he : x = y
            · have hq : ∀ w, (binOp .neq 90 (.agg #[.int .i64 x.client, .int .i64 x.req, .int .i64 x.cmd.kind, .int .i64 x.cmd.key, .int .i64 x.cmd.value]) (.agg #[.int .i64 y.client, .int .i64 y.req, .int .i64 y.cmd.kind, .int .i64 y.cmd.key, .int .i64 y.cmd.value])).run Try.prog w = .ok (.bool false) w := fun w => by rw [neqEntry, decide_eq_true he]; rfl
              have He := Lib.hid he
              clear he
              go_wp2
              go_quiet (fail)
              go_wp2
              go_roundw
              case rel => exact ⟨k + 1, by omega, by go_num, by
                show _ = _
                rw [take_snoc Hx1.out, take_snoc Hy1.out, hpre.out, He.out], by simpa using q0, by simpa using q1, by repeat' (first | with_reducible exact Ext.refl _ | with_reducible assumption | with_reducible refine Ext.set ?_ ?_ _ _ | with_reducible refine Ext.alloc ?_ _ | with_reducible refine Ext.drew ?_ | with_reducible refine Ext.drewN ?_ _ | with_reducible refine Ext.trans ?_ (by with_reducible assumption) | omega | (simp; done) | (simp; omega))⟩
              case measure => simp [intOf]; omega
            · have hq : ∀ w, (binOp .neq 90 (.agg #[.int .i64 x.client, .int .i64 x.req, .int .i64 x.cmd.kind, .int .i64 x.cmd.key, .int .i64 x.cmd.value]) (.agg #[.int .i64 y.client, .int .i64 y.req, .int .i64 y.cmd.kind, .int .i64 y.cmd.key, .int .i64 y.cmd.value])).run Try.prog w = .ok (.bool true) w := fun w => by rw [neqEntry, decide_eq_false he]; rfl
              have He := Lib.hid he
              clear he
              go_wp2
              go_quiet (fail)
              go_wp2
              go_ret
              refine ⟨ret_bool (Eq.symm (decide_eq_false ?_)), by repeat' (first | with_reducible exact Ext.refl _ | with_reducible assumption | with_reducible refine Ext.set ?_ ?_ _ _ | with_reducible refine Ext.alloc ?_ _ | with_reducible refine Ext.drew ?_ | with_reducible refine Ext.drewN ?_ _ | with_reducible refine Ext.trans ?_ (by with_reducible assumption) | omega | (simp; done) | (simp; omega))⟩
              intro h
              injection h with _ _ h
              subst h
              have h1 := Hx1.out.symm.trans Hy1.out
              injection h1 with h1
              exact He.out h1
          · obtain rfl : n4 = k := by omega
            have hents : Hid (x2 = y2) := by
              have h := hpre.out
              rw [List.take_of_length_le (by rw [E4.out]; omega), List.take_of_length_le (by rw [E5.out]; omega)] at h
              exact h
            clear hpre r4 r5
            go_wp2
            go_ret
            exact ⟨ret_bool (Eq.symm (decide_eq_true (by rw [H1.out, hents.out]))), hext⟩
      · have H1 := Lib.hid h1
        rw [decide_eq_false h1]
        clear h1
        go_wp2
        go_ret
        exact ⟨ret_bool (Eq.symm (decide_eq_false (by intro h; injection h with _ h _; exact H1.out h))), by repeat' (first | with_reducible exact Ext.refl _ | with_reducible assumption | with_reducible refine Ext.set ?_ ?_ _ _ | with_reducible refine Ext.alloc ?_ _ | with_reducible refine Ext.drew ?_ | with_reducible refine Ext.drewN ?_ _ | with_reducible refine Ext.trans ?_ (by with_reducible assumption) | omega | (simp; done) | (simp; omega))⟩
    · have hne : Hid (¬ (⟨xb, x1, x2⟩ : LogD) = ⟨xb, y1, y2⟩) := by
        intro h
        injection h with _ _ h
        subst h
        exact hn (by omega)
      have h1 : ((n4 : Int) != (n5 : Int)) = true := by simp; omega
      have h2 : (n4 != n5) = true := by simp; omega
      clear e4 e5
      go_enter Try.func41, Try.ntmps41
      go_wp2
      go_ret
      exact ⟨ret_bool (Eq.symm (decide_eq_false hne.out)), by repeat' (first | with_reducible exact Ext.refl _ | with_reducible assumption | with_reducible refine Ext.set ?_ ?_ _ _ | with_reducible refine Ext.alloc ?_ _ | with_reducible refine Ext.drew ?_ | with_reducible refine Ext.drewN ?_ _ | with_reducible refine Ext.trans ?_ (by with_reducible assumption) | omega | (simp; done) | (simp; omega))⟩
  · go_enter Try.func41, Try.ntmps41
    go_wp2
    go_ret
    exact ⟨ret_bool (by simp [hb]), by repeat' (first | with_reducible exact Ext.refl _ | with_reducible assumption | with_reducible refine Ext.set ?_ ?_ _ _ | with_reducible refine Ext.alloc ?_ _ | with_reducible refine Ext.drew ?_ | with_reducible refine Ext.drewN ?_ _ | with_reducible refine Ext.trans ?_ (by with_reducible assumption) | omega | (simp; done) | (simp; omega))⟩

end Go.Proofs.Ytbfbdhjeoknjkaa
