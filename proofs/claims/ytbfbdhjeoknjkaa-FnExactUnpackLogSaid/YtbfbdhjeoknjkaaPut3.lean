/-
  l2Seats, walked.
-/
import Derived.Test.YtbfbdhjeoknjkaaMg5
namespace Go.Proofs.Ytbfbdhjeoknjkaa
open Go.RowKit

set_option maxRecDepth 100000 in
set_option maxHeartbeats 4000000 in
theorem l2Seats_s (v : Value) (l : List SeatD) (t : SeatD) (w : World) (B : Nat) (hr : R_SeatS w B v l) (hB : B ≤ w.heap.size) (hn : l.length ≤ 1048576) :
    Calls Try.prog 143 #[v, .agg #[.int .i64 t.client, .int .i64 t.req, .int .i64 t.answer]] w fun e w' => ∃ v', e = .returned v' ∧ O_SeatS w' w.heap.size w'.heap.size v' (l2K SeatD.client t false l) ∧ Ext w w' := by
  obtain ⟨A, n, c, rfl, hl, -, -, hr⟩ := hr
  obtain ⟨i0, hi0, hz0, hz1, hz2⟩ := info_parts info_Seat
  rw [hl] at hn
  have Hl := Lib.hid hl
  clear hl
  have Hone := Lib.hid (oneCell_Seat [t])
  obtain ⟨res, hres⟩ : ∃ res, l2K SeatD.client t false l = res := ⟨_, rfl⟩
  rw [hres]
  have hX : Ext w (w.alloc (.cells #[.int .i64 t.client, .int .i64 t.req, .int .i64 t.answer] 88)) := (Ext.refl w).alloc _
  have q0 : (w.alloc (.cells #[.int .i64 t.client, .int .i64 t.req, .int .i64 t.answer] 88)).cell? ⟨w.heap.size, 0, none⟩ = some (.int .i64 t.client) := new_box w _ #[.int .i64 t.client, .int .i64 t.req, .int .i64 t.answer] _ 0 _ (by simp) rfl
  have q1 : (w.alloc (.cells #[.int .i64 t.client, .int .i64 t.req, .int .i64 t.answer] 88)).cell? ⟨w.heap.size, 1, none⟩ = some (.int .i64 t.req) := new_box w _ #[.int .i64 t.client, .int .i64 t.req, .int .i64 t.answer] _ 1 _ (by simp) rfl
  have q2 : (w.alloc (.cells #[.int .i64 t.client, .int .i64 t.req, .int .i64 t.answer] 88)).cell? ⟨w.heap.size, 2, none⟩ = some (.int .i64 t.answer) := new_box w _ #[.int .i64 t.client, .int .i64 t.req, .int .i64 t.answer] _ 2 _ (by simp) rfl
  have hzW : w.heap.size < (w.alloc (.cells #[.int .i64 t.client, .int .i64 t.req, .int .i64 t.answer] 88)).heap.size := by simp
  go_enter Try.func143, Try.ntmps143
  go_wp2
  generalize (w.alloc (.cells #[.int .i64 t.client, .int .i64 t.req, .int .i64 t.answer] 88)) = W0 at *
  go_loopw [5, 6, 7] (fun ov pv iv wr => ∃ (i m : Nat) (A' : Option Addr) (c' : Nat) (b : Bool) (L : List SeatD), i ≤ n ∧ m ≤ 2 * i ∧ iv = .int .i64 i ∧ pv = .bool b ∧ ov = .slice A' m c' ∧ Hid (L.length = m) ∧ Own wr W0.heap.size wr.heap.size 88 3 (.slice A' m c') m (L.flatMap eSeat) ∧ Hid (L ++ l2K SeatD.client t b (l.drop i) = res) ∧ Ext W0 wr) (fun _ _ iv _ => n - (intOf iv).toNat)
  case atStart => exact ⟨0, 0, _, 0, false, [], by omega, by omega, rfl, rfl, rfl, rfl, Own.nil _ _ _ _ _ _, hres, by repeat' (first | with_reducible exact Ext.refl _ | with_reducible assumption | with_reducible refine Ext.set ?_ ?_ _ _ | with_reducible refine Ext.alloc ?_ _ | with_reducible refine Ext.drew ?_ | with_reducible refine Ext.drewN ?_ _ | with_reducible refine Ext.trans ?_ (by with_reducible assumption) | omega | (simp; done) | (simp; omega))⟩
  case round =>
    obtain ⟨i, m, A', c', b, L, hi, hm2, rfl, rfl, rfl, hLl, hown, hgo, hext⟩ := hrel
    have hz3 := hext.size
    have hzX := hX.size
    have p0 := hext.cellAt q0
    have p1 := hext.cellAt q1
    have p2 := hext.cellAt q2
    by_cases hlt : i < n
    · obtain ⟨b0, off, x, rfl, hb0, hx1, hc0, hc1, hc2⟩ := ((hX.trans hext).rd hr hB).Seat Hl.out hlt
      have hstep := hgo.out
      rw [drop_cons hx1, l2K] at hstep
      have Hstep := Lib.hid hstep
      have hbw : b0 < wr.heap.size := by omega
      have hbw0 : b0 < W0.heap.size := by omega
      clear hstep hx1 hgo
      cases b with
      | true =>
        by_cases he : x.client = t.client
        · have he1 : (x.client != t.client) = false := by simp [he]
          have hs2 : Hid (L ++ l2K SeatD.client t true (l.drop (i + 1)) = res) := by
            show _ = _
            rw [← Hstep.out]
            simp [he]
          clear he
          go_wp2_with fail
          go_quiet (fail)
          skip
          have hQ : Ext wr (wr.drewN nq) := (Ext.refl _).drewN _
          have o1q : Own (wr.drewN nq) W0.heap.size (wr.drewN nq).heap.size 88 3 (.slice A' m c') m (L.flatMap eSeat) := hQ.own hown (Nat.le_refl _)
          have hE1q := hext.trans hQ
          replace p0 := hQ.cellAt p0
          replace p1 := hQ.cellAt p1
          replace p2 := hQ.cellAt p2
          replace hc0 := hQ.cellAt hc0
          replace hc1 := hQ.cellAt hc1
          replace hc2 := hQ.cellAt hc2
          replace hbw := Nat.lt_of_lt_of_le hbw hQ.size
          have hzq1 := hQ.size
          clear hQ hown
          generalize wr.drewN nq = wq1 at *
          clear nq
          go_wp2_with fail
          go_quiet (fail)
          skip
          have hQ : Ext wq1 (wq1.drewN nq) := (Ext.refl _).drewN _
          have o2q : Own (wq1.drewN nq) W0.heap.size (wq1.drewN nq).heap.size 88 3 (.slice A' m c') m (L.flatMap eSeat) := hQ.own o1q (Nat.le_refl _)
          have hE2q := hE1q.trans hQ
          replace p0 := hQ.cellAt p0
          replace p1 := hQ.cellAt p1
          replace p2 := hQ.cellAt p2
          replace hc0 := hQ.cellAt hc0
          replace hc1 := hQ.cellAt hc1
          replace hc2 := hQ.cellAt hc2
          replace hbw := Nat.lt_of_lt_of_le hbw hQ.size
          have hzq2 := hQ.size
          clear hQ o1q
          generalize wq1.drewN nq = wq2 at *
          clear nq
          go_wp2
          go_roundw
          case rel => exact ⟨i + 1, m, A', c', true, L, by omega, by omega, by go_num, rfl, rfl, hLl, o2q, hs2, hE2q⟩
          case measure => simp [intOf]; omega
        · have he1 : (x.client != t.client) = true := by simpa using he
          have hs2 : Hid ((L ++ [x]) ++ l2K SeatD.client t true (l.drop (i + 1)) = res) := by
            show _ = _
            rw [← Hstep.out]
            simp [he]
          have He := Lib.hid he
          clear he
          go_wp2_with fail
          go_quiet (fail)
          skip
          have hQ : Ext wr (wr.drewN nq) := (Ext.refl _).drewN _
          have o1q : Own (wr.drewN nq) W0.heap.size (wr.drewN nq).heap.size 88 3 (.slice A' m c') m (L.flatMap eSeat) := hQ.own hown (Nat.le_refl _)
          have hE1q := hext.trans hQ
          replace p0 := hQ.cellAt p0
          replace p1 := hQ.cellAt p1
          replace p2 := hQ.cellAt p2
          replace hc0 := hQ.cellAt hc0
          replace hc1 := hQ.cellAt hc1
          replace hc2 := hQ.cellAt hc2
          replace hbw := Nat.lt_of_lt_of_le hbw hQ.size
          have hzq1 := hQ.size
          clear hQ hown
          generalize wr.drewN nq = wq1 at *
          clear nq
          go_wp2_with fail
          go_quiet (fail)
          skip
          have hQ : Ext wq1 (wq1.drewN nq) := (Ext.refl _).drewN _
          have o2q : Own (wq1.drewN nq) W0.heap.size (wq1.drewN nq).heap.size 88 3 (.slice A' m c') m (L.flatMap eSeat) := hQ.own o1q (Nat.le_refl _)
          have hE2q := hE1q.trans hQ
          replace p0 := hQ.cellAt p0
          replace p1 := hQ.cellAt p1
          replace p2 := hQ.cellAt p2
          replace hc0 := hQ.cellAt hc0
          replace hc1 := hQ.cellAt hc1
          replace hc2 := hQ.cellAt hc2
          replace hbw := Nat.lt_of_lt_of_le hbw hQ.size
          have hzq2 := hQ.size
          clear hQ o1q
          generalize wq1.drewN nq = wq2 at *
          clear nq
          go_wp2_with (at_builtin; refine wpList_app _ rfl _ _ 37 rfl 88 i0 _ 3 24 Try.underlying37 hi0 hz0 hz1 hz2 rfl (by omega) W0.heap.size wq2.heap.size (.slice A' m c') m _ rfl (((Ext.refl wq2).alloc _).own o2q (Nat.le_refl _)) (by simp; omega) (by simp) (wq2.heap.size + 1) (some ⟨wq2.heap.size, 0, none⟩) 1 1 (eSeat x) rfl (own_made wq2 #[.int .i64 x.client, .int .i64 x.req, .int .i64 x.answer] 1 88 3 (by unfold maxLen; omega) rfl).rd.2.2.2 (fun u hu => oneCell_Seat [x] u (by simpa using hu)) (by unfold maxLen; omega) (by omega) ?_)
          intro A3 c3 wq3 o3q hb3
          have hE3q : Ext W0 wq3 := (hE2q.alloc _).grown hb3 (fun g h => (o2q.lt g h).1)
          have hL3 : Hid ((L ++ [x]).length = (m + 1)) := by show _ = _; rw [List.length_append, hLl.out]; rfl
          replace o3q : Own wq3 W0.heap.size wq3.heap.size 88 3 (.slice A3 (m + 1) c3) (m + 1) ((L ++ [x]).flatMap eSeat) := by rw [List.flatMap_append]; simpa using o3q
          have hzq3 := hE3q.size
          replace p0 := hE3q.cellAt q0; replace p1 := hE3q.cellAt q1; replace p2 := hE3q.cellAt q2
          replace hc0 := ((hE3q.look.1 b0 _ hbw0).trans (hE2q.look.1 b0 _ hbw0).symm).trans hc0; replace hc1 := ((hE3q.look.1 b0 _ hbw0).trans (hE2q.look.1 b0 _ hbw0).symm).trans hc1; replace hc2 := ((hE3q.look.1 b0 _ hbw0).trans (hE2q.look.1 b0 _ hbw0).symm).trans hc2
          have hbw3 : b0 < wq3.heap.size := by omega
          replace hbw := hbw3
          clear hb3 o2q
          go_wp2
          go_roundw
          case rel => exact ⟨i + 1, (m + 1), A3, c3, true, (L ++ [x]), by omega, by omega, by go_num, rfl, rfl, hL3, o3q, hs2, hE3q⟩
          case measure => simp [intOf]; omega
      | false =>
        by_cases hge : t.client ≤ x.client
        · have hge1 : decide (t.client ≤ x.client) = true := by simpa using hge
          by_cases he : x.client = t.client
          · have he1 : (x.client != t.client) = false := by simp [he]
            have hs2 : Hid ((L ++ [t]) ++ l2K SeatD.client t true (l.drop (i + 1)) = res) := by
              show _ = _
              rw [← Hstep.out]
              simp [he]
            clear he
            go_wp2_with fail
            go_quiet (fail)
            skip
            have hQ : Ext wr (wr.drewN nq) := (Ext.refl _).drewN _
            have o1q : Own (wr.drewN nq) W0.heap.size (wr.drewN nq).heap.size 88 3 (.slice A' m c') m (L.flatMap eSeat) := hQ.own hown (Nat.le_refl _)
            have hE1q := hext.trans hQ
            replace p0 := hQ.cellAt p0
            replace p1 := hQ.cellAt p1
            replace p2 := hQ.cellAt p2
            replace hc0 := hQ.cellAt hc0
            replace hc1 := hQ.cellAt hc1
            replace hc2 := hQ.cellAt hc2
            replace hbw := Nat.lt_of_lt_of_le hbw hQ.size
            have hzq1 := hQ.size
            clear hQ hown
            generalize wr.drewN nq = wq1 at *
            clear nq
            go_wp2_with (at_builtin; refine wpList_app _ rfl _ _ 37 rfl 88 i0 _ 3 24 Try.underlying37 hi0 hz0 hz1 hz2 rfl (by omega) W0.heap.size wq1.heap.size (.slice A' m c') m _ rfl (((Ext.refl wq1).alloc _).own o1q (Nat.le_refl _)) (by simp; omega) (by simp) (wq1.heap.size + 1) (some ⟨wq1.heap.size, 0, none⟩) 1 1 (eSeat t) rfl (own_made wq1 #[.int .i64 t.client, .int .i64 t.req, .int .i64 t.answer] 1 88 3 (by unfold maxLen; omega) rfl).rd.2.2.2 (fun u hu => oneCell_Seat [t] u (by simpa using hu)) (by unfold maxLen; omega) (by omega) ?_)
            intro A2 c2 wq2 o2q hb2
            have hE2q : Ext W0 wq2 := (hE1q.alloc _).grown hb2 (fun g h => (o1q.lt g h).1)
            have hL2 : Hid ((L ++ [t]).length = (m + 1)) := by show _ = _; rw [List.length_append, hLl.out]; rfl
            replace o2q : Own wq2 W0.heap.size wq2.heap.size 88 3 (.slice A2 (m + 1) c2) (m + 1) ((L ++ [t]).flatMap eSeat) := by rw [List.flatMap_append]; simpa using o2q
            have hzq2 := hE2q.size
            replace p0 := hE2q.cellAt q0; replace p1 := hE2q.cellAt q1; replace p2 := hE2q.cellAt q2
            replace hc0 := ((hE2q.look.1 b0 _ hbw0).trans (hE1q.look.1 b0 _ hbw0).symm).trans hc0; replace hc1 := ((hE2q.look.1 b0 _ hbw0).trans (hE1q.look.1 b0 _ hbw0).symm).trans hc1; replace hc2 := ((hE2q.look.1 b0 _ hbw0).trans (hE1q.look.1 b0 _ hbw0).symm).trans hc2
            have hbw2 : b0 < wq2.heap.size := by omega
            replace hbw := hbw2
            clear hb2 o1q
            go_wp2_with fail
            go_quiet (fail)
            skip
            have hQ : Ext wq2 (wq2.drewN nq) := (Ext.refl _).drewN _
            have o3q : Own (wq2.drewN nq) W0.heap.size (wq2.drewN nq).heap.size 88 3 (.slice A2 (m + 1) c2) (m + 1) ((L ++ [t]).flatMap eSeat) := hQ.own o2q (Nat.le_refl _)
            have hE3q := hE2q.trans hQ
            replace p0 := hQ.cellAt p0
            replace p1 := hQ.cellAt p1
            replace p2 := hQ.cellAt p2
            replace hc0 := hQ.cellAt hc0
            replace hc1 := hQ.cellAt hc1
            replace hc2 := hQ.cellAt hc2
            replace hbw := Nat.lt_of_lt_of_le hbw hQ.size
            have hzq3 := hQ.size
            clear hQ o2q
            generalize wq2.drewN nq = wq3 at *
            clear nq
            go_wp2
            go_roundw
            case rel => exact ⟨i + 1, (m + 1), A2, c2, true, (L ++ [t]), by omega, by omega, by go_num, rfl, rfl, hL2, o3q, hs2, hE3q⟩
            case measure => simp [intOf]; omega
          · have he1 : (x.client != t.client) = true := by simpa using he
            have hs2 : Hid ((L ++ [t] ++ [x]) ++ l2K SeatD.client t true (l.drop (i + 1)) = res) := by
              show _ = _
              rw [← Hstep.out]
              simp [he, hge]
            have He := Lib.hid he
            clear he
            go_wp2_with fail
            go_quiet (fail)
            skip
            have hQ : Ext wr (wr.drewN nq) := (Ext.refl _).drewN _
            have o1q : Own (wr.drewN nq) W0.heap.size (wr.drewN nq).heap.size 88 3 (.slice A' m c') m (L.flatMap eSeat) := hQ.own hown (Nat.le_refl _)
            have hE1q := hext.trans hQ
            replace p0 := hQ.cellAt p0
            replace p1 := hQ.cellAt p1
            replace p2 := hQ.cellAt p2
            replace hc0 := hQ.cellAt hc0
            replace hc1 := hQ.cellAt hc1
            replace hc2 := hQ.cellAt hc2
            replace hbw := Nat.lt_of_lt_of_le hbw hQ.size
            have hzq1 := hQ.size
            clear hQ hown
            generalize wr.drewN nq = wq1 at *
            clear nq
            go_wp2_with (at_builtin; refine wpList_app _ rfl _ _ 37 rfl 88 i0 _ 3 24 Try.underlying37 hi0 hz0 hz1 hz2 rfl (by omega) W0.heap.size wq1.heap.size (.slice A' m c') m _ rfl (((Ext.refl wq1).alloc _).own o1q (Nat.le_refl _)) (by simp; omega) (by simp) (wq1.heap.size + 1) (some ⟨wq1.heap.size, 0, none⟩) 1 1 (eSeat t) rfl (own_made wq1 #[.int .i64 t.client, .int .i64 t.req, .int .i64 t.answer] 1 88 3 (by unfold maxLen; omega) rfl).rd.2.2.2 (fun u hu => oneCell_Seat [t] u (by simpa using hu)) (by unfold maxLen; omega) (by omega) ?_)
            intro A2 c2 wq2 o2q hb2
            have hE2q : Ext W0 wq2 := (hE1q.alloc _).grown hb2 (fun g h => (o1q.lt g h).1)
            have hL2 : Hid ((L ++ [t]).length = (m + 1)) := by show _ = _; rw [List.length_append, hLl.out]; rfl
            replace o2q : Own wq2 W0.heap.size wq2.heap.size 88 3 (.slice A2 (m + 1) c2) (m + 1) ((L ++ [t]).flatMap eSeat) := by rw [List.flatMap_append]; simpa using o2q
            have hzq2 := hE2q.size
            replace p0 := hE2q.cellAt q0; replace p1 := hE2q.cellAt q1; replace p2 := hE2q.cellAt q2
            replace hc0 := ((hE2q.look.1 b0 _ hbw0).trans (hE1q.look.1 b0 _ hbw0).symm).trans hc0; replace hc1 := ((hE2q.look.1 b0 _ hbw0).trans (hE1q.look.1 b0 _ hbw0).symm).trans hc1; replace hc2 := ((hE2q.look.1 b0 _ hbw0).trans (hE1q.look.1 b0 _ hbw0).symm).trans hc2
            have hbw2 : b0 < wq2.heap.size := by omega
            replace hbw := hbw2
            clear hb2 o1q
            go_wp2_with fail
            go_quiet (fail)
            skip
            have hQ : Ext wq2 (wq2.drewN nq) := (Ext.refl _).drewN _
            have o3q : Own (wq2.drewN nq) W0.heap.size (wq2.drewN nq).heap.size 88 3 (.slice A2 (m + 1) c2) (m + 1) ((L ++ [t]).flatMap eSeat) := hQ.own o2q (Nat.le_refl _)
            have hE3q := hE2q.trans hQ
            replace p0 := hQ.cellAt p0
            replace p1 := hQ.cellAt p1
            replace p2 := hQ.cellAt p2
            replace hc0 := hQ.cellAt hc0
            replace hc1 := hQ.cellAt hc1
            replace hc2 := hQ.cellAt hc2
            replace hbw := Nat.lt_of_lt_of_le hbw hQ.size
            have hzq3 := hQ.size
            clear hQ o2q
            generalize wq2.drewN nq = wq3 at *
            clear nq
            go_wp2_with (at_builtin; refine wpList_app _ rfl _ _ 37 rfl 88 i0 _ 3 24 Try.underlying37 hi0 hz0 hz1 hz2 rfl (by omega) W0.heap.size wq3.heap.size (.slice A2 (m + 1) c2) (m + 1) _ rfl (((Ext.refl wq3).alloc _).own o3q (Nat.le_refl _)) (by simp; omega) (by simp) (wq3.heap.size + 1) (some ⟨wq3.heap.size, 0, none⟩) 1 1 (eSeat x) rfl (own_made wq3 #[.int .i64 x.client, .int .i64 x.req, .int .i64 x.answer] 1 88 3 (by unfold maxLen; omega) rfl).rd.2.2.2 (fun u hu => oneCell_Seat [x] u (by simpa using hu)) (by unfold maxLen; omega) (by omega) ?_)
            intro A4 c4 wq4 o4q hb4
            have hE4q : Ext W0 wq4 := (hE3q.alloc _).grown hb4 (fun g h => (o3q.lt g h).1)
            have hL4 : Hid (((L ++ [t]) ++ [x]).length = ((m + 1) + 1)) := by show _ = _; rw [List.length_append, hL2.out]; rfl
            replace o4q : Own wq4 W0.heap.size wq4.heap.size 88 3 (.slice A4 ((m + 1) + 1) c4) ((m + 1) + 1) (((L ++ [t]) ++ [x]).flatMap eSeat) := by rw [List.flatMap_append]; simpa using o4q
            have hzq4 := hE4q.size
            replace p0 := hE4q.cellAt q0; replace p1 := hE4q.cellAt q1; replace p2 := hE4q.cellAt q2
            replace hc0 := ((hE4q.look.1 b0 _ hbw0).trans (hE3q.look.1 b0 _ hbw0).symm).trans hc0; replace hc1 := ((hE4q.look.1 b0 _ hbw0).trans (hE3q.look.1 b0 _ hbw0).symm).trans hc1; replace hc2 := ((hE4q.look.1 b0 _ hbw0).trans (hE3q.look.1 b0 _ hbw0).symm).trans hc2
            have hbw4 : b0 < wq4.heap.size := by omega
            replace hbw := hbw4
            clear hb4 o3q
            go_wp2
            go_roundw
            case rel => exact ⟨i + 1, ((m + 1) + 1), A4, c4, true, ((L ++ [t]) ++ [x]), by omega, by omega, by go_num, rfl, rfl, hL4, o4q, hs2, hE4q⟩
            case measure => simp [intOf]; omega
        · have he1 : (x.client != t.client) = true := by simp; omega
          have hs2 : Hid ((L ++ [x]) ++ l2K SeatD.client t false (l.drop (i + 1)) = res) := by
            show _ = _
            rw [← Hstep.out]
            have h1 : x.client ≠ t.client := by omega
            simp [hge, h1]
          have hge1 : decide (t.client ≤ x.client) = false := by simpa using hge
          have hlt2 : x.client < t.client := by omega
          go_wp2_with fail
          go_quiet (fail)
          skip
          have hQ : Ext wr (wr.drewN nq) := (Ext.refl _).drewN _
          have o1q : Own (wr.drewN nq) W0.heap.size (wr.drewN nq).heap.size 88 3 (.slice A' m c') m (L.flatMap eSeat) := hQ.own hown (Nat.le_refl _)
          have hE1q := hext.trans hQ
          replace p0 := hQ.cellAt p0
          replace p1 := hQ.cellAt p1
          replace p2 := hQ.cellAt p2
          replace hc0 := hQ.cellAt hc0
          replace hc1 := hQ.cellAt hc1
          replace hc2 := hQ.cellAt hc2
          replace hbw := Nat.lt_of_lt_of_le hbw hQ.size
          have hzq1 := hQ.size
          clear hQ hown
          generalize wr.drewN nq = wq1 at *
          clear nq
          go_wp2_with fail
          go_quiet (fail)
          skip
          have hQ : Ext wq1 (wq1.drewN nq) := (Ext.refl _).drewN _
          have o2q : Own (wq1.drewN nq) W0.heap.size (wq1.drewN nq).heap.size 88 3 (.slice A' m c') m (L.flatMap eSeat) := hQ.own o1q (Nat.le_refl _)
          have hE2q := hE1q.trans hQ
          replace p0 := hQ.cellAt p0
          replace p1 := hQ.cellAt p1
          replace p2 := hQ.cellAt p2
          replace hc0 := hQ.cellAt hc0
          replace hc1 := hQ.cellAt hc1
          replace hc2 := hQ.cellAt hc2
          replace hbw := Nat.lt_of_lt_of_le hbw hQ.size
          have hzq2 := hQ.size
          clear hQ o1q
          generalize wq1.drewN nq = wq2 at *
          clear nq
          go_wp2_with (at_builtin; refine wpList_app _ rfl _ _ 37 rfl 88 i0 _ 3 24 Try.underlying37 hi0 hz0 hz1 hz2 rfl (by omega) W0.heap.size wq2.heap.size (.slice A' m c') m _ rfl (((Ext.refl wq2).alloc _).own o2q (Nat.le_refl _)) (by simp; omega) (by simp) (wq2.heap.size + 1) (some ⟨wq2.heap.size, 0, none⟩) 1 1 (eSeat x) rfl (own_made wq2 #[.int .i64 x.client, .int .i64 x.req, .int .i64 x.answer] 1 88 3 (by unfold maxLen; omega) rfl).rd.2.2.2 (fun u hu => oneCell_Seat [x] u (by simpa using hu)) (by unfold maxLen; omega) (by omega) ?_)
          intro A3 c3 wq3 o3q hb3
          have hE3q : Ext W0 wq3 := (hE2q.alloc _).grown hb3 (fun g h => (o2q.lt g h).1)
          have hL3 : Hid ((L ++ [x]).length = (m + 1)) := by show _ = _; rw [List.length_append, hLl.out]; rfl
          replace o3q : Own wq3 W0.heap.size wq3.heap.size 88 3 (.slice A3 (m + 1) c3) (m + 1) ((L ++ [x]).flatMap eSeat) := by rw [List.flatMap_append]; simpa using o3q
          have hzq3 := hE3q.size
          replace p0 := hE3q.cellAt q0; replace p1 := hE3q.cellAt q1; replace p2 := hE3q.cellAt q2
          replace hc0 := ((hE3q.look.1 b0 _ hbw0).trans (hE2q.look.1 b0 _ hbw0).symm).trans hc0; replace hc1 := ((hE3q.look.1 b0 _ hbw0).trans (hE2q.look.1 b0 _ hbw0).symm).trans hc1; replace hc2 := ((hE3q.look.1 b0 _ hbw0).trans (hE2q.look.1 b0 _ hbw0).symm).trans hc2
          have hbw3 : b0 < wq3.heap.size := by omega
          replace hbw := hbw3
          clear hb3 o2q
          go_wp2
          go_roundw
          case rel => exact ⟨i + 1, (m + 1), A3, c3, false, (L ++ [x]), by omega, by omega, by go_num, rfl, rfl, hL3, o3q, hs2, hE3q⟩
          case measure => simp [intOf]; omega
    · obtain rfl : i = n := by omega
      have hend := hgo.out
      rw [List.drop_of_length_le (by rw [Hl.out]; omega), l2K] at hend
      have Hend := Lib.hid hend
      clear hend hgo
      cases b with
      | true =>
        go_wp2
        go_ret
        rw [← Hend.out]
        simp only [if_true, List.append_nil]
        exact ⟨_, rfl, OwnS.wide (OwnS.of hown hLl.out) (by omega) (Nat.le_refl _), hX.trans hext⟩
      | false =>
        go_wp2_with (at_builtin; refine wpList_app _ rfl _ _ 37 rfl 88 i0 _ 3 24 Try.underlying37 hi0 hz0 hz1 hz2 rfl (by omega) W0.heap.size wr.heap.size (.slice A' m c') m _ rfl (((Ext.refl wr).alloc _).own hown (Nat.le_refl _)) (by simp; omega) (by simp) (wr.heap.size + 1) (some ⟨wr.heap.size, 0, none⟩) 1 1 (eSeat t) rfl (own_made wr #[.int .i64 t.client, .int .i64 t.req, .int .i64 t.answer] 1 88 3 (by unfold maxLen; omega) rfl).rd.2.2.2 (fun u hu => oneCell_Seat [t] u (by simpa using hu)) (by unfold maxLen; omega) (by omega) ?_)
        intro A1 c1 wq1 o1q hb1
        have hE1q : Ext W0 wq1 := (hext.alloc _).grown hb1 (fun g h => (hown.lt g h).1)
        have hL1 : Hid ((L ++ [t]).length = (m + 1)) := by show _ = _; rw [List.length_append, hLl.out]; rfl
        replace o1q : Own wq1 W0.heap.size wq1.heap.size 88 3 (.slice A1 (m + 1) c1) (m + 1) ((L ++ [t]).flatMap eSeat) := by rw [List.flatMap_append]; simpa using o1q
        have hzq1 := hE1q.size
        replace p0 := hE1q.cellAt q0; replace p1 := hE1q.cellAt q1; replace p2 := hE1q.cellAt q2
        clear hb1 hown
        go_wp2
        go_ret
        rw [← Hend.out]
        simp only [Bool.false_eq_true, if_false]
        exact ⟨_, rfl, OwnS.wide (OwnS.of o1q hL1.out) (by omega) (Nat.le_refl _), hX.trans hE1q⟩
end Go.Proofs.Ytbfbdhjeoknjkaa
