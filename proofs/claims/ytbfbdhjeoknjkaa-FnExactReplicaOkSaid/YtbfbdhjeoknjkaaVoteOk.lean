/-
  A vote that is well formed, on both sides.
-/
import Derived.Test.YtbfbdhjeoknjkaaVote
import Derived.Test.YtbfbdhjeoknjkaaNewRep
namespace Go.Proofs.Ytbfbdhjeoknjkaa
open Go.RowKit

def kindB (k : Int) : Bool := k == 3 || k == 5 || k == 6 || k == 9
def voteB (of : Int) (m : VoteD) : Bool := kindB m.kind && (inB m.frm 0 (of - 1) && (wholeB m.view && (wholeB m.normal && (wholeB m.op && hasNum m.log m.commit))))
theorem kind_no {k : Int} (h : kindB k = false) : (k == 3) = false ∧ (k == 5) = false ∧ (k == 6) = false ∧ (k == 9) = false := by
  simp only [kindB, Bool.or_eq_false_iff] at h
  exact ⟨h.1.1.1, h.1.1.2, h.1.2, h.2⟩
theorem kind_yes {k : Int} (h : kindB k = true) : k = 3 ∨ k = 5 ∨ k = 6 ∨ k = 9 := by
  simp only [kindB, Bool.or_eq_true, beq_iff_eq] at h
  omega

set_option maxRecDepth 100000 in
set_option maxHeartbeats 8000000 in
theorem voteOk_i (v : Value) (m : VoteD) (of : Int) (w : World) (B : Nat) (h : R_Vote w B v m) (hB : B ≤ w.heap.size) (hof : ofB of = true) :
    Calls Try.prog 82 #[v, .int .i64 of] w fun e w' => e = .returned (.bool (voteB of m)) ∧ Ext w w' := by
  obtain ⟨u0, s0, t0, rfl, h0u, h0s, h0t⟩ := h
  obtain ⟨A0, n0, c0, hv0, -⟩ := id h0u
  obtain ⟨A1, n1, c1, hv1, -⟩ := id h0s
  obtain ⟨A2, n2, c2, hv2, -⟩ := id h0t
  subst hv0 hv1 hv2
  have hl0 : R_Log w B (.agg #[.int .i64 m.log.base, .slice A0 n0 c0, .slice A1 n1 c1, .slice A2 n2 c2]) m.log := ⟨_, _, _, rfl, h0u, h0s, h0t⟩
  clear h0u h0s h0t
  have ho := (ofB_iff _).1 hof
  have hwr : IntKind.i64.wrap (of - 1) = of - 1 := IntWalk.i64_in _ (by omega)
  clear ho hof
  have hW0 : Ext w (w.alloc (.cells #[.int .i64 m.kind, .int .i64 m.frm, .int .i64 m.view, .int .i64 m.normal, .int .i64 m.op, .int .i64 m.commit, .int .i64 m.log.base, .slice A0 n0 c0, .slice A1 n1 c1, .slice A2 n2 c2] 119)) := by repeat' (first | with_reducible exact Ext.refl _ | with_reducible assumption | with_reducible refine Ext.set ?_ ?_ _ _ | with_reducible refine Ext.alloc ?_ _ | with_reducible refine Ext.drew ?_ | with_reducible refine Ext.drewN ?_ _ | with_reducible refine Ext.trans ?_ (by with_reducible assumption) | omega | (simp; done) | (simp; omega))
  have zW0 : w.heap.size + 1 ≤ (w.alloc (.cells #[.int .i64 m.kind, .int .i64 m.frm, .int .i64 m.view, .int .i64 m.normal, .int .i64 m.op, .int .i64 m.commit, .int .i64 m.log.base, .slice A0 n0 c0, .slice A1 n1 c1, .slice A2 n2 c2] 119)).heap.size := by simp
  have x : Blk (w.alloc (.cells #[.int .i64 m.kind, .int .i64 m.frm, .int .i64 m.view, .int .i64 m.normal, .int .i64 m.op, .int .i64 m.commit, .int .i64 m.log.base, .slice A0 n0 c0, .slice A1 n1 c1, .slice A2 n2 c2] 119)) w.heap.size 119 [.int .i64 m.kind, .int .i64 m.frm, .int .i64 m.view, .int .i64 m.normal, .int .i64 m.op, .int .i64 m.commit, .int .i64 m.log.base, .slice A0 n0 c0, .slice A1 n1 c1, .slice A2 n2 c2] := (Blk.new w #[.int .i64 m.kind, .int .i64 m.frm, .int .i64 m.view, .int .i64 m.normal, .int .i64 m.op, .int .i64 m.commit, .int .i64 m.log.base, .slice A0 n0 c0, .slice A1 n1 c1, .slice A2 n2 c2] 119 (by first | rfl | simp))
  unfold voteB
  obtain ⟨kb, hkb⟩ : ∃ b, kindB m.kind = b := ⟨_, rfl⟩
  rw [hkb]
  cases kb with
  | false =>
    obtain ⟨n3, n5, n6, n9⟩ := kind_no hkb
    clear hkb
    go_enter Try.func82, Try.ntmps82
    go_upto_region 1 with (fail)
    generalize (w.alloc (.cells #[.int .i64 m.kind, .int .i64 m.frm, .int .i64 m.view, .int .i64 m.normal, .int .i64 m.op, .int .i64 m.commit, .int .i64 m.log.base, .slice A0 n0 c0, .slice A1 n1 c1, .slice A2 n2 c2] 119)) = W0 at *
    obtain ⟨x_p0, x_f0⟩ := x.at 0 _ rfl
    obtain ⟨x_p1, x_f1⟩ := x.at 1 _ rfl
    obtain ⟨x_p2, x_f2⟩ := x.at 2 _ rfl
    obtain ⟨x_p3, x_f3⟩ := x.at 3 _ rfl
    obtain ⟨x_p4, x_f4⟩ := x.at 4 _ rfl
    obtain ⟨x_p5, x_f5⟩ := x.at 5 _ rfl
    obtain ⟨x_p6, x_f6⟩ := x.at 6 _ rfl
    obtain ⟨x_p7, x_f7⟩ := x.at 7 _ rfl
    obtain ⟨x_p8, x_f8⟩ := x.at 8 _ rfl
    obtain ⟨x_p9, x_f9⟩ := x.at 9 _ rfl
    go_wp2_with (first | (go_at_call 77; refine (from_any _ _ _ _).mono ?_; rintro e w9 ⟨rfl, rfl⟩) | (go_at_call 78; refine (isWhole_any _ _).mono ?_; rintro e w9 ⟨rfl, rfl⟩))
    go_ret
    exact ⟨rfl, by repeat' (first | with_reducible exact Ext.refl _ | with_reducible assumption | with_reducible refine Ext.set ?_ ?_ _ _ | with_reducible refine Ext.alloc ?_ _ | with_reducible refine Ext.drew ?_ | with_reducible refine Ext.drewN ?_ _ | with_reducible refine Ext.trans ?_ (by with_reducible assumption) | omega | (simp; done) | (simp; omega))⟩
  | true =>
    have hkk := kind_yes hkb
    clear hkb
    obtain ⟨b1, hb1⟩ : ∃ b, inB m.frm 0 (of - 1) = b := ⟨_, rfl⟩
    rw [hb1]
    cases b1 with
    | false =>
      rcases hkk with ek | ek | ek | ek
      · skip
        have Ek := Lib.hid ek
        clear ek
        go_enter Try.func82, Try.ntmps82
        go_upto_region 1 with (fail)
        generalize (w.alloc (.cells #[.int .i64 m.kind, .int .i64 m.frm, .int .i64 m.view, .int .i64 m.normal, .int .i64 m.op, .int .i64 m.commit, .int .i64 m.log.base, .slice A0 n0 c0, .slice A1 n1 c1, .slice A2 n2 c2] 119)) = W0 at *
        rw [Ek.out] at x
        clear Ek
        obtain ⟨x_p0, x_f0⟩ := x.at 0 _ rfl
        obtain ⟨x_p1, x_f1⟩ := x.at 1 _ rfl
        obtain ⟨x_p2, x_f2⟩ := x.at 2 _ rfl
        obtain ⟨x_p3, x_f3⟩ := x.at 3 _ rfl
        obtain ⟨x_p4, x_f4⟩ := x.at 4 _ rfl
        obtain ⟨x_p5, x_f5⟩ := x.at 5 _ rfl
        obtain ⟨x_p6, x_f6⟩ := x.at 6 _ rfl
        obtain ⟨x_p7, x_f7⟩ := x.at 7 _ rfl
        obtain ⟨x_p8, x_f8⟩ := x.at 8 _ rfl
        obtain ⟨x_p9, x_f9⟩ := x.at 9 _ rfl
        go_wp2_with (first | (go_at_call 77; refine (from_any _ _ _ _).mono ?_; rintro e w9 ⟨rfl, rfl⟩) | (go_at_call 78; refine (isWhole_any _ _).mono ?_; rintro e w9 ⟨rfl, rfl⟩))
        go_ret
        exact ⟨rfl, by repeat' (first | with_reducible exact Ext.refl _ | with_reducible assumption | with_reducible refine Ext.set ?_ ?_ _ _ | with_reducible refine Ext.alloc ?_ _ | with_reducible refine Ext.drew ?_ | with_reducible refine Ext.drewN ?_ _ | with_reducible refine Ext.trans ?_ (by with_reducible assumption) | omega | (simp; done) | (simp; omega))⟩
      · skip
        have Ek := Lib.hid ek
        clear ek
        go_enter Try.func82, Try.ntmps82
        go_upto_region 1 with (fail)
        generalize (w.alloc (.cells #[.int .i64 m.kind, .int .i64 m.frm, .int .i64 m.view, .int .i64 m.normal, .int .i64 m.op, .int .i64 m.commit, .int .i64 m.log.base, .slice A0 n0 c0, .slice A1 n1 c1, .slice A2 n2 c2] 119)) = W0 at *
        rw [Ek.out] at x
        clear Ek
        obtain ⟨x_p0, x_f0⟩ := x.at 0 _ rfl
        obtain ⟨x_p1, x_f1⟩ := x.at 1 _ rfl
        obtain ⟨x_p2, x_f2⟩ := x.at 2 _ rfl
        obtain ⟨x_p3, x_f3⟩ := x.at 3 _ rfl
        obtain ⟨x_p4, x_f4⟩ := x.at 4 _ rfl
        obtain ⟨x_p5, x_f5⟩ := x.at 5 _ rfl
        obtain ⟨x_p6, x_f6⟩ := x.at 6 _ rfl
        obtain ⟨x_p7, x_f7⟩ := x.at 7 _ rfl
        obtain ⟨x_p8, x_f8⟩ := x.at 8 _ rfl
        obtain ⟨x_p9, x_f9⟩ := x.at 9 _ rfl
        go_wp2_with (first | (go_at_call 77; refine (from_any _ _ _ _).mono ?_; rintro e w9 ⟨rfl, rfl⟩) | (go_at_call 78; refine (isWhole_any _ _).mono ?_; rintro e w9 ⟨rfl, rfl⟩))
        go_ret
        exact ⟨rfl, by repeat' (first | with_reducible exact Ext.refl _ | with_reducible assumption | with_reducible refine Ext.set ?_ ?_ _ _ | with_reducible refine Ext.alloc ?_ _ | with_reducible refine Ext.drew ?_ | with_reducible refine Ext.drewN ?_ _ | with_reducible refine Ext.trans ?_ (by with_reducible assumption) | omega | (simp; done) | (simp; omega))⟩
      · skip
        have Ek := Lib.hid ek
        clear ek
        go_enter Try.func82, Try.ntmps82
        go_upto_region 1 with (fail)
        generalize (w.alloc (.cells #[.int .i64 m.kind, .int .i64 m.frm, .int .i64 m.view, .int .i64 m.normal, .int .i64 m.op, .int .i64 m.commit, .int .i64 m.log.base, .slice A0 n0 c0, .slice A1 n1 c1, .slice A2 n2 c2] 119)) = W0 at *
        rw [Ek.out] at x
        clear Ek
        obtain ⟨x_p0, x_f0⟩ := x.at 0 _ rfl
        obtain ⟨x_p1, x_f1⟩ := x.at 1 _ rfl
        obtain ⟨x_p2, x_f2⟩ := x.at 2 _ rfl
        obtain ⟨x_p3, x_f3⟩ := x.at 3 _ rfl
        obtain ⟨x_p4, x_f4⟩ := x.at 4 _ rfl
        obtain ⟨x_p5, x_f5⟩ := x.at 5 _ rfl
        obtain ⟨x_p6, x_f6⟩ := x.at 6 _ rfl
        obtain ⟨x_p7, x_f7⟩ := x.at 7 _ rfl
        obtain ⟨x_p8, x_f8⟩ := x.at 8 _ rfl
        obtain ⟨x_p9, x_f9⟩ := x.at 9 _ rfl
        go_wp2_with (first | (go_at_call 77; refine (from_any _ _ _ _).mono ?_; rintro e w9 ⟨rfl, rfl⟩) | (go_at_call 78; refine (isWhole_any _ _).mono ?_; rintro e w9 ⟨rfl, rfl⟩))
        go_ret
        exact ⟨rfl, by repeat' (first | with_reducible exact Ext.refl _ | with_reducible assumption | with_reducible refine Ext.set ?_ ?_ _ _ | with_reducible refine Ext.alloc ?_ _ | with_reducible refine Ext.drew ?_ | with_reducible refine Ext.drewN ?_ _ | with_reducible refine Ext.trans ?_ (by with_reducible assumption) | omega | (simp; done) | (simp; omega))⟩
      · skip
        have Ek := Lib.hid ek
        clear ek
        go_enter Try.func82, Try.ntmps82
        go_upto_region 1 with (fail)
        generalize (w.alloc (.cells #[.int .i64 m.kind, .int .i64 m.frm, .int .i64 m.view, .int .i64 m.normal, .int .i64 m.op, .int .i64 m.commit, .int .i64 m.log.base, .slice A0 n0 c0, .slice A1 n1 c1, .slice A2 n2 c2] 119)) = W0 at *
        rw [Ek.out] at x
        clear Ek
        obtain ⟨x_p0, x_f0⟩ := x.at 0 _ rfl
        obtain ⟨x_p1, x_f1⟩ := x.at 1 _ rfl
        obtain ⟨x_p2, x_f2⟩ := x.at 2 _ rfl
        obtain ⟨x_p3, x_f3⟩ := x.at 3 _ rfl
        obtain ⟨x_p4, x_f4⟩ := x.at 4 _ rfl
        obtain ⟨x_p5, x_f5⟩ := x.at 5 _ rfl
        obtain ⟨x_p6, x_f6⟩ := x.at 6 _ rfl
        obtain ⟨x_p7, x_f7⟩ := x.at 7 _ rfl
        obtain ⟨x_p8, x_f8⟩ := x.at 8 _ rfl
        obtain ⟨x_p9, x_f9⟩ := x.at 9 _ rfl
        go_wp2_with (first | (go_at_call 77; refine (from_any _ _ _ _).mono ?_; rintro e w9 ⟨rfl, rfl⟩) | (go_at_call 78; refine (isWhole_any _ _).mono ?_; rintro e w9 ⟨rfl, rfl⟩))
        go_ret
        exact ⟨rfl, by repeat' (first | with_reducible exact Ext.refl _ | with_reducible assumption | with_reducible refine Ext.set ?_ ?_ _ _ | with_reducible refine Ext.alloc ?_ _ | with_reducible refine Ext.drew ?_ | with_reducible refine Ext.drewN ?_ _ | with_reducible refine Ext.trans ?_ (by with_reducible assumption) | omega | (simp; done) | (simp; omega))⟩
    | true =>
      obtain ⟨b2, hb2⟩ : ∃ b, wholeB m.view = b := ⟨_, rfl⟩
      rw [hb2]
      cases b2 with
      | false =>
        rcases hkk with ek | ek | ek | ek
        · skip
          have Ek := Lib.hid ek
          clear ek
          go_enter Try.func82, Try.ntmps82
          go_upto_region 1 with (fail)
          generalize (w.alloc (.cells #[.int .i64 m.kind, .int .i64 m.frm, .int .i64 m.view, .int .i64 m.normal, .int .i64 m.op, .int .i64 m.commit, .int .i64 m.log.base, .slice A0 n0 c0, .slice A1 n1 c1, .slice A2 n2 c2] 119)) = W0 at *
          rw [Ek.out] at x
          clear Ek
          obtain ⟨x_p0, x_f0⟩ := x.at 0 _ rfl
          obtain ⟨x_p1, x_f1⟩ := x.at 1 _ rfl
          obtain ⟨x_p2, x_f2⟩ := x.at 2 _ rfl
          obtain ⟨x_p3, x_f3⟩ := x.at 3 _ rfl
          obtain ⟨x_p4, x_f4⟩ := x.at 4 _ rfl
          obtain ⟨x_p5, x_f5⟩ := x.at 5 _ rfl
          obtain ⟨x_p6, x_f6⟩ := x.at 6 _ rfl
          obtain ⟨x_p7, x_f7⟩ := x.at 7 _ rfl
          obtain ⟨x_p8, x_f8⟩ := x.at 8 _ rfl
          obtain ⟨x_p9, x_f9⟩ := x.at 9 _ rfl
          go_wp2_with (first | (go_at_call 77; refine (from_any _ _ _ _).mono ?_; rintro e w9 ⟨rfl, rfl⟩) | (go_at_call 78; refine (isWhole_any _ _).mono ?_; rintro e w9 ⟨rfl, rfl⟩))
          go_ret
          exact ⟨rfl, by repeat' (first | with_reducible exact Ext.refl _ | with_reducible assumption | with_reducible refine Ext.set ?_ ?_ _ _ | with_reducible refine Ext.alloc ?_ _ | with_reducible refine Ext.drew ?_ | with_reducible refine Ext.drewN ?_ _ | with_reducible refine Ext.trans ?_ (by with_reducible assumption) | omega | (simp; done) | (simp; omega))⟩
        · skip
          have Ek := Lib.hid ek
          clear ek
          go_enter Try.func82, Try.ntmps82
          go_upto_region 1 with (fail)
          generalize (w.alloc (.cells #[.int .i64 m.kind, .int .i64 m.frm, .int .i64 m.view, .int .i64 m.normal, .int .i64 m.op, .int .i64 m.commit, .int .i64 m.log.base, .slice A0 n0 c0, .slice A1 n1 c1, .slice A2 n2 c2] 119)) = W0 at *
          rw [Ek.out] at x
          clear Ek
          obtain ⟨x_p0, x_f0⟩ := x.at 0 _ rfl
          obtain ⟨x_p1, x_f1⟩ := x.at 1 _ rfl
          obtain ⟨x_p2, x_f2⟩ := x.at 2 _ rfl
          obtain ⟨x_p3, x_f3⟩ := x.at 3 _ rfl
          obtain ⟨x_p4, x_f4⟩ := x.at 4 _ rfl
          obtain ⟨x_p5, x_f5⟩ := x.at 5 _ rfl
          obtain ⟨x_p6, x_f6⟩ := x.at 6 _ rfl
          obtain ⟨x_p7, x_f7⟩ := x.at 7 _ rfl
          obtain ⟨x_p8, x_f8⟩ := x.at 8 _ rfl
          obtain ⟨x_p9, x_f9⟩ := x.at 9 _ rfl
          go_wp2_with (first | (go_at_call 77; refine (from_any _ _ _ _).mono ?_; rintro e w9 ⟨rfl, rfl⟩) | (go_at_call 78; refine (isWhole_any _ _).mono ?_; rintro e w9 ⟨rfl, rfl⟩))
          go_ret
          exact ⟨rfl, by repeat' (first | with_reducible exact Ext.refl _ | with_reducible assumption | with_reducible refine Ext.set ?_ ?_ _ _ | with_reducible refine Ext.alloc ?_ _ | with_reducible refine Ext.drew ?_ | with_reducible refine Ext.drewN ?_ _ | with_reducible refine Ext.trans ?_ (by with_reducible assumption) | omega | (simp; done) | (simp; omega))⟩
        · skip
          have Ek := Lib.hid ek
          clear ek
          go_enter Try.func82, Try.ntmps82
          go_upto_region 1 with (fail)
          generalize (w.alloc (.cells #[.int .i64 m.kind, .int .i64 m.frm, .int .i64 m.view, .int .i64 m.normal, .int .i64 m.op, .int .i64 m.commit, .int .i64 m.log.base, .slice A0 n0 c0, .slice A1 n1 c1, .slice A2 n2 c2] 119)) = W0 at *
          rw [Ek.out] at x
          clear Ek
          obtain ⟨x_p0, x_f0⟩ := x.at 0 _ rfl
          obtain ⟨x_p1, x_f1⟩ := x.at 1 _ rfl
          obtain ⟨x_p2, x_f2⟩ := x.at 2 _ rfl
          obtain ⟨x_p3, x_f3⟩ := x.at 3 _ rfl
          obtain ⟨x_p4, x_f4⟩ := x.at 4 _ rfl
          obtain ⟨x_p5, x_f5⟩ := x.at 5 _ rfl
          obtain ⟨x_p6, x_f6⟩ := x.at 6 _ rfl
          obtain ⟨x_p7, x_f7⟩ := x.at 7 _ rfl
          obtain ⟨x_p8, x_f8⟩ := x.at 8 _ rfl
          obtain ⟨x_p9, x_f9⟩ := x.at 9 _ rfl
          go_wp2_with (first | (go_at_call 77; refine (from_any _ _ _ _).mono ?_; rintro e w9 ⟨rfl, rfl⟩) | (go_at_call 78; refine (isWhole_any _ _).mono ?_; rintro e w9 ⟨rfl, rfl⟩))
          go_ret
          exact ⟨rfl, by repeat' (first | with_reducible exact Ext.refl _ | with_reducible assumption | with_reducible refine Ext.set ?_ ?_ _ _ | with_reducible refine Ext.alloc ?_ _ | with_reducible refine Ext.drew ?_ | with_reducible refine Ext.drewN ?_ _ | with_reducible refine Ext.trans ?_ (by with_reducible assumption) | omega | (simp; done) | (simp; omega))⟩
        · skip
          have Ek := Lib.hid ek
          clear ek
          go_enter Try.func82, Try.ntmps82
          go_upto_region 1 with (fail)
          generalize (w.alloc (.cells #[.int .i64 m.kind, .int .i64 m.frm, .int .i64 m.view, .int .i64 m.normal, .int .i64 m.op, .int .i64 m.commit, .int .i64 m.log.base, .slice A0 n0 c0, .slice A1 n1 c1, .slice A2 n2 c2] 119)) = W0 at *
          rw [Ek.out] at x
          clear Ek
          obtain ⟨x_p0, x_f0⟩ := x.at 0 _ rfl
          obtain ⟨x_p1, x_f1⟩ := x.at 1 _ rfl
          obtain ⟨x_p2, x_f2⟩ := x.at 2 _ rfl
          obtain ⟨x_p3, x_f3⟩ := x.at 3 _ rfl
          obtain ⟨x_p4, x_f4⟩ := x.at 4 _ rfl
          obtain ⟨x_p5, x_f5⟩ := x.at 5 _ rfl
          obtain ⟨x_p6, x_f6⟩ := x.at 6 _ rfl
          obtain ⟨x_p7, x_f7⟩ := x.at 7 _ rfl
          obtain ⟨x_p8, x_f8⟩ := x.at 8 _ rfl
          obtain ⟨x_p9, x_f9⟩ := x.at 9 _ rfl
          go_wp2_with (first | (go_at_call 77; refine (from_any _ _ _ _).mono ?_; rintro e w9 ⟨rfl, rfl⟩) | (go_at_call 78; refine (isWhole_any _ _).mono ?_; rintro e w9 ⟨rfl, rfl⟩))
          go_ret
          exact ⟨rfl, by repeat' (first | with_reducible exact Ext.refl _ | with_reducible assumption | with_reducible refine Ext.set ?_ ?_ _ _ | with_reducible refine Ext.alloc ?_ _ | with_reducible refine Ext.drew ?_ | with_reducible refine Ext.drewN ?_ _ | with_reducible refine Ext.trans ?_ (by with_reducible assumption) | omega | (simp; done) | (simp; omega))⟩
      | true =>
        obtain ⟨b3, hb3⟩ : ∃ b, wholeB m.normal = b := ⟨_, rfl⟩
        rw [hb3]
        cases b3 with
        | false =>
          rcases hkk with ek | ek | ek | ek
          · skip
            have Ek := Lib.hid ek
            clear ek
            go_enter Try.func82, Try.ntmps82
            go_upto_region 1 with (fail)
            generalize (w.alloc (.cells #[.int .i64 m.kind, .int .i64 m.frm, .int .i64 m.view, .int .i64 m.normal, .int .i64 m.op, .int .i64 m.commit, .int .i64 m.log.base, .slice A0 n0 c0, .slice A1 n1 c1, .slice A2 n2 c2] 119)) = W0 at *
            rw [Ek.out] at x
            clear Ek
            obtain ⟨x_p0, x_f0⟩ := x.at 0 _ rfl
            obtain ⟨x_p1, x_f1⟩ := x.at 1 _ rfl
            obtain ⟨x_p2, x_f2⟩ := x.at 2 _ rfl
            obtain ⟨x_p3, x_f3⟩ := x.at 3 _ rfl
            obtain ⟨x_p4, x_f4⟩ := x.at 4 _ rfl
            obtain ⟨x_p5, x_f5⟩ := x.at 5 _ rfl
            obtain ⟨x_p6, x_f6⟩ := x.at 6 _ rfl
            obtain ⟨x_p7, x_f7⟩ := x.at 7 _ rfl
            obtain ⟨x_p8, x_f8⟩ := x.at 8 _ rfl
            obtain ⟨x_p9, x_f9⟩ := x.at 9 _ rfl
            go_wp2_with (first | (go_at_call 77; refine (from_any _ _ _ _).mono ?_; rintro e w9 ⟨rfl, rfl⟩) | (go_at_call 78; refine (isWhole_any _ _).mono ?_; rintro e w9 ⟨rfl, rfl⟩))
            go_ret
            exact ⟨rfl, by repeat' (first | with_reducible exact Ext.refl _ | with_reducible assumption | with_reducible refine Ext.set ?_ ?_ _ _ | with_reducible refine Ext.alloc ?_ _ | with_reducible refine Ext.drew ?_ | with_reducible refine Ext.drewN ?_ _ | with_reducible refine Ext.trans ?_ (by with_reducible assumption) | omega | (simp; done) | (simp; omega))⟩
          · skip
            have Ek := Lib.hid ek
            clear ek
            go_enter Try.func82, Try.ntmps82
            go_upto_region 1 with (fail)
            generalize (w.alloc (.cells #[.int .i64 m.kind, .int .i64 m.frm, .int .i64 m.view, .int .i64 m.normal, .int .i64 m.op, .int .i64 m.commit, .int .i64 m.log.base, .slice A0 n0 c0, .slice A1 n1 c1, .slice A2 n2 c2] 119)) = W0 at *
            rw [Ek.out] at x
            clear Ek
            obtain ⟨x_p0, x_f0⟩ := x.at 0 _ rfl
            obtain ⟨x_p1, x_f1⟩ := x.at 1 _ rfl
            obtain ⟨x_p2, x_f2⟩ := x.at 2 _ rfl
            obtain ⟨x_p3, x_f3⟩ := x.at 3 _ rfl
            obtain ⟨x_p4, x_f4⟩ := x.at 4 _ rfl
            obtain ⟨x_p5, x_f5⟩ := x.at 5 _ rfl
            obtain ⟨x_p6, x_f6⟩ := x.at 6 _ rfl
            obtain ⟨x_p7, x_f7⟩ := x.at 7 _ rfl
            obtain ⟨x_p8, x_f8⟩ := x.at 8 _ rfl
            obtain ⟨x_p9, x_f9⟩ := x.at 9 _ rfl
            go_wp2_with (first | (go_at_call 77; refine (from_any _ _ _ _).mono ?_; rintro e w9 ⟨rfl, rfl⟩) | (go_at_call 78; refine (isWhole_any _ _).mono ?_; rintro e w9 ⟨rfl, rfl⟩))
            go_ret
            exact ⟨rfl, by repeat' (first | with_reducible exact Ext.refl _ | with_reducible assumption | with_reducible refine Ext.set ?_ ?_ _ _ | with_reducible refine Ext.alloc ?_ _ | with_reducible refine Ext.drew ?_ | with_reducible refine Ext.drewN ?_ _ | with_reducible refine Ext.trans ?_ (by with_reducible assumption) | omega | (simp; done) | (simp; omega))⟩
          · skip
            have Ek := Lib.hid ek
            clear ek
            go_enter Try.func82, Try.ntmps82
            go_upto_region 1 with (fail)
            generalize (w.alloc (.cells #[.int .i64 m.kind, .int .i64 m.frm, .int .i64 m.view, .int .i64 m.normal, .int .i64 m.op, .int .i64 m.commit, .int .i64 m.log.base, .slice A0 n0 c0, .slice A1 n1 c1, .slice A2 n2 c2] 119)) = W0 at *
            rw [Ek.out] at x
            clear Ek
            obtain ⟨x_p0, x_f0⟩ := x.at 0 _ rfl
            obtain ⟨x_p1, x_f1⟩ := x.at 1 _ rfl
            obtain ⟨x_p2, x_f2⟩ := x.at 2 _ rfl
            obtain ⟨x_p3, x_f3⟩ := x.at 3 _ rfl
            obtain ⟨x_p4, x_f4⟩ := x.at 4 _ rfl
            obtain ⟨x_p5, x_f5⟩ := x.at 5 _ rfl
            obtain ⟨x_p6, x_f6⟩ := x.at 6 _ rfl
            obtain ⟨x_p7, x_f7⟩ := x.at 7 _ rfl
            obtain ⟨x_p8, x_f8⟩ := x.at 8 _ rfl
            obtain ⟨x_p9, x_f9⟩ := x.at 9 _ rfl
            go_wp2_with (first | (go_at_call 77; refine (from_any _ _ _ _).mono ?_; rintro e w9 ⟨rfl, rfl⟩) | (go_at_call 78; refine (isWhole_any _ _).mono ?_; rintro e w9 ⟨rfl, rfl⟩))
            go_ret
            exact ⟨rfl, by repeat' (first | with_reducible exact Ext.refl _ | with_reducible assumption | with_reducible refine Ext.set ?_ ?_ _ _ | with_reducible refine Ext.alloc ?_ _ | with_reducible refine Ext.drew ?_ | with_reducible refine Ext.drewN ?_ _ | with_reducible refine Ext.trans ?_ (by with_reducible assumption) | omega | (simp; done) | (simp; omega))⟩
          · skip
            have Ek := Lib.hid ek
            clear ek
            go_enter Try.func82, Try.ntmps82
            go_upto_region 1 with (fail)
            generalize (w.alloc (.cells #[.int .i64 m.kind, .int .i64 m.frm, .int .i64 m.view, .int .i64 m.normal, .int .i64 m.op, .int .i64 m.commit, .int .i64 m.log.base, .slice A0 n0 c0, .slice A1 n1 c1, .slice A2 n2 c2] 119)) = W0 at *
            rw [Ek.out] at x
            clear Ek
            obtain ⟨x_p0, x_f0⟩ := x.at 0 _ rfl
            obtain ⟨x_p1, x_f1⟩ := x.at 1 _ rfl
            obtain ⟨x_p2, x_f2⟩ := x.at 2 _ rfl
            obtain ⟨x_p3, x_f3⟩ := x.at 3 _ rfl
            obtain ⟨x_p4, x_f4⟩ := x.at 4 _ rfl
            obtain ⟨x_p5, x_f5⟩ := x.at 5 _ rfl
            obtain ⟨x_p6, x_f6⟩ := x.at 6 _ rfl
            obtain ⟨x_p7, x_f7⟩ := x.at 7 _ rfl
            obtain ⟨x_p8, x_f8⟩ := x.at 8 _ rfl
            obtain ⟨x_p9, x_f9⟩ := x.at 9 _ rfl
            go_wp2_with (first | (go_at_call 77; refine (from_any _ _ _ _).mono ?_; rintro e w9 ⟨rfl, rfl⟩) | (go_at_call 78; refine (isWhole_any _ _).mono ?_; rintro e w9 ⟨rfl, rfl⟩))
            go_ret
            exact ⟨rfl, by repeat' (first | with_reducible exact Ext.refl _ | with_reducible assumption | with_reducible refine Ext.set ?_ ?_ _ _ | with_reducible refine Ext.alloc ?_ _ | with_reducible refine Ext.drew ?_ | with_reducible refine Ext.drewN ?_ _ | with_reducible refine Ext.trans ?_ (by with_reducible assumption) | omega | (simp; done) | (simp; omega))⟩
        | true =>
          obtain ⟨b4, hb4⟩ : ∃ b, wholeB m.op = b := ⟨_, rfl⟩
          rw [hb4]
          cases b4 with
          | false =>
            rcases hkk with ek | ek | ek | ek
            · skip
              have Ek := Lib.hid ek
              clear ek
              go_enter Try.func82, Try.ntmps82
              go_upto_region 1 with (fail)
              generalize (w.alloc (.cells #[.int .i64 m.kind, .int .i64 m.frm, .int .i64 m.view, .int .i64 m.normal, .int .i64 m.op, .int .i64 m.commit, .int .i64 m.log.base, .slice A0 n0 c0, .slice A1 n1 c1, .slice A2 n2 c2] 119)) = W0 at *
              rw [Ek.out] at x
              clear Ek
              obtain ⟨x_p0, x_f0⟩ := x.at 0 _ rfl
              obtain ⟨x_p1, x_f1⟩ := x.at 1 _ rfl
              obtain ⟨x_p2, x_f2⟩ := x.at 2 _ rfl
              obtain ⟨x_p3, x_f3⟩ := x.at 3 _ rfl
              obtain ⟨x_p4, x_f4⟩ := x.at 4 _ rfl
              obtain ⟨x_p5, x_f5⟩ := x.at 5 _ rfl
              obtain ⟨x_p6, x_f6⟩ := x.at 6 _ rfl
              obtain ⟨x_p7, x_f7⟩ := x.at 7 _ rfl
              obtain ⟨x_p8, x_f8⟩ := x.at 8 _ rfl
              obtain ⟨x_p9, x_f9⟩ := x.at 9 _ rfl
              go_wp2_with (first | (go_at_call 77; refine (from_any _ _ _ _).mono ?_; rintro e w9 ⟨rfl, rfl⟩) | (go_at_call 78; refine (isWhole_any _ _).mono ?_; rintro e w9 ⟨rfl, rfl⟩))
              go_ret
              exact ⟨rfl, by repeat' (first | with_reducible exact Ext.refl _ | with_reducible assumption | with_reducible refine Ext.set ?_ ?_ _ _ | with_reducible refine Ext.alloc ?_ _ | with_reducible refine Ext.drew ?_ | with_reducible refine Ext.drewN ?_ _ | with_reducible refine Ext.trans ?_ (by with_reducible assumption) | omega | (simp; done) | (simp; omega))⟩
            · skip
              have Ek := Lib.hid ek
              clear ek
              go_enter Try.func82, Try.ntmps82
              go_upto_region 1 with (fail)
              generalize (w.alloc (.cells #[.int .i64 m.kind, .int .i64 m.frm, .int .i64 m.view, .int .i64 m.normal, .int .i64 m.op, .int .i64 m.commit, .int .i64 m.log.base, .slice A0 n0 c0, .slice A1 n1 c1, .slice A2 n2 c2] 119)) = W0 at *
              rw [Ek.out] at x
              clear Ek
              obtain ⟨x_p0, x_f0⟩ := x.at 0 _ rfl
              obtain ⟨x_p1, x_f1⟩ := x.at 1 _ rfl
              obtain ⟨x_p2, x_f2⟩ := x.at 2 _ rfl
              obtain ⟨x_p3, x_f3⟩ := x.at 3 _ rfl
              obtain ⟨x_p4, x_f4⟩ := x.at 4 _ rfl
              obtain ⟨x_p5, x_f5⟩ := x.at 5 _ rfl
              obtain ⟨x_p6, x_f6⟩ := x.at 6 _ rfl
              obtain ⟨x_p7, x_f7⟩ := x.at 7 _ rfl
              obtain ⟨x_p8, x_f8⟩ := x.at 8 _ rfl
              obtain ⟨x_p9, x_f9⟩ := x.at 9 _ rfl
              go_wp2_with (first | (go_at_call 77; refine (from_any _ _ _ _).mono ?_; rintro e w9 ⟨rfl, rfl⟩) | (go_at_call 78; refine (isWhole_any _ _).mono ?_; rintro e w9 ⟨rfl, rfl⟩))
              go_ret
              exact ⟨rfl, by repeat' (first | with_reducible exact Ext.refl _ | with_reducible assumption | with_reducible refine Ext.set ?_ ?_ _ _ | with_reducible refine Ext.alloc ?_ _ | with_reducible refine Ext.drew ?_ | with_reducible refine Ext.drewN ?_ _ | with_reducible refine Ext.trans ?_ (by with_reducible assumption) | omega | (simp; done) | (simp; omega))⟩
            · skip
              have Ek := Lib.hid ek
              clear ek
              go_enter Try.func82, Try.ntmps82
              go_upto_region 1 with (fail)
              generalize (w.alloc (.cells #[.int .i64 m.kind, .int .i64 m.frm, .int .i64 m.view, .int .i64 m.normal, .int .i64 m.op, .int .i64 m.commit, .int .i64 m.log.base, .slice A0 n0 c0, .slice A1 n1 c1, .slice A2 n2 c2] 119)) = W0 at *
              rw [Ek.out] at x
              clear Ek
              obtain ⟨x_p0, x_f0⟩ := x.at 0 _ rfl
              obtain ⟨x_p1, x_f1⟩ := x.at 1 _ rfl
              obtain ⟨x_p2, x_f2⟩ := x.at 2 _ rfl
              obtain ⟨x_p3, x_f3⟩ := x.at 3 _ rfl
              obtain ⟨x_p4, x_f4⟩ := x.at 4 _ rfl
              obtain ⟨x_p5, x_f5⟩ := x.at 5 _ rfl
              obtain ⟨x_p6, x_f6⟩ := x.at 6 _ rfl
              obtain ⟨x_p7, x_f7⟩ := x.at 7 _ rfl
              obtain ⟨x_p8, x_f8⟩ := x.at 8 _ rfl
              obtain ⟨x_p9, x_f9⟩ := x.at 9 _ rfl
              go_wp2_with (first | (go_at_call 77; refine (from_any _ _ _ _).mono ?_; rintro e w9 ⟨rfl, rfl⟩) | (go_at_call 78; refine (isWhole_any _ _).mono ?_; rintro e w9 ⟨rfl, rfl⟩))
              go_ret
              exact ⟨rfl, by repeat' (first | with_reducible exact Ext.refl _ | with_reducible assumption | with_reducible refine Ext.set ?_ ?_ _ _ | with_reducible refine Ext.alloc ?_ _ | with_reducible refine Ext.drew ?_ | with_reducible refine Ext.drewN ?_ _ | with_reducible refine Ext.trans ?_ (by with_reducible assumption) | omega | (simp; done) | (simp; omega))⟩
            · skip
              have Ek := Lib.hid ek
              clear ek
              go_enter Try.func82, Try.ntmps82
              go_upto_region 1 with (fail)
              generalize (w.alloc (.cells #[.int .i64 m.kind, .int .i64 m.frm, .int .i64 m.view, .int .i64 m.normal, .int .i64 m.op, .int .i64 m.commit, .int .i64 m.log.base, .slice A0 n0 c0, .slice A1 n1 c1, .slice A2 n2 c2] 119)) = W0 at *
              rw [Ek.out] at x
              clear Ek
              obtain ⟨x_p0, x_f0⟩ := x.at 0 _ rfl
              obtain ⟨x_p1, x_f1⟩ := x.at 1 _ rfl
              obtain ⟨x_p2, x_f2⟩ := x.at 2 _ rfl
              obtain ⟨x_p3, x_f3⟩ := x.at 3 _ rfl
              obtain ⟨x_p4, x_f4⟩ := x.at 4 _ rfl
              obtain ⟨x_p5, x_f5⟩ := x.at 5 _ rfl
              obtain ⟨x_p6, x_f6⟩ := x.at 6 _ rfl
              obtain ⟨x_p7, x_f7⟩ := x.at 7 _ rfl
              obtain ⟨x_p8, x_f8⟩ := x.at 8 _ rfl
              obtain ⟨x_p9, x_f9⟩ := x.at 9 _ rfl
              go_wp2_with (first | (go_at_call 77; refine (from_any _ _ _ _).mono ?_; rintro e w9 ⟨rfl, rfl⟩) | (go_at_call 78; refine (isWhole_any _ _).mono ?_; rintro e w9 ⟨rfl, rfl⟩))
              go_ret
              exact ⟨rfl, by repeat' (first | with_reducible exact Ext.refl _ | with_reducible assumption | with_reducible refine Ext.set ?_ ?_ _ _ | with_reducible refine Ext.alloc ?_ _ | with_reducible refine Ext.drew ?_ | with_reducible refine Ext.drewN ?_ _ | with_reducible refine Ext.trans ?_ (by with_reducible assumption) | omega | (simp; done) | (simp; omega))⟩
          | true =>
            rcases hkk with ek | ek | ek | ek
            · skip
              have Ek := Lib.hid ek
              clear ek
              go_enter Try.func82, Try.ntmps82
              go_upto_region 1 with (fail)
              generalize (w.alloc (.cells #[.int .i64 m.kind, .int .i64 m.frm, .int .i64 m.view, .int .i64 m.normal, .int .i64 m.op, .int .i64 m.commit, .int .i64 m.log.base, .slice A0 n0 c0, .slice A1 n1 c1, .slice A2 n2 c2] 119)) = W0 at *
              rw [Ek.out] at x
              clear Ek
              obtain ⟨x_p0, x_f0⟩ := x.at 0 _ rfl
              obtain ⟨x_p1, x_f1⟩ := x.at 1 _ rfl
              obtain ⟨x_p2, x_f2⟩ := x.at 2 _ rfl
              obtain ⟨x_p3, x_f3⟩ := x.at 3 _ rfl
              obtain ⟨x_p4, x_f4⟩ := x.at 4 _ rfl
              obtain ⟨x_p5, x_f5⟩ := x.at 5 _ rfl
              obtain ⟨x_p6, x_f6⟩ := x.at 6 _ rfl
              obtain ⟨x_p7, x_f7⟩ := x.at 7 _ rfl
              obtain ⟨x_p8, x_f8⟩ := x.at 8 _ rfl
              obtain ⟨x_p9, x_f9⟩ := x.at 9 _ rfl
              go_wp2_with (first | (go_at_call 77; refine (from_any _ _ _ _).mono ?_; rintro e w9 ⟨rfl, rfl⟩) | (go_at_call 78; refine (isWhole_any _ _).mono ?_; rintro e w9 ⟨rfl, rfl⟩))
              refine (hasNumber_i _ m.log m.commit _ B (by exact hl0.keep (keepE' hW0 hB)) (by have := hW0.size; omega)).mono ?_
              rintro e w1 ⟨rfl, hE1⟩
              have hX1 := hW0.trans hE1
              go_wp2
              go_ret
              exact ⟨rfl, hX1⟩
            · skip
              have Ek := Lib.hid ek
              clear ek
              go_enter Try.func82, Try.ntmps82
              go_upto_region 1 with (fail)
              generalize (w.alloc (.cells #[.int .i64 m.kind, .int .i64 m.frm, .int .i64 m.view, .int .i64 m.normal, .int .i64 m.op, .int .i64 m.commit, .int .i64 m.log.base, .slice A0 n0 c0, .slice A1 n1 c1, .slice A2 n2 c2] 119)) = W0 at *
              rw [Ek.out] at x
              clear Ek
              obtain ⟨x_p0, x_f0⟩ := x.at 0 _ rfl
              obtain ⟨x_p1, x_f1⟩ := x.at 1 _ rfl
              obtain ⟨x_p2, x_f2⟩ := x.at 2 _ rfl
              obtain ⟨x_p3, x_f3⟩ := x.at 3 _ rfl
              obtain ⟨x_p4, x_f4⟩ := x.at 4 _ rfl
              obtain ⟨x_p5, x_f5⟩ := x.at 5 _ rfl
              obtain ⟨x_p6, x_f6⟩ := x.at 6 _ rfl
              obtain ⟨x_p7, x_f7⟩ := x.at 7 _ rfl
              obtain ⟨x_p8, x_f8⟩ := x.at 8 _ rfl
              obtain ⟨x_p9, x_f9⟩ := x.at 9 _ rfl
              go_wp2_with (first | (go_at_call 77; refine (from_any _ _ _ _).mono ?_; rintro e w9 ⟨rfl, rfl⟩) | (go_at_call 78; refine (isWhole_any _ _).mono ?_; rintro e w9 ⟨rfl, rfl⟩))
              refine (hasNumber_i _ m.log m.commit _ B (by exact hl0.keep (keepE' hW0 hB)) (by have := hW0.size; omega)).mono ?_
              rintro e w1 ⟨rfl, hE1⟩
              have hX1 := hW0.trans hE1
              go_wp2
              go_ret
              exact ⟨rfl, hX1⟩
            · skip
              have Ek := Lib.hid ek
              clear ek
              go_enter Try.func82, Try.ntmps82
              go_upto_region 1 with (fail)
              generalize (w.alloc (.cells #[.int .i64 m.kind, .int .i64 m.frm, .int .i64 m.view, .int .i64 m.normal, .int .i64 m.op, .int .i64 m.commit, .int .i64 m.log.base, .slice A0 n0 c0, .slice A1 n1 c1, .slice A2 n2 c2] 119)) = W0 at *
              rw [Ek.out] at x
              clear Ek
              obtain ⟨x_p0, x_f0⟩ := x.at 0 _ rfl
              obtain ⟨x_p1, x_f1⟩ := x.at 1 _ rfl
              obtain ⟨x_p2, x_f2⟩ := x.at 2 _ rfl
              obtain ⟨x_p3, x_f3⟩ := x.at 3 _ rfl
              obtain ⟨x_p4, x_f4⟩ := x.at 4 _ rfl
              obtain ⟨x_p5, x_f5⟩ := x.at 5 _ rfl
              obtain ⟨x_p6, x_f6⟩ := x.at 6 _ rfl
              obtain ⟨x_p7, x_f7⟩ := x.at 7 _ rfl
              obtain ⟨x_p8, x_f8⟩ := x.at 8 _ rfl
              obtain ⟨x_p9, x_f9⟩ := x.at 9 _ rfl
              go_wp2_with (first | (go_at_call 77; refine (from_any _ _ _ _).mono ?_; rintro e w9 ⟨rfl, rfl⟩) | (go_at_call 78; refine (isWhole_any _ _).mono ?_; rintro e w9 ⟨rfl, rfl⟩))
              refine (hasNumber_i _ m.log m.commit _ B (by exact hl0.keep (keepE' hW0 hB)) (by have := hW0.size; omega)).mono ?_
              rintro e w1 ⟨rfl, hE1⟩
              have hX1 := hW0.trans hE1
              go_wp2
              go_ret
              exact ⟨rfl, hX1⟩
            · skip
              have Ek := Lib.hid ek
              clear ek
              go_enter Try.func82, Try.ntmps82
              go_upto_region 1 with (fail)
              generalize (w.alloc (.cells #[.int .i64 m.kind, .int .i64 m.frm, .int .i64 m.view, .int .i64 m.normal, .int .i64 m.op, .int .i64 m.commit, .int .i64 m.log.base, .slice A0 n0 c0, .slice A1 n1 c1, .slice A2 n2 c2] 119)) = W0 at *
              rw [Ek.out] at x
              clear Ek
              obtain ⟨x_p0, x_f0⟩ := x.at 0 _ rfl
              obtain ⟨x_p1, x_f1⟩ := x.at 1 _ rfl
              obtain ⟨x_p2, x_f2⟩ := x.at 2 _ rfl
              obtain ⟨x_p3, x_f3⟩ := x.at 3 _ rfl
              obtain ⟨x_p4, x_f4⟩ := x.at 4 _ rfl
              obtain ⟨x_p5, x_f5⟩ := x.at 5 _ rfl
              obtain ⟨x_p6, x_f6⟩ := x.at 6 _ rfl
              obtain ⟨x_p7, x_f7⟩ := x.at 7 _ rfl
              obtain ⟨x_p8, x_f8⟩ := x.at 8 _ rfl
              obtain ⟨x_p9, x_f9⟩ := x.at 9 _ rfl
              go_wp2_with (first | (go_at_call 77; refine (from_any _ _ _ _).mono ?_; rintro e w9 ⟨rfl, rfl⟩) | (go_at_call 78; refine (isWhole_any _ _).mono ?_; rintro e w9 ⟨rfl, rfl⟩))
              refine (hasNumber_i _ m.log m.commit _ B (by exact hl0.keep (keepE' hW0 hB)) (by have := hW0.size; omega)).mono ?_
              rintro e w1 ⟨rfl, hE1⟩
              have hX1 := hW0.trans hE1
              go_wp2
              go_ret
              exact ⟨rfl, hX1⟩
set_option maxRecDepth 100000 in
set_option maxHeartbeats 8000000 in
theorem voteOk_s (v : Value) (m : VoteD) (of : Int) (w : World) (B : Nat) (h : R_Vote w B v m) (hB : B ≤ w.heap.size) (hof : ofB of = true) :
    Calls Try.prog 74 #[v, .int .i64 of] w fun e w' => e = .returned (.bool (voteB of m)) ∧ Ext w w' := by
  obtain ⟨u0, s0, t0, rfl, h0u, h0s, h0t⟩ := h
  obtain ⟨A0, n0, c0, hv0, -⟩ := id h0u
  obtain ⟨A1, n1, c1, hv1, -⟩ := id h0s
  obtain ⟨A2, n2, c2, hv2, -⟩ := id h0t
  subst hv0 hv1 hv2
  have hl0 : R_Log w B (.agg #[.int .i64 m.log.base, .slice A0 n0 c0, .slice A1 n1 c1, .slice A2 n2 c2]) m.log := ⟨_, _, _, rfl, h0u, h0s, h0t⟩
  clear h0u h0s h0t
  have ho := (ofB_iff _).1 hof
  have hwr : IntKind.i64.wrap (of - 1) = of - 1 := IntWalk.i64_in _ (by omega)
  clear ho hof
  have hW0 : Ext w (w.alloc (.cells #[.int .i64 m.kind, .int .i64 m.frm, .int .i64 m.view, .int .i64 m.normal, .int .i64 m.op, .int .i64 m.commit, .int .i64 m.log.base, .slice A0 n0 c0, .slice A1 n1 c1, .slice A2 n2 c2] 119)) := by repeat' (first | with_reducible exact Ext.refl _ | with_reducible assumption | with_reducible refine Ext.set ?_ ?_ _ _ | with_reducible refine Ext.alloc ?_ _ | with_reducible refine Ext.drew ?_ | with_reducible refine Ext.drewN ?_ _ | with_reducible refine Ext.trans ?_ (by with_reducible assumption) | omega | (simp; done) | (simp; omega))
  have zW0 : w.heap.size + 1 ≤ (w.alloc (.cells #[.int .i64 m.kind, .int .i64 m.frm, .int .i64 m.view, .int .i64 m.normal, .int .i64 m.op, .int .i64 m.commit, .int .i64 m.log.base, .slice A0 n0 c0, .slice A1 n1 c1, .slice A2 n2 c2] 119)).heap.size := by simp
  have x : Blk (w.alloc (.cells #[.int .i64 m.kind, .int .i64 m.frm, .int .i64 m.view, .int .i64 m.normal, .int .i64 m.op, .int .i64 m.commit, .int .i64 m.log.base, .slice A0 n0 c0, .slice A1 n1 c1, .slice A2 n2 c2] 119)) w.heap.size 119 [.int .i64 m.kind, .int .i64 m.frm, .int .i64 m.view, .int .i64 m.normal, .int .i64 m.op, .int .i64 m.commit, .int .i64 m.log.base, .slice A0 n0 c0, .slice A1 n1 c1, .slice A2 n2 c2] := (Blk.new w #[.int .i64 m.kind, .int .i64 m.frm, .int .i64 m.view, .int .i64 m.normal, .int .i64 m.op, .int .i64 m.commit, .int .i64 m.log.base, .slice A0 n0 c0, .slice A1 n1 c1, .slice A2 n2 c2] 119 (by first | rfl | simp))
  unfold voteB
  obtain ⟨kb, hkb⟩ : ∃ b, kindB m.kind = b := ⟨_, rfl⟩
  rw [hkb]
  cases kb with
  | false =>
    obtain ⟨n3, n5, n6, n9⟩ := kind_no hkb
    clear hkb
    go_enter Try.func74, Try.ntmps74
    go_upto_region 1 with (fail)
    generalize (w.alloc (.cells #[.int .i64 m.kind, .int .i64 m.frm, .int .i64 m.view, .int .i64 m.normal, .int .i64 m.op, .int .i64 m.commit, .int .i64 m.log.base, .slice A0 n0 c0, .slice A1 n1 c1, .slice A2 n2 c2] 119)) = W0 at *
    obtain ⟨x_p0, x_f0⟩ := x.at 0 _ rfl
    obtain ⟨x_p1, x_f1⟩ := x.at 1 _ rfl
    obtain ⟨x_p2, x_f2⟩ := x.at 2 _ rfl
    obtain ⟨x_p3, x_f3⟩ := x.at 3 _ rfl
    obtain ⟨x_p4, x_f4⟩ := x.at 4 _ rfl
    obtain ⟨x_p5, x_f5⟩ := x.at 5 _ rfl
    obtain ⟨x_p6, x_f6⟩ := x.at 6 _ rfl
    obtain ⟨x_p7, x_f7⟩ := x.at 7 _ rfl
    obtain ⟨x_p8, x_f8⟩ := x.at 8 _ rfl
    obtain ⟨x_p9, x_f9⟩ := x.at 9 _ rfl
    go_wp2_with (first | (go_at_call 72; refine (l1In_any _ _ _ _).mono ?_; rintro e w9 ⟨rfl, rfl⟩) | (go_at_call 59; refine (l1Whole_any _ _).mono ?_; rintro e w9 ⟨rfl, rfl⟩))
    go_ret
    exact ⟨rfl, by repeat' (first | with_reducible exact Ext.refl _ | with_reducible assumption | with_reducible refine Ext.set ?_ ?_ _ _ | with_reducible refine Ext.alloc ?_ _ | with_reducible refine Ext.drew ?_ | with_reducible refine Ext.drewN ?_ _ | with_reducible refine Ext.trans ?_ (by with_reducible assumption) | omega | (simp; done) | (simp; omega))⟩
  | true =>
    have hkk := kind_yes hkb
    clear hkb
    obtain ⟨b1, hb1⟩ : ∃ b, inB m.frm 0 (of - 1) = b := ⟨_, rfl⟩
    rw [hb1]
    cases b1 with
    | false =>
      rcases hkk with ek | ek | ek | ek
      · skip
        have Ek := Lib.hid ek
        clear ek
        go_enter Try.func74, Try.ntmps74
        go_upto_region 1 with (fail)
        generalize (w.alloc (.cells #[.int .i64 m.kind, .int .i64 m.frm, .int .i64 m.view, .int .i64 m.normal, .int .i64 m.op, .int .i64 m.commit, .int .i64 m.log.base, .slice A0 n0 c0, .slice A1 n1 c1, .slice A2 n2 c2] 119)) = W0 at *
        rw [Ek.out] at x
        clear Ek
        obtain ⟨x_p0, x_f0⟩ := x.at 0 _ rfl
        obtain ⟨x_p1, x_f1⟩ := x.at 1 _ rfl
        obtain ⟨x_p2, x_f2⟩ := x.at 2 _ rfl
        obtain ⟨x_p3, x_f3⟩ := x.at 3 _ rfl
        obtain ⟨x_p4, x_f4⟩ := x.at 4 _ rfl
        obtain ⟨x_p5, x_f5⟩ := x.at 5 _ rfl
        obtain ⟨x_p6, x_f6⟩ := x.at 6 _ rfl
        obtain ⟨x_p7, x_f7⟩ := x.at 7 _ rfl
        obtain ⟨x_p8, x_f8⟩ := x.at 8 _ rfl
        obtain ⟨x_p9, x_f9⟩ := x.at 9 _ rfl
        go_wp2_with (first | (go_at_call 72; refine (l1In_any _ _ _ _).mono ?_; rintro e w9 ⟨rfl, rfl⟩) | (go_at_call 59; refine (l1Whole_any _ _).mono ?_; rintro e w9 ⟨rfl, rfl⟩))
        go_ret
        exact ⟨rfl, by repeat' (first | with_reducible exact Ext.refl _ | with_reducible assumption | with_reducible refine Ext.set ?_ ?_ _ _ | with_reducible refine Ext.alloc ?_ _ | with_reducible refine Ext.drew ?_ | with_reducible refine Ext.drewN ?_ _ | with_reducible refine Ext.trans ?_ (by with_reducible assumption) | omega | (simp; done) | (simp; omega))⟩
      · skip
        have Ek := Lib.hid ek
        clear ek
        go_enter Try.func74, Try.ntmps74
        go_upto_region 1 with (fail)
        generalize (w.alloc (.cells #[.int .i64 m.kind, .int .i64 m.frm, .int .i64 m.view, .int .i64 m.normal, .int .i64 m.op, .int .i64 m.commit, .int .i64 m.log.base, .slice A0 n0 c0, .slice A1 n1 c1, .slice A2 n2 c2] 119)) = W0 at *
        rw [Ek.out] at x
        clear Ek
        obtain ⟨x_p0, x_f0⟩ := x.at 0 _ rfl
        obtain ⟨x_p1, x_f1⟩ := x.at 1 _ rfl
        obtain ⟨x_p2, x_f2⟩ := x.at 2 _ rfl
        obtain ⟨x_p3, x_f3⟩ := x.at 3 _ rfl
        obtain ⟨x_p4, x_f4⟩ := x.at 4 _ rfl
        obtain ⟨x_p5, x_f5⟩ := x.at 5 _ rfl
        obtain ⟨x_p6, x_f6⟩ := x.at 6 _ rfl
        obtain ⟨x_p7, x_f7⟩ := x.at 7 _ rfl
        obtain ⟨x_p8, x_f8⟩ := x.at 8 _ rfl
        obtain ⟨x_p9, x_f9⟩ := x.at 9 _ rfl
        go_wp2_with (first | (go_at_call 72; refine (l1In_any _ _ _ _).mono ?_; rintro e w9 ⟨rfl, rfl⟩) | (go_at_call 59; refine (l1Whole_any _ _).mono ?_; rintro e w9 ⟨rfl, rfl⟩))
        go_ret
        exact ⟨rfl, by repeat' (first | with_reducible exact Ext.refl _ | with_reducible assumption | with_reducible refine Ext.set ?_ ?_ _ _ | with_reducible refine Ext.alloc ?_ _ | with_reducible refine Ext.drew ?_ | with_reducible refine Ext.drewN ?_ _ | with_reducible refine Ext.trans ?_ (by with_reducible assumption) | omega | (simp; done) | (simp; omega))⟩
      · skip
        have Ek := Lib.hid ek
        clear ek
        go_enter Try.func74, Try.ntmps74
        go_upto_region 1 with (fail)
        generalize (w.alloc (.cells #[.int .i64 m.kind, .int .i64 m.frm, .int .i64 m.view, .int .i64 m.normal, .int .i64 m.op, .int .i64 m.commit, .int .i64 m.log.base, .slice A0 n0 c0, .slice A1 n1 c1, .slice A2 n2 c2] 119)) = W0 at *
        rw [Ek.out] at x
        clear Ek
        obtain ⟨x_p0, x_f0⟩ := x.at 0 _ rfl
        obtain ⟨x_p1, x_f1⟩ := x.at 1 _ rfl
        obtain ⟨x_p2, x_f2⟩ := x.at 2 _ rfl
        obtain ⟨x_p3, x_f3⟩ := x.at 3 _ rfl
        obtain ⟨x_p4, x_f4⟩ := x.at 4 _ rfl
        obtain ⟨x_p5, x_f5⟩ := x.at 5 _ rfl
        obtain ⟨x_p6, x_f6⟩ := x.at 6 _ rfl
        obtain ⟨x_p7, x_f7⟩ := x.at 7 _ rfl
        obtain ⟨x_p8, x_f8⟩ := x.at 8 _ rfl
        obtain ⟨x_p9, x_f9⟩ := x.at 9 _ rfl
        go_wp2_with (first | (go_at_call 72; refine (l1In_any _ _ _ _).mono ?_; rintro e w9 ⟨rfl, rfl⟩) | (go_at_call 59; refine (l1Whole_any _ _).mono ?_; rintro e w9 ⟨rfl, rfl⟩))
        go_ret
        exact ⟨rfl, by repeat' (first | with_reducible exact Ext.refl _ | with_reducible assumption | with_reducible refine Ext.set ?_ ?_ _ _ | with_reducible refine Ext.alloc ?_ _ | with_reducible refine Ext.drew ?_ | with_reducible refine Ext.drewN ?_ _ | with_reducible refine Ext.trans ?_ (by with_reducible assumption) | omega | (simp; done) | (simp; omega))⟩
      · skip
        have Ek := Lib.hid ek
        clear ek
        go_enter Try.func74, Try.ntmps74
        go_upto_region 1 with (fail)
        generalize (w.alloc (.cells #[.int .i64 m.kind, .int .i64 m.frm, .int .i64 m.view, .int .i64 m.normal, .int .i64 m.op, .int .i64 m.commit, .int .i64 m.log.base, .slice A0 n0 c0, .slice A1 n1 c1, .slice A2 n2 c2] 119)) = W0 at *
        rw [Ek.out] at x
        clear Ek
        obtain ⟨x_p0, x_f0⟩ := x.at 0 _ rfl
        obtain ⟨x_p1, x_f1⟩ := x.at 1 _ rfl
        obtain ⟨x_p2, x_f2⟩ := x.at 2 _ rfl
        obtain ⟨x_p3, x_f3⟩ := x.at 3 _ rfl
        obtain ⟨x_p4, x_f4⟩ := x.at 4 _ rfl
        obtain ⟨x_p5, x_f5⟩ := x.at 5 _ rfl
        obtain ⟨x_p6, x_f6⟩ := x.at 6 _ rfl
        obtain ⟨x_p7, x_f7⟩ := x.at 7 _ rfl
        obtain ⟨x_p8, x_f8⟩ := x.at 8 _ rfl
        obtain ⟨x_p9, x_f9⟩ := x.at 9 _ rfl
        go_wp2_with (first | (go_at_call 72; refine (l1In_any _ _ _ _).mono ?_; rintro e w9 ⟨rfl, rfl⟩) | (go_at_call 59; refine (l1Whole_any _ _).mono ?_; rintro e w9 ⟨rfl, rfl⟩))
        go_ret
        exact ⟨rfl, by repeat' (first | with_reducible exact Ext.refl _ | with_reducible assumption | with_reducible refine Ext.set ?_ ?_ _ _ | with_reducible refine Ext.alloc ?_ _ | with_reducible refine Ext.drew ?_ | with_reducible refine Ext.drewN ?_ _ | with_reducible refine Ext.trans ?_ (by with_reducible assumption) | omega | (simp; done) | (simp; omega))⟩
    | true =>
      obtain ⟨b2, hb2⟩ : ∃ b, wholeB m.view = b := ⟨_, rfl⟩
      rw [hb2]
      cases b2 with
      | false =>
        rcases hkk with ek | ek | ek | ek
        · skip
          have Ek := Lib.hid ek
          clear ek
          go_enter Try.func74, Try.ntmps74
          go_upto_region 1 with (fail)
          generalize (w.alloc (.cells #[.int .i64 m.kind, .int .i64 m.frm, .int .i64 m.view, .int .i64 m.normal, .int .i64 m.op, .int .i64 m.commit, .int .i64 m.log.base, .slice A0 n0 c0, .slice A1 n1 c1, .slice A2 n2 c2] 119)) = W0 at *
          rw [Ek.out] at x
          clear Ek
          obtain ⟨x_p0, x_f0⟩ := x.at 0 _ rfl
          obtain ⟨x_p1, x_f1⟩ := x.at 1 _ rfl
          obtain ⟨x_p2, x_f2⟩ := x.at 2 _ rfl
          obtain ⟨x_p3, x_f3⟩ := x.at 3 _ rfl
          obtain ⟨x_p4, x_f4⟩ := x.at 4 _ rfl
          obtain ⟨x_p5, x_f5⟩ := x.at 5 _ rfl
          obtain ⟨x_p6, x_f6⟩ := x.at 6 _ rfl
          obtain ⟨x_p7, x_f7⟩ := x.at 7 _ rfl
          obtain ⟨x_p8, x_f8⟩ := x.at 8 _ rfl
          obtain ⟨x_p9, x_f9⟩ := x.at 9 _ rfl
          go_wp2_with (first | (go_at_call 72; refine (l1In_any _ _ _ _).mono ?_; rintro e w9 ⟨rfl, rfl⟩) | (go_at_call 59; refine (l1Whole_any _ _).mono ?_; rintro e w9 ⟨rfl, rfl⟩))
          go_ret
          exact ⟨rfl, by repeat' (first | with_reducible exact Ext.refl _ | with_reducible assumption | with_reducible refine Ext.set ?_ ?_ _ _ | with_reducible refine Ext.alloc ?_ _ | with_reducible refine Ext.drew ?_ | with_reducible refine Ext.drewN ?_ _ | with_reducible refine Ext.trans ?_ (by with_reducible assumption) | omega | (simp; done) | (simp; omega))⟩
        · skip
          have Ek := Lib.hid ek
          clear ek
          go_enter Try.func74, Try.ntmps74
          go_upto_region 1 with (fail)
          generalize (w.alloc (.cells #[.int .i64 m.kind, .int .i64 m.frm, .int .i64 m.view, .int .i64 m.normal, .int .i64 m.op, .int .i64 m.commit, .int .i64 m.log.base, .slice A0 n0 c0, .slice A1 n1 c1, .slice A2 n2 c2] 119)) = W0 at *
          rw [Ek.out] at x
          clear Ek
          obtain ⟨x_p0, x_f0⟩ := x.at 0 _ rfl
          obtain ⟨x_p1, x_f1⟩ := x.at 1 _ rfl
          obtain ⟨x_p2, x_f2⟩ := x.at 2 _ rfl
          obtain ⟨x_p3, x_f3⟩ := x.at 3 _ rfl
          obtain ⟨x_p4, x_f4⟩ := x.at 4 _ rfl
          obtain ⟨x_p5, x_f5⟩ := x.at 5 _ rfl
          obtain ⟨x_p6, x_f6⟩ := x.at 6 _ rfl
          obtain ⟨x_p7, x_f7⟩ := x.at 7 _ rfl
          obtain ⟨x_p8, x_f8⟩ := x.at 8 _ rfl
          obtain ⟨x_p9, x_f9⟩ := x.at 9 _ rfl
          go_wp2_with (first | (go_at_call 72; refine (l1In_any _ _ _ _).mono ?_; rintro e w9 ⟨rfl, rfl⟩) | (go_at_call 59; refine (l1Whole_any _ _).mono ?_; rintro e w9 ⟨rfl, rfl⟩))
          go_ret
          exact ⟨rfl, by repeat' (first | with_reducible exact Ext.refl _ | with_reducible assumption | with_reducible refine Ext.set ?_ ?_ _ _ | with_reducible refine Ext.alloc ?_ _ | with_reducible refine Ext.drew ?_ | with_reducible refine Ext.drewN ?_ _ | with_reducible refine Ext.trans ?_ (by with_reducible assumption) | omega | (simp; done) | (simp; omega))⟩
        · skip
          have Ek := Lib.hid ek
          clear ek
          go_enter Try.func74, Try.ntmps74
          go_upto_region 1 with (fail)
          generalize (w.alloc (.cells #[.int .i64 m.kind, .int .i64 m.frm, .int .i64 m.view, .int .i64 m.normal, .int .i64 m.op, .int .i64 m.commit, .int .i64 m.log.base, .slice A0 n0 c0, .slice A1 n1 c1, .slice A2 n2 c2] 119)) = W0 at *
          rw [Ek.out] at x
          clear Ek
          obtain ⟨x_p0, x_f0⟩ := x.at 0 _ rfl
          obtain ⟨x_p1, x_f1⟩ := x.at 1 _ rfl
          obtain ⟨x_p2, x_f2⟩ := x.at 2 _ rfl
          obtain ⟨x_p3, x_f3⟩ := x.at 3 _ rfl
          obtain ⟨x_p4, x_f4⟩ := x.at 4 _ rfl
          obtain ⟨x_p5, x_f5⟩ := x.at 5 _ rfl
          obtain ⟨x_p6, x_f6⟩ := x.at 6 _ rfl
          obtain ⟨x_p7, x_f7⟩ := x.at 7 _ rfl
          obtain ⟨x_p8, x_f8⟩ := x.at 8 _ rfl
          obtain ⟨x_p9, x_f9⟩ := x.at 9 _ rfl
          go_wp2_with (first | (go_at_call 72; refine (l1In_any _ _ _ _).mono ?_; rintro e w9 ⟨rfl, rfl⟩) | (go_at_call 59; refine (l1Whole_any _ _).mono ?_; rintro e w9 ⟨rfl, rfl⟩))
          go_ret
          exact ⟨rfl, by repeat' (first | with_reducible exact Ext.refl _ | with_reducible assumption | with_reducible refine Ext.set ?_ ?_ _ _ | with_reducible refine Ext.alloc ?_ _ | with_reducible refine Ext.drew ?_ | with_reducible refine Ext.drewN ?_ _ | with_reducible refine Ext.trans ?_ (by with_reducible assumption) | omega | (simp; done) | (simp; omega))⟩
        · skip
          have Ek := Lib.hid ek
          clear ek
          go_enter Try.func74, Try.ntmps74
          go_upto_region 1 with (fail)
          generalize (w.alloc (.cells #[.int .i64 m.kind, .int .i64 m.frm, .int .i64 m.view, .int .i64 m.normal, .int .i64 m.op, .int .i64 m.commit, .int .i64 m.log.base, .slice A0 n0 c0, .slice A1 n1 c1, .slice A2 n2 c2] 119)) = W0 at *
          rw [Ek.out] at x
          clear Ek
          obtain ⟨x_p0, x_f0⟩ := x.at 0 _ rfl
          obtain ⟨x_p1, x_f1⟩ := x.at 1 _ rfl
          obtain ⟨x_p2, x_f2⟩ := x.at 2 _ rfl
          obtain ⟨x_p3, x_f3⟩ := x.at 3 _ rfl
          obtain ⟨x_p4, x_f4⟩ := x.at 4 _ rfl
          obtain ⟨x_p5, x_f5⟩ := x.at 5 _ rfl
          obtain ⟨x_p6, x_f6⟩ := x.at 6 _ rfl
          obtain ⟨x_p7, x_f7⟩ := x.at 7 _ rfl
          obtain ⟨x_p8, x_f8⟩ := x.at 8 _ rfl
          obtain ⟨x_p9, x_f9⟩ := x.at 9 _ rfl
          go_wp2_with (first | (go_at_call 72; refine (l1In_any _ _ _ _).mono ?_; rintro e w9 ⟨rfl, rfl⟩) | (go_at_call 59; refine (l1Whole_any _ _).mono ?_; rintro e w9 ⟨rfl, rfl⟩))
          go_ret
          exact ⟨rfl, by repeat' (first | with_reducible exact Ext.refl _ | with_reducible assumption | with_reducible refine Ext.set ?_ ?_ _ _ | with_reducible refine Ext.alloc ?_ _ | with_reducible refine Ext.drew ?_ | with_reducible refine Ext.drewN ?_ _ | with_reducible refine Ext.trans ?_ (by with_reducible assumption) | omega | (simp; done) | (simp; omega))⟩
      | true =>
        obtain ⟨b3, hb3⟩ : ∃ b, wholeB m.normal = b := ⟨_, rfl⟩
        rw [hb3]
        cases b3 with
        | false =>
          rcases hkk with ek | ek | ek | ek
          · skip
            have Ek := Lib.hid ek
            clear ek
            go_enter Try.func74, Try.ntmps74
            go_upto_region 1 with (fail)
            generalize (w.alloc (.cells #[.int .i64 m.kind, .int .i64 m.frm, .int .i64 m.view, .int .i64 m.normal, .int .i64 m.op, .int .i64 m.commit, .int .i64 m.log.base, .slice A0 n0 c0, .slice A1 n1 c1, .slice A2 n2 c2] 119)) = W0 at *
            rw [Ek.out] at x
            clear Ek
            obtain ⟨x_p0, x_f0⟩ := x.at 0 _ rfl
            obtain ⟨x_p1, x_f1⟩ := x.at 1 _ rfl
            obtain ⟨x_p2, x_f2⟩ := x.at 2 _ rfl
            obtain ⟨x_p3, x_f3⟩ := x.at 3 _ rfl
            obtain ⟨x_p4, x_f4⟩ := x.at 4 _ rfl
            obtain ⟨x_p5, x_f5⟩ := x.at 5 _ rfl
            obtain ⟨x_p6, x_f6⟩ := x.at 6 _ rfl
            obtain ⟨x_p7, x_f7⟩ := x.at 7 _ rfl
            obtain ⟨x_p8, x_f8⟩ := x.at 8 _ rfl
            obtain ⟨x_p9, x_f9⟩ := x.at 9 _ rfl
            go_wp2_with (first | (go_at_call 72; refine (l1In_any _ _ _ _).mono ?_; rintro e w9 ⟨rfl, rfl⟩) | (go_at_call 59; refine (l1Whole_any _ _).mono ?_; rintro e w9 ⟨rfl, rfl⟩))
            go_ret
            exact ⟨rfl, by repeat' (first | with_reducible exact Ext.refl _ | with_reducible assumption | with_reducible refine Ext.set ?_ ?_ _ _ | with_reducible refine Ext.alloc ?_ _ | with_reducible refine Ext.drew ?_ | with_reducible refine Ext.drewN ?_ _ | with_reducible refine Ext.trans ?_ (by with_reducible assumption) | omega | (simp; done) | (simp; omega))⟩
          · skip
            have Ek := Lib.hid ek
            clear ek
            go_enter Try.func74, Try.ntmps74
            go_upto_region 1 with (fail)
            generalize (w.alloc (.cells #[.int .i64 m.kind, .int .i64 m.frm, .int .i64 m.view, .int .i64 m.normal, .int .i64 m.op, .int .i64 m.commit, .int .i64 m.log.base, .slice A0 n0 c0, .slice A1 n1 c1, .slice A2 n2 c2] 119)) = W0 at *
            rw [Ek.out] at x
            clear Ek
            obtain ⟨x_p0, x_f0⟩ := x.at 0 _ rfl
            obtain ⟨x_p1, x_f1⟩ := x.at 1 _ rfl
            obtain ⟨x_p2, x_f2⟩ := x.at 2 _ rfl
            obtain ⟨x_p3, x_f3⟩ := x.at 3 _ rfl
            obtain ⟨x_p4, x_f4⟩ := x.at 4 _ rfl
            obtain ⟨x_p5, x_f5⟩ := x.at 5 _ rfl
            obtain ⟨x_p6, x_f6⟩ := x.at 6 _ rfl
            obtain ⟨x_p7, x_f7⟩ := x.at 7 _ rfl
            obtain ⟨x_p8, x_f8⟩ := x.at 8 _ rfl
            obtain ⟨x_p9, x_f9⟩ := x.at 9 _ rfl
            go_wp2_with (first | (go_at_call 72; refine (l1In_any _ _ _ _).mono ?_; rintro e w9 ⟨rfl, rfl⟩) | (go_at_call 59; refine (l1Whole_any _ _).mono ?_; rintro e w9 ⟨rfl, rfl⟩))
            go_ret
            exact ⟨rfl, by repeat' (first | with_reducible exact Ext.refl _ | with_reducible assumption | with_reducible refine Ext.set ?_ ?_ _ _ | with_reducible refine Ext.alloc ?_ _ | with_reducible refine Ext.drew ?_ | with_reducible refine Ext.drewN ?_ _ | with_reducible refine Ext.trans ?_ (by with_reducible assumption) | omega | (simp; done) | (simp; omega))⟩
          · skip
            have Ek := Lib.hid ek
            clear ek
            go_enter Try.func74, Try.ntmps74
            go_upto_region 1 with (fail)
            generalize (w.alloc (.cells #[.int .i64 m.kind, .int .i64 m.frm, .int .i64 m.view, .int .i64 m.normal, .int .i64 m.op, .int .i64 m.commit, .int .i64 m.log.base, .slice A0 n0 c0, .slice A1 n1 c1, .slice A2 n2 c2] 119)) = W0 at *
            rw [Ek.out] at x
            clear Ek
            obtain ⟨x_p0, x_f0⟩ := x.at 0 _ rfl
            obtain ⟨x_p1, x_f1⟩ := x.at 1 _ rfl
            obtain ⟨x_p2, x_f2⟩ := x.at 2 _ rfl
            obtain ⟨x_p3, x_f3⟩ := x.at 3 _ rfl
            obtain ⟨x_p4, x_f4⟩ := x.at 4 _ rfl
            obtain ⟨x_p5, x_f5⟩ := x.at 5 _ rfl
            obtain ⟨x_p6, x_f6⟩ := x.at 6 _ rfl
            obtain ⟨x_p7, x_f7⟩ := x.at 7 _ rfl
            obtain ⟨x_p8, x_f8⟩ := x.at 8 _ rfl
            obtain ⟨x_p9, x_f9⟩ := x.at 9 _ rfl
            go_wp2_with (first | (go_at_call 72; refine (l1In_any _ _ _ _).mono ?_; rintro e w9 ⟨rfl, rfl⟩) | (go_at_call 59; refine (l1Whole_any _ _).mono ?_; rintro e w9 ⟨rfl, rfl⟩))
            go_ret
            exact ⟨rfl, by repeat' (first | with_reducible exact Ext.refl _ | with_reducible assumption | with_reducible refine Ext.set ?_ ?_ _ _ | with_reducible refine Ext.alloc ?_ _ | with_reducible refine Ext.drew ?_ | with_reducible refine Ext.drewN ?_ _ | with_reducible refine Ext.trans ?_ (by with_reducible assumption) | omega | (simp; done) | (simp; omega))⟩
          · skip
            have Ek := Lib.hid ek
            clear ek
            go_enter Try.func74, Try.ntmps74
            go_upto_region 1 with (fail)
            generalize (w.alloc (.cells #[.int .i64 m.kind, .int .i64 m.frm, .int .i64 m.view, .int .i64 m.normal, .int .i64 m.op, .int .i64 m.commit, .int .i64 m.log.base, .slice A0 n0 c0, .slice A1 n1 c1, .slice A2 n2 c2] 119)) = W0 at *
            rw [Ek.out] at x
            clear Ek
            obtain ⟨x_p0, x_f0⟩ := x.at 0 _ rfl
            obtain ⟨x_p1, x_f1⟩ := x.at 1 _ rfl
            obtain ⟨x_p2, x_f2⟩ := x.at 2 _ rfl
            obtain ⟨x_p3, x_f3⟩ := x.at 3 _ rfl
            obtain ⟨x_p4, x_f4⟩ := x.at 4 _ rfl
            obtain ⟨x_p5, x_f5⟩ := x.at 5 _ rfl
            obtain ⟨x_p6, x_f6⟩ := x.at 6 _ rfl
            obtain ⟨x_p7, x_f7⟩ := x.at 7 _ rfl
            obtain ⟨x_p8, x_f8⟩ := x.at 8 _ rfl
            obtain ⟨x_p9, x_f9⟩ := x.at 9 _ rfl
            go_wp2_with (first | (go_at_call 72; refine (l1In_any _ _ _ _).mono ?_; rintro e w9 ⟨rfl, rfl⟩) | (go_at_call 59; refine (l1Whole_any _ _).mono ?_; rintro e w9 ⟨rfl, rfl⟩))
            go_ret
            exact ⟨rfl, by repeat' (first | with_reducible exact Ext.refl _ | with_reducible assumption | with_reducible refine Ext.set ?_ ?_ _ _ | with_reducible refine Ext.alloc ?_ _ | with_reducible refine Ext.drew ?_ | with_reducible refine Ext.drewN ?_ _ | with_reducible refine Ext.trans ?_ (by with_reducible assumption) | omega | (simp; done) | (simp; omega))⟩
        | true =>
          obtain ⟨b4, hb4⟩ : ∃ b, wholeB m.op = b := ⟨_, rfl⟩
          rw [hb4]
          cases b4 with
          | false =>
            rcases hkk with ek | ek | ek | ek
            · skip
              have Ek := Lib.hid ek
              clear ek
              go_enter Try.func74, Try.ntmps74
              go_upto_region 1 with (fail)
              generalize (w.alloc (.cells #[.int .i64 m.kind, .int .i64 m.frm, .int .i64 m.view, .int .i64 m.normal, .int .i64 m.op, .int .i64 m.commit, .int .i64 m.log.base, .slice A0 n0 c0, .slice A1 n1 c1, .slice A2 n2 c2] 119)) = W0 at *
              rw [Ek.out] at x
              clear Ek
              obtain ⟨x_p0, x_f0⟩ := x.at 0 _ rfl
              obtain ⟨x_p1, x_f1⟩ := x.at 1 _ rfl
              obtain ⟨x_p2, x_f2⟩ := x.at 2 _ rfl
              obtain ⟨x_p3, x_f3⟩ := x.at 3 _ rfl
              obtain ⟨x_p4, x_f4⟩ := x.at 4 _ rfl
              obtain ⟨x_p5, x_f5⟩ := x.at 5 _ rfl
              obtain ⟨x_p6, x_f6⟩ := x.at 6 _ rfl
              obtain ⟨x_p7, x_f7⟩ := x.at 7 _ rfl
              obtain ⟨x_p8, x_f8⟩ := x.at 8 _ rfl
              obtain ⟨x_p9, x_f9⟩ := x.at 9 _ rfl
              go_wp2_with (first | (go_at_call 72; refine (l1In_any _ _ _ _).mono ?_; rintro e w9 ⟨rfl, rfl⟩) | (go_at_call 59; refine (l1Whole_any _ _).mono ?_; rintro e w9 ⟨rfl, rfl⟩))
              go_ret
              exact ⟨rfl, by repeat' (first | with_reducible exact Ext.refl _ | with_reducible assumption | with_reducible refine Ext.set ?_ ?_ _ _ | with_reducible refine Ext.alloc ?_ _ | with_reducible refine Ext.drew ?_ | with_reducible refine Ext.drewN ?_ _ | with_reducible refine Ext.trans ?_ (by with_reducible assumption) | omega | (simp; done) | (simp; omega))⟩
            · skip
              have Ek := Lib.hid ek
              clear ek
              go_enter Try.func74, Try.ntmps74
              go_upto_region 1 with (fail)
              generalize (w.alloc (.cells #[.int .i64 m.kind, .int .i64 m.frm, .int .i64 m.view, .int .i64 m.normal, .int .i64 m.op, .int .i64 m.commit, .int .i64 m.log.base, .slice A0 n0 c0, .slice A1 n1 c1, .slice A2 n2 c2] 119)) = W0 at *
              rw [Ek.out] at x
              clear Ek
              obtain ⟨x_p0, x_f0⟩ := x.at 0 _ rfl
              obtain ⟨x_p1, x_f1⟩ := x.at 1 _ rfl
              obtain ⟨x_p2, x_f2⟩ := x.at 2 _ rfl
              obtain ⟨x_p3, x_f3⟩ := x.at 3 _ rfl
              obtain ⟨x_p4, x_f4⟩ := x.at 4 _ rfl
              obtain ⟨x_p5, x_f5⟩ := x.at 5 _ rfl
              obtain ⟨x_p6, x_f6⟩ := x.at 6 _ rfl
              obtain ⟨x_p7, x_f7⟩ := x.at 7 _ rfl
              obtain ⟨x_p8, x_f8⟩ := x.at 8 _ rfl
              obtain ⟨x_p9, x_f9⟩ := x.at 9 _ rfl
              go_wp2_with (first | (go_at_call 72; refine (l1In_any _ _ _ _).mono ?_; rintro e w9 ⟨rfl, rfl⟩) | (go_at_call 59; refine (l1Whole_any _ _).mono ?_; rintro e w9 ⟨rfl, rfl⟩))
              go_ret
              exact ⟨rfl, by repeat' (first | with_reducible exact Ext.refl _ | with_reducible assumption | with_reducible refine Ext.set ?_ ?_ _ _ | with_reducible refine Ext.alloc ?_ _ | with_reducible refine Ext.drew ?_ | with_reducible refine Ext.drewN ?_ _ | with_reducible refine Ext.trans ?_ (by with_reducible assumption) | omega | (simp; done) | (simp; omega))⟩
            · skip
              have Ek := Lib.hid ek
              clear ek
              go_enter Try.func74, Try.ntmps74
              go_upto_region 1 with (fail)
              generalize (w.alloc (.cells #[.int .i64 m.kind, .int .i64 m.frm, .int .i64 m.view, .int .i64 m.normal, .int .i64 m.op, .int .i64 m.commit, .int .i64 m.log.base, .slice A0 n0 c0, .slice A1 n1 c1, .slice A2 n2 c2] 119)) = W0 at *
              rw [Ek.out] at x
              clear Ek
              obtain ⟨x_p0, x_f0⟩ := x.at 0 _ rfl
              obtain ⟨x_p1, x_f1⟩ := x.at 1 _ rfl
              obtain ⟨x_p2, x_f2⟩ := x.at 2 _ rfl
              obtain ⟨x_p3, x_f3⟩ := x.at 3 _ rfl
              obtain ⟨x_p4, x_f4⟩ := x.at 4 _ rfl
              obtain ⟨x_p5, x_f5⟩ := x.at 5 _ rfl
              obtain ⟨x_p6, x_f6⟩ := x.at 6 _ rfl
              obtain ⟨x_p7, x_f7⟩ := x.at 7 _ rfl
              obtain ⟨x_p8, x_f8⟩ := x.at 8 _ rfl
              obtain ⟨x_p9, x_f9⟩ := x.at 9 _ rfl
              go_wp2_with (first | (go_at_call 72; refine (l1In_any _ _ _ _).mono ?_; rintro e w9 ⟨rfl, rfl⟩) | (go_at_call 59; refine (l1Whole_any _ _).mono ?_; rintro e w9 ⟨rfl, rfl⟩))
              go_ret
              exact ⟨rfl, by repeat' (first | with_reducible exact Ext.refl _ | with_reducible assumption | with_reducible refine Ext.set ?_ ?_ _ _ | with_reducible refine Ext.alloc ?_ _ | with_reducible refine Ext.drew ?_ | with_reducible refine Ext.drewN ?_ _ | with_reducible refine Ext.trans ?_ (by with_reducible assumption) | omega | (simp; done) | (simp; omega))⟩
            · skip
              have Ek := Lib.hid ek
              clear ek
              go_enter Try.func74, Try.ntmps74
              go_upto_region 1 with (fail)
              generalize (w.alloc (.cells #[.int .i64 m.kind, .int .i64 m.frm, .int .i64 m.view, .int .i64 m.normal, .int .i64 m.op, .int .i64 m.commit, .int .i64 m.log.base, .slice A0 n0 c0, .slice A1 n1 c1, .slice A2 n2 c2] 119)) = W0 at *
              rw [Ek.out] at x
              clear Ek
              obtain ⟨x_p0, x_f0⟩ := x.at 0 _ rfl
              obtain ⟨x_p1, x_f1⟩ := x.at 1 _ rfl
              obtain ⟨x_p2, x_f2⟩ := x.at 2 _ rfl
              obtain ⟨x_p3, x_f3⟩ := x.at 3 _ rfl
              obtain ⟨x_p4, x_f4⟩ := x.at 4 _ rfl
              obtain ⟨x_p5, x_f5⟩ := x.at 5 _ rfl
              obtain ⟨x_p6, x_f6⟩ := x.at 6 _ rfl
              obtain ⟨x_p7, x_f7⟩ := x.at 7 _ rfl
              obtain ⟨x_p8, x_f8⟩ := x.at 8 _ rfl
              obtain ⟨x_p9, x_f9⟩ := x.at 9 _ rfl
              go_wp2_with (first | (go_at_call 72; refine (l1In_any _ _ _ _).mono ?_; rintro e w9 ⟨rfl, rfl⟩) | (go_at_call 59; refine (l1Whole_any _ _).mono ?_; rintro e w9 ⟨rfl, rfl⟩))
              go_ret
              exact ⟨rfl, by repeat' (first | with_reducible exact Ext.refl _ | with_reducible assumption | with_reducible refine Ext.set ?_ ?_ _ _ | with_reducible refine Ext.alloc ?_ _ | with_reducible refine Ext.drew ?_ | with_reducible refine Ext.drewN ?_ _ | with_reducible refine Ext.trans ?_ (by with_reducible assumption) | omega | (simp; done) | (simp; omega))⟩
          | true =>
            rcases hkk with ek | ek | ek | ek
            · skip
              have Ek := Lib.hid ek
              clear ek
              go_enter Try.func74, Try.ntmps74
              go_upto_region 1 with (fail)
              generalize (w.alloc (.cells #[.int .i64 m.kind, .int .i64 m.frm, .int .i64 m.view, .int .i64 m.normal, .int .i64 m.op, .int .i64 m.commit, .int .i64 m.log.base, .slice A0 n0 c0, .slice A1 n1 c1, .slice A2 n2 c2] 119)) = W0 at *
              rw [Ek.out] at x
              clear Ek
              obtain ⟨x_p0, x_f0⟩ := x.at 0 _ rfl
              obtain ⟨x_p1, x_f1⟩ := x.at 1 _ rfl
              obtain ⟨x_p2, x_f2⟩ := x.at 2 _ rfl
              obtain ⟨x_p3, x_f3⟩ := x.at 3 _ rfl
              obtain ⟨x_p4, x_f4⟩ := x.at 4 _ rfl
              obtain ⟨x_p5, x_f5⟩ := x.at 5 _ rfl
              obtain ⟨x_p6, x_f6⟩ := x.at 6 _ rfl
              obtain ⟨x_p7, x_f7⟩ := x.at 7 _ rfl
              obtain ⟨x_p8, x_f8⟩ := x.at 8 _ rfl
              obtain ⟨x_p9, x_f9⟩ := x.at 9 _ rfl
              go_wp2_with (first | (go_at_call 72; refine (l1In_any _ _ _ _).mono ?_; rintro e w9 ⟨rfl, rfl⟩) | (go_at_call 59; refine (l1Whole_any _ _).mono ?_; rintro e w9 ⟨rfl, rfl⟩))
              refine (l6Log_s _ m.log m.commit _ B (by exact hl0.keep (keepE' hW0 hB)) (by have := hW0.size; omega)).mono ?_
              rintro e w1 ⟨rfl, hE1⟩
              have hX1 := hW0.trans hE1
              go_wp2
              go_ret
              exact ⟨rfl, hX1⟩
            · skip
              have Ek := Lib.hid ek
              clear ek
              go_enter Try.func74, Try.ntmps74
              go_upto_region 1 with (fail)
              generalize (w.alloc (.cells #[.int .i64 m.kind, .int .i64 m.frm, .int .i64 m.view, .int .i64 m.normal, .int .i64 m.op, .int .i64 m.commit, .int .i64 m.log.base, .slice A0 n0 c0, .slice A1 n1 c1, .slice A2 n2 c2] 119)) = W0 at *
              rw [Ek.out] at x
              clear Ek
              obtain ⟨x_p0, x_f0⟩ := x.at 0 _ rfl
              obtain ⟨x_p1, x_f1⟩ := x.at 1 _ rfl
              obtain ⟨x_p2, x_f2⟩ := x.at 2 _ rfl
              obtain ⟨x_p3, x_f3⟩ := x.at 3 _ rfl
              obtain ⟨x_p4, x_f4⟩ := x.at 4 _ rfl
              obtain ⟨x_p5, x_f5⟩ := x.at 5 _ rfl
              obtain ⟨x_p6, x_f6⟩ := x.at 6 _ rfl
              obtain ⟨x_p7, x_f7⟩ := x.at 7 _ rfl
              obtain ⟨x_p8, x_f8⟩ := x.at 8 _ rfl
              obtain ⟨x_p9, x_f9⟩ := x.at 9 _ rfl
              go_wp2_with (first | (go_at_call 72; refine (l1In_any _ _ _ _).mono ?_; rintro e w9 ⟨rfl, rfl⟩) | (go_at_call 59; refine (l1Whole_any _ _).mono ?_; rintro e w9 ⟨rfl, rfl⟩))
              refine (l6Log_s _ m.log m.commit _ B (by exact hl0.keep (keepE' hW0 hB)) (by have := hW0.size; omega)).mono ?_
              rintro e w1 ⟨rfl, hE1⟩
              have hX1 := hW0.trans hE1
              go_wp2
              go_ret
              exact ⟨rfl, hX1⟩
            · skip
              have Ek := Lib.hid ek
              clear ek
              go_enter Try.func74, Try.ntmps74
              go_upto_region 1 with (fail)
              generalize (w.alloc (.cells #[.int .i64 m.kind, .int .i64 m.frm, .int .i64 m.view, .int .i64 m.normal, .int .i64 m.op, .int .i64 m.commit, .int .i64 m.log.base, .slice A0 n0 c0, .slice A1 n1 c1, .slice A2 n2 c2] 119)) = W0 at *
              rw [Ek.out] at x
              clear Ek
              obtain ⟨x_p0, x_f0⟩ := x.at 0 _ rfl
              obtain ⟨x_p1, x_f1⟩ := x.at 1 _ rfl
              obtain ⟨x_p2, x_f2⟩ := x.at 2 _ rfl
              obtain ⟨x_p3, x_f3⟩ := x.at 3 _ rfl
              obtain ⟨x_p4, x_f4⟩ := x.at 4 _ rfl
              obtain ⟨x_p5, x_f5⟩ := x.at 5 _ rfl
              obtain ⟨x_p6, x_f6⟩ := x.at 6 _ rfl
              obtain ⟨x_p7, x_f7⟩ := x.at 7 _ rfl
              obtain ⟨x_p8, x_f8⟩ := x.at 8 _ rfl
              obtain ⟨x_p9, x_f9⟩ := x.at 9 _ rfl
              go_wp2_with (first | (go_at_call 72; refine (l1In_any _ _ _ _).mono ?_; rintro e w9 ⟨rfl, rfl⟩) | (go_at_call 59; refine (l1Whole_any _ _).mono ?_; rintro e w9 ⟨rfl, rfl⟩))
              refine (l6Log_s _ m.log m.commit _ B (by exact hl0.keep (keepE' hW0 hB)) (by have := hW0.size; omega)).mono ?_
              rintro e w1 ⟨rfl, hE1⟩
              have hX1 := hW0.trans hE1
              go_wp2
              go_ret
              exact ⟨rfl, hX1⟩
            · skip
              have Ek := Lib.hid ek
              clear ek
              go_enter Try.func74, Try.ntmps74
              go_upto_region 1 with (fail)
              generalize (w.alloc (.cells #[.int .i64 m.kind, .int .i64 m.frm, .int .i64 m.view, .int .i64 m.normal, .int .i64 m.op, .int .i64 m.commit, .int .i64 m.log.base, .slice A0 n0 c0, .slice A1 n1 c1, .slice A2 n2 c2] 119)) = W0 at *
              rw [Ek.out] at x
              clear Ek
              obtain ⟨x_p0, x_f0⟩ := x.at 0 _ rfl
              obtain ⟨x_p1, x_f1⟩ := x.at 1 _ rfl
              obtain ⟨x_p2, x_f2⟩ := x.at 2 _ rfl
              obtain ⟨x_p3, x_f3⟩ := x.at 3 _ rfl
              obtain ⟨x_p4, x_f4⟩ := x.at 4 _ rfl
              obtain ⟨x_p5, x_f5⟩ := x.at 5 _ rfl
              obtain ⟨x_p6, x_f6⟩ := x.at 6 _ rfl
              obtain ⟨x_p7, x_f7⟩ := x.at 7 _ rfl
              obtain ⟨x_p8, x_f8⟩ := x.at 8 _ rfl
              obtain ⟨x_p9, x_f9⟩ := x.at 9 _ rfl
              go_wp2_with (first | (go_at_call 72; refine (l1In_any _ _ _ _).mono ?_; rintro e w9 ⟨rfl, rfl⟩) | (go_at_call 59; refine (l1Whole_any _ _).mono ?_; rintro e w9 ⟨rfl, rfl⟩))
              refine (l6Log_s _ m.log m.commit _ B (by exact hl0.keep (keepE' hW0 hB)) (by have := hW0.size; omega)).mono ?_
              rintro e w1 ⟨rfl, hE1⟩
              have hX1 := hW0.trans hE1
              go_wp2
              go_ret
              exact ⟨rfl, hX1⟩
end Go.Proofs.Ytbfbdhjeoknjkaa
