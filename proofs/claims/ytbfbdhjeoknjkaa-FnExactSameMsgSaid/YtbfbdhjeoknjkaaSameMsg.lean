/-
  SameMsg on both sides, walked.
-/
import Derived.Test.YtbfbdhjeoknjkaaMsg
namespace Go.Proofs.Ytbfbdhjeoknjkaa
open Go.RowKit

theorem numOf_70 (g : Nat) (w : World) : Calls Try.prog 43 #[.pointer (some ⟨g, 0, none⟩), .int .u8 70] w fun e w' => e = .returned (.pointer (some ⟨g, 1, none⟩)) ∧ w = w' := by
  go_enter Try.func43, Try.ntmps43
  go_wp2
  go_ret
  exact ⟨rfl, rfl⟩
theorem numOf_86 (g : Nat) (w : World) : Calls Try.prog 43 #[.pointer (some ⟨g, 0, none⟩), .int .u8 86] w fun e w' => e = .returned (.pointer (some ⟨g, 2, none⟩)) ∧ w = w' := by
  go_enter Try.func43, Try.ntmps43
  go_wp2
  go_ret
  exact ⟨rfl, rfl⟩
theorem numOf_79 (g : Nat) (w : World) : Calls Try.prog 43 #[.pointer (some ⟨g, 0, none⟩), .int .u8 79] w fun e w' => e = .returned (.pointer (some ⟨g, 3, none⟩)) ∧ w = w' := by
  go_enter Try.func43, Try.ntmps43
  go_wp2
  go_ret
  exact ⟨rfl, rfl⟩
theorem numOf_67 (g : Nat) (w : World) : Calls Try.prog 43 #[.pointer (some ⟨g, 0, none⟩), .int .u8 67] w fun e w' => e = .returned (.pointer (some ⟨g, 4, none⟩)) ∧ w = w' := by
  go_enter Try.func43, Try.ntmps43
  go_wp2
  go_ret
  exact ⟨rfl, rfl⟩
theorem numOf_78 (g : Nat) (w : World) : Calls Try.prog 43 #[.pointer (some ⟨g, 0, none⟩), .int .u8 78] w fun e w' => e = .returned (.pointer (some ⟨g, 5, none⟩)) ∧ w = w' := by
  go_enter Try.func43, Try.ntmps43
  go_wp2
  go_ret
  exact ⟨rfl, rfl⟩
theorem numOf_110 (g : Nat) (w : World) : Calls Try.prog 43 #[.pointer (some ⟨g, 0, none⟩), .int .u8 110] w fun e w' => e = .returned (.pointer (some ⟨g, 6, none⟩)) ∧ w = w' := by
  go_enter Try.func43, Try.ntmps43
  go_wp2
  go_ret
  exact ⟨rfl, rfl⟩
theorem numOf_99 (g : Nat) (w : World) : Calls Try.prog 43 #[.pointer (some ⟨g, 0, none⟩), .int .u8 99] w fun e w' => e = .returned (.pointer (some ⟨g, 7, none⟩)) ∧ w = w' := by
  go_enter Try.func43, Try.ntmps43
  go_wp2
  go_ret
  exact ⟨rfl, rfl⟩
theorem numOf_114 (g : Nat) (w : World) : Calls Try.prog 43 #[.pointer (some ⟨g, 0, none⟩), .int .u8 114] w fun e w' => e = .returned (.pointer (some ⟨g, 8, none⟩)) ∧ w = w' := by
  go_enter Try.func43, Try.ntmps43
  go_wp2
  go_ret
  exact ⟨rfl, rfl⟩
theorem numOf_65 (g : Nat) (w : World) : Calls Try.prog 43 #[.pointer (some ⟨g, 0, none⟩), .int .u8 65] w fun e w' => e = .returned (.pointer (some ⟨g, 9, none⟩)) ∧ w = w' := by
  go_enter Try.func43, Try.ntmps43
  go_wp2
  go_ret
  exact ⟨rfl, rfl⟩
def fl (m : MsgD) : List Int := [m.frm, m.view, m.op, m.commit, m.normal, m.nonce, m.client, m.req, m.answer]
theorem msg_eq {a b : MsgD} (h1 : fl a = fl b) (h2 : a.kind = b.kind) (h3 : a.cmd = b.cmd) (h4 : a.log = b.log) : a = b := by
  cases a; cases b
  simp only [fl, List.cons.injEq, and_true] at h1
  simp_all


set_option maxRecDepth 100000 in
set_option maxHeartbeats 8000000 in
theorem sameMsg_i (u v : Value) (a b : MsgD) (w : World) (B0 B3 : Nat) (hu : R_Msg w B0 u a) (hX0 : B0 ≤ w.heap.size) (hv : R_Msg w B3 v b) (hY0 : B3 ≤ w.heap.size) :
    Calls Try.prog 12 #[u, v] w fun e w' => e = .returned (.bool (decide (a = b))) ∧ Ext w w' := by
  obtain ⟨u0, s0, t0, rfl, h0u, h0s, h0t⟩ := hu
  obtain ⟨A0, n0, c0, hv0, -⟩ := id h0u
  obtain ⟨A1, n1, c1, hv1, -⟩ := id h0s
  obtain ⟨A2, n2, c2, hv2, -⟩ := id h0t
  subst hv0 hv1 hv2
  have hl0 : R_Log w B0 (.agg #[.int .i64 a.log.base, .slice A0 n0 c0, .slice A1 n1 c1, .slice A2 n2 c2]) a.log := ⟨_, _, _, rfl, h0u, h0s, h0t⟩
  clear h0u h0s h0t
  obtain ⟨u3, s3, t3, rfl, h3u, h3s, h3t⟩ := hv
  obtain ⟨A3, n3, c3, hv3, -⟩ := id h3u
  obtain ⟨A4, n4, c4, hv4, -⟩ := id h3s
  obtain ⟨A5, n5, c5, hv5, -⟩ := id h3t
  subst hv3 hv4 hv5
  have hl3 : R_Log w B3 (.agg #[.int .i64 b.log.base, .slice A3 n3 c3, .slice A4 n4 c4, .slice A5 n5 c5]) b.log := ⟨_, _, _, rfl, h3u, h3s, h3t⟩
  clear h3u h3s h3t
  have hW0 : Ext w ((w.alloc (.cells #[.int .i64 a.kind, .int .i64 a.frm, .int .i64 a.view, .int .i64 a.op, .int .i64 a.commit, .int .i64 a.normal, .int .i64 a.nonce, .int .i64 a.client, .int .i64 a.req, .int .i64 a.answer, .int .i64 a.cmd.kind, .int .i64 a.cmd.key, .int .i64 a.cmd.value, .int .i64 a.log.base, .slice A0 n0 c0, .slice A1 n1 c1, .slice A2 n2 c2] 44)).alloc (.cells #[.int .i64 b.kind, .int .i64 b.frm, .int .i64 b.view, .int .i64 b.op, .int .i64 b.commit, .int .i64 b.normal, .int .i64 b.nonce, .int .i64 b.client, .int .i64 b.req, .int .i64 b.answer, .int .i64 b.cmd.kind, .int .i64 b.cmd.key, .int .i64 b.cmd.value, .int .i64 b.log.base, .slice A3 n3 c3, .slice A4 n4 c4, .slice A5 n5 c5] 44)) := by repeat' (first | with_reducible exact Ext.refl _ | with_reducible assumption | with_reducible refine Ext.set ?_ ?_ _ _ | with_reducible refine Ext.alloc ?_ _ | with_reducible refine Ext.drew ?_ | with_reducible refine Ext.drewN ?_ _ | with_reducible refine Ext.trans ?_ (by with_reducible assumption) | omega | (simp; done) | (simp; omega))
  have zW0 : w.heap.size + 2 ≤ ((w.alloc (.cells #[.int .i64 a.kind, .int .i64 a.frm, .int .i64 a.view, .int .i64 a.op, .int .i64 a.commit, .int .i64 a.normal, .int .i64 a.nonce, .int .i64 a.client, .int .i64 a.req, .int .i64 a.answer, .int .i64 a.cmd.kind, .int .i64 a.cmd.key, .int .i64 a.cmd.value, .int .i64 a.log.base, .slice A0 n0 c0, .slice A1 n1 c1, .slice A2 n2 c2] 44)).alloc (.cells #[.int .i64 b.kind, .int .i64 b.frm, .int .i64 b.view, .int .i64 b.op, .int .i64 b.commit, .int .i64 b.normal, .int .i64 b.nonce, .int .i64 b.client, .int .i64 b.req, .int .i64 b.answer, .int .i64 b.cmd.kind, .int .i64 b.cmd.key, .int .i64 b.cmd.value, .int .i64 b.log.base, .slice A3 n3 c3, .slice A4 n4 c4, .slice A5 n5 c5] 44)).heap.size := by simp
  have x : Blk ((w.alloc (.cells #[.int .i64 a.kind, .int .i64 a.frm, .int .i64 a.view, .int .i64 a.op, .int .i64 a.commit, .int .i64 a.normal, .int .i64 a.nonce, .int .i64 a.client, .int .i64 a.req, .int .i64 a.answer, .int .i64 a.cmd.kind, .int .i64 a.cmd.key, .int .i64 a.cmd.value, .int .i64 a.log.base, .slice A0 n0 c0, .slice A1 n1 c1, .slice A2 n2 c2] 44)).alloc (.cells #[.int .i64 b.kind, .int .i64 b.frm, .int .i64 b.view, .int .i64 b.op, .int .i64 b.commit, .int .i64 b.normal, .int .i64 b.nonce, .int .i64 b.client, .int .i64 b.req, .int .i64 b.answer, .int .i64 b.cmd.kind, .int .i64 b.cmd.key, .int .i64 b.cmd.value, .int .i64 b.log.base, .slice A3 n3 c3, .slice A4 n4 c4, .slice A5 n5 c5] 44)) w.heap.size 44 [.int .i64 a.kind, .int .i64 a.frm, .int .i64 a.view, .int .i64 a.op, .int .i64 a.commit, .int .i64 a.normal, .int .i64 a.nonce, .int .i64 a.client, .int .i64 a.req, .int .i64 a.answer, .int .i64 a.cmd.kind, .int .i64 a.cmd.key, .int .i64 a.cmd.value, .int .i64 a.log.base, .slice A0 n0 c0, .slice A1 n1 c1, .slice A2 n2 c2] := ((Blk.new w #[.int .i64 a.kind, .int .i64 a.frm, .int .i64 a.view, .int .i64 a.op, .int .i64 a.commit, .int .i64 a.normal, .int .i64 a.nonce, .int .i64 a.client, .int .i64 a.req, .int .i64 a.answer, .int .i64 a.cmd.kind, .int .i64 a.cmd.key, .int .i64 a.cmd.value, .int .i64 a.log.base, .slice A0 n0 c0, .slice A1 n1 c1, .slice A2 n2 c2] 44 (by first | rfl | simp)).alloc (.cells #[.int .i64 b.kind, .int .i64 b.frm, .int .i64 b.view, .int .i64 b.op, .int .i64 b.commit, .int .i64 b.normal, .int .i64 b.nonce, .int .i64 b.client, .int .i64 b.req, .int .i64 b.answer, .int .i64 b.cmd.kind, .int .i64 b.cmd.key, .int .i64 b.cmd.value, .int .i64 b.log.base, .slice A3 n3 c3, .slice A4 n4 c4, .slice A5 n5 c5] 44))
  have y : Blk ((w.alloc (.cells #[.int .i64 a.kind, .int .i64 a.frm, .int .i64 a.view, .int .i64 a.op, .int .i64 a.commit, .int .i64 a.normal, .int .i64 a.nonce, .int .i64 a.client, .int .i64 a.req, .int .i64 a.answer, .int .i64 a.cmd.kind, .int .i64 a.cmd.key, .int .i64 a.cmd.value, .int .i64 a.log.base, .slice A0 n0 c0, .slice A1 n1 c1, .slice A2 n2 c2] 44)).alloc (.cells #[.int .i64 b.kind, .int .i64 b.frm, .int .i64 b.view, .int .i64 b.op, .int .i64 b.commit, .int .i64 b.normal, .int .i64 b.nonce, .int .i64 b.client, .int .i64 b.req, .int .i64 b.answer, .int .i64 b.cmd.kind, .int .i64 b.cmd.key, .int .i64 b.cmd.value, .int .i64 b.log.base, .slice A3 n3 c3, .slice A4 n4 c4, .slice A5 n5 c5] 44)) (w.heap.size + 1) 44 [.int .i64 b.kind, .int .i64 b.frm, .int .i64 b.view, .int .i64 b.op, .int .i64 b.commit, .int .i64 b.normal, .int .i64 b.nonce, .int .i64 b.client, .int .i64 b.req, .int .i64 b.answer, .int .i64 b.cmd.kind, .int .i64 b.cmd.key, .int .i64 b.cmd.value, .int .i64 b.log.base, .slice A3 n3 c3, .slice A4 n4 c4, .slice A5 n5 c5] := (Blk.new (w.alloc (.cells #[.int .i64 a.kind, .int .i64 a.frm, .int .i64 a.view, .int .i64 a.op, .int .i64 a.commit, .int .i64 a.normal, .int .i64 a.nonce, .int .i64 a.client, .int .i64 a.req, .int .i64 a.answer, .int .i64 a.cmd.kind, .int .i64 a.cmd.key, .int .i64 a.cmd.value, .int .i64 a.log.base, .slice A0 n0 c0, .slice A1 n1 c1, .slice A2 n2 c2] 44)) #[.int .i64 b.kind, .int .i64 b.frm, .int .i64 b.view, .int .i64 b.op, .int .i64 b.commit, .int .i64 b.normal, .int .i64 b.nonce, .int .i64 b.client, .int .i64 b.req, .int .i64 b.answer, .int .i64 b.cmd.kind, .int .i64 b.cmd.key, .int .i64 b.cmd.value, .int .i64 b.log.base, .slice A3 n3 c3, .slice A4 n4 c4, .slice A5 n5 c5] 44 (by first | rfl | simp))
  go_enter Try.func12, Try.ntmps12
  go_upto_region 1 with (fail)
  generalize ((w.alloc (.cells #[.int .i64 a.kind, .int .i64 a.frm, .int .i64 a.view, .int .i64 a.op, .int .i64 a.commit, .int .i64 a.normal, .int .i64 a.nonce, .int .i64 a.client, .int .i64 a.req, .int .i64 a.answer, .int .i64 a.cmd.kind, .int .i64 a.cmd.key, .int .i64 a.cmd.value, .int .i64 a.log.base, .slice A0 n0 c0, .slice A1 n1 c1, .slice A2 n2 c2] 44)).alloc (.cells #[.int .i64 b.kind, .int .i64 b.frm, .int .i64 b.view, .int .i64 b.op, .int .i64 b.commit, .int .i64 b.normal, .int .i64 b.nonce, .int .i64 b.client, .int .i64 b.req, .int .i64 b.answer, .int .i64 b.cmd.kind, .int .i64 b.cmd.key, .int .i64 b.cmd.value, .int .i64 b.log.base, .slice A3 n3 c3, .slice A4 n4 c4, .slice A5 n5 c5] 44)) = W0 at *
  go_wp2
  go_loopw [6] (fun iv wr => ∃ j : Nat, j ≤ 9 ∧ iv = .int .i64 j ∧ Hid ((fl a).take j = (fl b).take j) ∧ Blk wr w.heap.size 44 [.int .i64 a.kind, .int .i64 a.frm, .int .i64 a.view, .int .i64 a.op, .int .i64 a.commit, .int .i64 a.normal, .int .i64 a.nonce, .int .i64 a.client, .int .i64 a.req, .int .i64 a.answer, .int .i64 a.cmd.kind, .int .i64 a.cmd.key, .int .i64 a.cmd.value, .int .i64 a.log.base, .slice A0 n0 c0, .slice A1 n1 c1, .slice A2 n2 c2] ∧ Blk wr (w.heap.size + 1) 44 [.int .i64 b.kind, .int .i64 b.frm, .int .i64 b.view, .int .i64 b.op, .int .i64 b.commit, .int .i64 b.normal, .int .i64 b.nonce, .int .i64 b.client, .int .i64 b.req, .int .i64 b.answer, .int .i64 b.cmd.kind, .int .i64 b.cmd.key, .int .i64 b.cmd.value, .int .i64 b.log.base, .slice A3 n3 c3, .slice A4 n4 c4, .slice A5 n5 c5] ∧ Ext w wr) (fun iv _ => 9 - (intOf iv).toNat)
  case atStart => exact ⟨0, by omega, rfl, rfl, x, y, hW0⟩
  case round =>
    clear x y
    obtain ⟨j, hj, rfl, hpre, x, y, hX⟩ := hrel
    by_cases hlt : j < 9
    · have hcs : j = 0 ∨ j = 1 ∨ j = 2 ∨ j = 3 ∨ j = 4 ∨ j = 5 ∨ j = 6 ∨ j = 7 ∨ j = 8 := by omega
      clear hj hlt
      rcases hcs with rfl | rfl | rfl | rfl | rfl | rfl | rfl | rfl | rfl
      · obtain ⟨x_p, -⟩ := x.at 1 _ rfl
        obtain ⟨y_p, -⟩ := y.at 1 _ rfl
        by_cases he : a.frm = b.frm
        · have hne : (a.frm != b.frm) = false := by simp [he]
          have hp2 : Hid ((fl a).take 1 = (fl b).take 1) := by
            show _ = _
            have h := hpre.out
            simp only [fl, List.take_succ_cons, List.take_zero, List.cons.injEq, and_true] at h ⊢
            simp_all
          clear he hpre
          go_wp2
          go_quiet ((go_at_call 43; exact quietL (numOf_70 _ _)))
          go_wp2
          go_roundw
          case rel => exact ⟨1, by omega, by go_num, hp2, x, y, by repeat' (first | with_reducible exact Ext.refl _ | with_reducible assumption | with_reducible refine Ext.set ?_ ?_ _ _ | with_reducible refine Ext.alloc ?_ _ | with_reducible refine Ext.drew ?_ | with_reducible refine Ext.drewN ?_ _ | with_reducible refine Ext.trans ?_ (by with_reducible assumption) | omega | (simp; done) | (simp; omega))⟩
          case measure => simp [intOf]
        · have hne : (a.frm != b.frm) = true := by simp [he]
          have hf : Hid (a ≠ b) := fun h => he (by rw [h])
          clear he hpre
          go_wp2
          go_quiet ((go_at_call 43; exact quietL (numOf_70 _ _)))
          go_wp2
          go_ret
          exact ⟨ret_bool (Eq.symm (decide_eq_false hf.out)), by repeat' (first | with_reducible exact Ext.refl _ | with_reducible assumption | with_reducible refine Ext.set ?_ ?_ _ _ | with_reducible refine Ext.alloc ?_ _ | with_reducible refine Ext.drew ?_ | with_reducible refine Ext.drewN ?_ _ | with_reducible refine Ext.trans ?_ (by with_reducible assumption) | omega | (simp; done) | (simp; omega))⟩
      · obtain ⟨x_p, -⟩ := x.at 2 _ rfl
        obtain ⟨y_p, -⟩ := y.at 2 _ rfl
        by_cases he : a.view = b.view
        · have hne : (a.view != b.view) = false := by simp [he]
          have hp2 : Hid ((fl a).take 2 = (fl b).take 2) := by
            show _ = _
            have h := hpre.out
            simp only [fl, List.take_succ_cons, List.take_zero, List.cons.injEq, and_true] at h ⊢
            simp_all
          clear he hpre
          go_wp2
          go_quiet ((go_at_call 43; exact quietL (numOf_86 _ _)))
          go_wp2
          go_roundw
          case rel => exact ⟨2, by omega, by go_num, hp2, x, y, by repeat' (first | with_reducible exact Ext.refl _ | with_reducible assumption | with_reducible refine Ext.set ?_ ?_ _ _ | with_reducible refine Ext.alloc ?_ _ | with_reducible refine Ext.drew ?_ | with_reducible refine Ext.drewN ?_ _ | with_reducible refine Ext.trans ?_ (by with_reducible assumption) | omega | (simp; done) | (simp; omega))⟩
          case measure => simp [intOf]
        · have hne : (a.view != b.view) = true := by simp [he]
          have hf : Hid (a ≠ b) := fun h => he (by rw [h])
          clear he hpre
          go_wp2
          go_quiet ((go_at_call 43; exact quietL (numOf_86 _ _)))
          go_wp2
          go_ret
          exact ⟨ret_bool (Eq.symm (decide_eq_false hf.out)), by repeat' (first | with_reducible exact Ext.refl _ | with_reducible assumption | with_reducible refine Ext.set ?_ ?_ _ _ | with_reducible refine Ext.alloc ?_ _ | with_reducible refine Ext.drew ?_ | with_reducible refine Ext.drewN ?_ _ | with_reducible refine Ext.trans ?_ (by with_reducible assumption) | omega | (simp; done) | (simp; omega))⟩
      · obtain ⟨x_p, -⟩ := x.at 3 _ rfl
        obtain ⟨y_p, -⟩ := y.at 3 _ rfl
        by_cases he : a.op = b.op
        · have hne : (a.op != b.op) = false := by simp [he]
          have hp2 : Hid ((fl a).take 3 = (fl b).take 3) := by
            show _ = _
            have h := hpre.out
            simp only [fl, List.take_succ_cons, List.take_zero, List.cons.injEq, and_true] at h ⊢
            simp_all
          clear he hpre
          go_wp2
          go_quiet ((go_at_call 43; exact quietL (numOf_79 _ _)))
          go_wp2
          go_roundw
          case rel => exact ⟨3, by omega, by go_num, hp2, x, y, by repeat' (first | with_reducible exact Ext.refl _ | with_reducible assumption | with_reducible refine Ext.set ?_ ?_ _ _ | with_reducible refine Ext.alloc ?_ _ | with_reducible refine Ext.drew ?_ | with_reducible refine Ext.drewN ?_ _ | with_reducible refine Ext.trans ?_ (by with_reducible assumption) | omega | (simp; done) | (simp; omega))⟩
          case measure => simp [intOf]
        · have hne : (a.op != b.op) = true := by simp [he]
          have hf : Hid (a ≠ b) := fun h => he (by rw [h])
          clear he hpre
          go_wp2
          go_quiet ((go_at_call 43; exact quietL (numOf_79 _ _)))
          go_wp2
          go_ret
          exact ⟨ret_bool (Eq.symm (decide_eq_false hf.out)), by repeat' (first | with_reducible exact Ext.refl _ | with_reducible assumption | with_reducible refine Ext.set ?_ ?_ _ _ | with_reducible refine Ext.alloc ?_ _ | with_reducible refine Ext.drew ?_ | with_reducible refine Ext.drewN ?_ _ | with_reducible refine Ext.trans ?_ (by with_reducible assumption) | omega | (simp; done) | (simp; omega))⟩
      · obtain ⟨x_p, -⟩ := x.at 4 _ rfl
        obtain ⟨y_p, -⟩ := y.at 4 _ rfl
        by_cases he : a.commit = b.commit
        · have hne : (a.commit != b.commit) = false := by simp [he]
          have hp2 : Hid ((fl a).take 4 = (fl b).take 4) := by
            show _ = _
            have h := hpre.out
            simp only [fl, List.take_succ_cons, List.take_zero, List.cons.injEq, and_true] at h ⊢
            simp_all
          clear he hpre
          go_wp2
          go_quiet ((go_at_call 43; exact quietL (numOf_67 _ _)))
          go_wp2
          go_roundw
          case rel => exact ⟨4, by omega, by go_num, hp2, x, y, by repeat' (first | with_reducible exact Ext.refl _ | with_reducible assumption | with_reducible refine Ext.set ?_ ?_ _ _ | with_reducible refine Ext.alloc ?_ _ | with_reducible refine Ext.drew ?_ | with_reducible refine Ext.drewN ?_ _ | with_reducible refine Ext.trans ?_ (by with_reducible assumption) | omega | (simp; done) | (simp; omega))⟩
          case measure => simp [intOf]
        · have hne : (a.commit != b.commit) = true := by simp [he]
          have hf : Hid (a ≠ b) := fun h => he (by rw [h])
          clear he hpre
          go_wp2
          go_quiet ((go_at_call 43; exact quietL (numOf_67 _ _)))
          go_wp2
          go_ret
          exact ⟨ret_bool (Eq.symm (decide_eq_false hf.out)), by repeat' (first | with_reducible exact Ext.refl _ | with_reducible assumption | with_reducible refine Ext.set ?_ ?_ _ _ | with_reducible refine Ext.alloc ?_ _ | with_reducible refine Ext.drew ?_ | with_reducible refine Ext.drewN ?_ _ | with_reducible refine Ext.trans ?_ (by with_reducible assumption) | omega | (simp; done) | (simp; omega))⟩
      · obtain ⟨x_p, -⟩ := x.at 5 _ rfl
        obtain ⟨y_p, -⟩ := y.at 5 _ rfl
        by_cases he : a.normal = b.normal
        · have hne : (a.normal != b.normal) = false := by simp [he]
          have hp2 : Hid ((fl a).take 5 = (fl b).take 5) := by
            show _ = _
            have h := hpre.out
            simp only [fl, List.take_succ_cons, List.take_zero, List.cons.injEq, and_true] at h ⊢
            simp_all
          clear he hpre
          go_wp2
          go_quiet ((go_at_call 43; exact quietL (numOf_78 _ _)))
          go_wp2
          go_roundw
          case rel => exact ⟨5, by omega, by go_num, hp2, x, y, by repeat' (first | with_reducible exact Ext.refl _ | with_reducible assumption | with_reducible refine Ext.set ?_ ?_ _ _ | with_reducible refine Ext.alloc ?_ _ | with_reducible refine Ext.drew ?_ | with_reducible refine Ext.drewN ?_ _ | with_reducible refine Ext.trans ?_ (by with_reducible assumption) | omega | (simp; done) | (simp; omega))⟩
          case measure => simp [intOf]
        · have hne : (a.normal != b.normal) = true := by simp [he]
          have hf : Hid (a ≠ b) := fun h => he (by rw [h])
          clear he hpre
          go_wp2
          go_quiet ((go_at_call 43; exact quietL (numOf_78 _ _)))
          go_wp2
          go_ret
          exact ⟨ret_bool (Eq.symm (decide_eq_false hf.out)), by repeat' (first | with_reducible exact Ext.refl _ | with_reducible assumption | with_reducible refine Ext.set ?_ ?_ _ _ | with_reducible refine Ext.alloc ?_ _ | with_reducible refine Ext.drew ?_ | with_reducible refine Ext.drewN ?_ _ | with_reducible refine Ext.trans ?_ (by with_reducible assumption) | omega | (simp; done) | (simp; omega))⟩
      · obtain ⟨x_p, -⟩ := x.at 6 _ rfl
        obtain ⟨y_p, -⟩ := y.at 6 _ rfl
        by_cases he : a.nonce = b.nonce
        · have hne : (a.nonce != b.nonce) = false := by simp [he]
          have hp2 : Hid ((fl a).take 6 = (fl b).take 6) := by
            show _ = _
            have h := hpre.out
            simp only [fl, List.take_succ_cons, List.take_zero, List.cons.injEq, and_true] at h ⊢
            simp_all
          clear he hpre
          go_wp2
          go_quiet ((go_at_call 43; exact quietL (numOf_110 _ _)))
          go_wp2
          go_roundw
          case rel => exact ⟨6, by omega, by go_num, hp2, x, y, by repeat' (first | with_reducible exact Ext.refl _ | with_reducible assumption | with_reducible refine Ext.set ?_ ?_ _ _ | with_reducible refine Ext.alloc ?_ _ | with_reducible refine Ext.drew ?_ | with_reducible refine Ext.drewN ?_ _ | with_reducible refine Ext.trans ?_ (by with_reducible assumption) | omega | (simp; done) | (simp; omega))⟩
          case measure => simp [intOf]
        · have hne : (a.nonce != b.nonce) = true := by simp [he]
          have hf : Hid (a ≠ b) := fun h => he (by rw [h])
          clear he hpre
          go_wp2
          go_quiet ((go_at_call 43; exact quietL (numOf_110 _ _)))
          go_wp2
          go_ret
          exact ⟨ret_bool (Eq.symm (decide_eq_false hf.out)), by repeat' (first | with_reducible exact Ext.refl _ | with_reducible assumption | with_reducible refine Ext.set ?_ ?_ _ _ | with_reducible refine Ext.alloc ?_ _ | with_reducible refine Ext.drew ?_ | with_reducible refine Ext.drewN ?_ _ | with_reducible refine Ext.trans ?_ (by with_reducible assumption) | omega | (simp; done) | (simp; omega))⟩
      · obtain ⟨x_p, -⟩ := x.at 7 _ rfl
        obtain ⟨y_p, -⟩ := y.at 7 _ rfl
        by_cases he : a.client = b.client
        · have hne : (a.client != b.client) = false := by simp [he]
          have hp2 : Hid ((fl a).take 7 = (fl b).take 7) := by
            show _ = _
            have h := hpre.out
            simp only [fl, List.take_succ_cons, List.take_zero, List.cons.injEq, and_true] at h ⊢
            simp_all
          clear he hpre
          go_wp2
          go_quiet ((go_at_call 43; exact quietL (numOf_99 _ _)))
          go_wp2
          go_roundw
          case rel => exact ⟨7, by omega, by go_num, hp2, x, y, by repeat' (first | with_reducible exact Ext.refl _ | with_reducible assumption | with_reducible refine Ext.set ?_ ?_ _ _ | with_reducible refine Ext.alloc ?_ _ | with_reducible refine Ext.drew ?_ | with_reducible refine Ext.drewN ?_ _ | with_reducible refine Ext.trans ?_ (by with_reducible assumption) | omega | (simp; done) | (simp; omega))⟩
          case measure => simp [intOf]
        · have hne : (a.client != b.client) = true := by simp [he]
          have hf : Hid (a ≠ b) := fun h => he (by rw [h])
          clear he hpre
          go_wp2
          go_quiet ((go_at_call 43; exact quietL (numOf_99 _ _)))
          go_wp2
          go_ret
          exact ⟨ret_bool (Eq.symm (decide_eq_false hf.out)), by repeat' (first | with_reducible exact Ext.refl _ | with_reducible assumption | with_reducible refine Ext.set ?_ ?_ _ _ | with_reducible refine Ext.alloc ?_ _ | with_reducible refine Ext.drew ?_ | with_reducible refine Ext.drewN ?_ _ | with_reducible refine Ext.trans ?_ (by with_reducible assumption) | omega | (simp; done) | (simp; omega))⟩
      · obtain ⟨x_p, -⟩ := x.at 8 _ rfl
        obtain ⟨y_p, -⟩ := y.at 8 _ rfl
        by_cases he : a.req = b.req
        · have hne : (a.req != b.req) = false := by simp [he]
          have hp2 : Hid ((fl a).take 8 = (fl b).take 8) := by
            show _ = _
            have h := hpre.out
            simp only [fl, List.take_succ_cons, List.take_zero, List.cons.injEq, and_true] at h ⊢
            simp_all
          clear he hpre
          go_wp2
          go_quiet ((go_at_call 43; exact quietL (numOf_114 _ _)))
          go_wp2
          go_roundw
          case rel => exact ⟨8, by omega, by go_num, hp2, x, y, by repeat' (first | with_reducible exact Ext.refl _ | with_reducible assumption | with_reducible refine Ext.set ?_ ?_ _ _ | with_reducible refine Ext.alloc ?_ _ | with_reducible refine Ext.drew ?_ | with_reducible refine Ext.drewN ?_ _ | with_reducible refine Ext.trans ?_ (by with_reducible assumption) | omega | (simp; done) | (simp; omega))⟩
          case measure => simp [intOf]
        · have hne : (a.req != b.req) = true := by simp [he]
          have hf : Hid (a ≠ b) := fun h => he (by rw [h])
          clear he hpre
          go_wp2
          go_quiet ((go_at_call 43; exact quietL (numOf_114 _ _)))
          go_wp2
          go_ret
          exact ⟨ret_bool (Eq.symm (decide_eq_false hf.out)), by repeat' (first | with_reducible exact Ext.refl _ | with_reducible assumption | with_reducible refine Ext.set ?_ ?_ _ _ | with_reducible refine Ext.alloc ?_ _ | with_reducible refine Ext.drew ?_ | with_reducible refine Ext.drewN ?_ _ | with_reducible refine Ext.trans ?_ (by with_reducible assumption) | omega | (simp; done) | (simp; omega))⟩
      · obtain ⟨x_p, -⟩ := x.at 9 _ rfl
        obtain ⟨y_p, -⟩ := y.at 9 _ rfl
        by_cases he : a.answer = b.answer
        · have hne : (a.answer != b.answer) = false := by simp [he]
          have hp2 : Hid ((fl a).take 9 = (fl b).take 9) := by
            show _ = _
            have h := hpre.out
            simp only [fl, List.take_succ_cons, List.take_zero, List.cons.injEq, and_true] at h ⊢
            simp_all
          clear he hpre
          go_wp2
          go_quiet ((go_at_call 43; exact quietL (numOf_65 _ _)))
          go_wp2
          go_roundw
          case rel => exact ⟨9, by omega, by go_num, hp2, x, y, by repeat' (first | with_reducible exact Ext.refl _ | with_reducible assumption | with_reducible refine Ext.set ?_ ?_ _ _ | with_reducible refine Ext.alloc ?_ _ | with_reducible refine Ext.drew ?_ | with_reducible refine Ext.drewN ?_ _ | with_reducible refine Ext.trans ?_ (by with_reducible assumption) | omega | (simp; done) | (simp; omega))⟩
          case measure => simp [intOf]
        · have hne : (a.answer != b.answer) = true := by simp [he]
          have hf : Hid (a ≠ b) := fun h => he (by rw [h])
          clear he hpre
          go_wp2
          go_quiet ((go_at_call 43; exact quietL (numOf_65 _ _)))
          go_wp2
          go_ret
          exact ⟨ret_bool (Eq.symm (decide_eq_false hf.out)), by repeat' (first | with_reducible exact Ext.refl _ | with_reducible assumption | with_reducible refine Ext.set ?_ ?_ _ _ | with_reducible refine Ext.alloc ?_ _ | with_reducible refine Ext.drew ?_ | with_reducible refine Ext.drewN ?_ _ | with_reducible refine Ext.trans ?_ (by with_reducible assumption) | omega | (simp; done) | (simp; omega))⟩
    · obtain rfl : 9 = j := by omega
      have Hfl : Hid (fl a = fl b) := hpre.out
      clear hpre hj hlt
      obtain ⟨x_p0, x_f0⟩ := x.at 0 _ rfl
      obtain ⟨x_p10, x_f10⟩ := x.at 10 _ rfl
      obtain ⟨x_p11, x_f11⟩ := x.at 11 _ rfl
      obtain ⟨x_p12, x_f12⟩ := x.at 12 _ rfl
      obtain ⟨x_p13, x_f13⟩ := x.at 13 _ rfl
      obtain ⟨x_p14, x_f14⟩ := x.at 14 _ rfl
      obtain ⟨x_p15, x_f15⟩ := x.at 15 _ rfl
      obtain ⟨x_p16, x_f16⟩ := x.at 16 _ rfl
      obtain ⟨y_p0, y_f0⟩ := y.at 0 _ rfl
      obtain ⟨y_p10, y_f10⟩ := y.at 10 _ rfl
      obtain ⟨y_p11, y_f11⟩ := y.at 11 _ rfl
      obtain ⟨y_p12, y_f12⟩ := y.at 12 _ rfl
      obtain ⟨y_p13, y_f13⟩ := y.at 13 _ rfl
      obtain ⟨y_p14, y_f14⟩ := y.at 14 _ rfl
      obtain ⟨y_p15, y_f15⟩ := y.at 15 _ rfl
      obtain ⟨y_p16, y_f16⟩ := y.at 16 _ rfl
      by_cases hk : a.kind = b.kind
      · have hke : (a.kind == b.kind) = true := by simp [hk]
        have Hk := Lib.hid hk
        clear hk
        by_cases hc : a.cmd = b.cmd
        · have hq : ∀ w, (binOp .eql 35 (.agg #[.int .i64 a.cmd.kind, .int .i64 a.cmd.key, .int .i64 a.cmd.value]) (.agg #[.int .i64 b.cmd.kind, .int .i64 b.cmd.key, .int .i64 b.cmd.value])).run Try.prog w = .ok (.bool true) w := fun w => by rw [eqlCmd, decide_eq_true hc]
          have Hc := Lib.hid hc
          clear hc
          go_wp2_with fail
          refine (sameLog_i _ _ a.log b.log _ B0 B3 (by exact hl0.keep (keepE' hX hX0)) (by have := hX.size; omega) (by exact hl3.keep (keepE' hX hY0)) (by have := hX.size; omega)).mono ?_
          rintro e w1 ⟨rfl, hE1⟩
          have hX1 := hX.trans hE1
          have hd : decide (a.log = b.log) = decide (a = b) := by
            by_cases h : a.log = b.log
            · rw [decide_eq_true h, decide_eq_true (msg_eq Hfl.out Hk.out Hc.out h)]
            · rw [decide_eq_false h, decide_eq_false (fun h2 => h (by rw [h2]))]
          rw [hd]
          go_wp2
          go_ret
          exact ⟨rfl, by repeat' (first | with_reducible exact Ext.refl _ | with_reducible assumption | with_reducible refine Ext.set ?_ ?_ _ _ | with_reducible refine Ext.alloc ?_ _ | with_reducible refine Ext.drew ?_ | with_reducible refine Ext.drewN ?_ _ | with_reducible refine Ext.trans ?_ (by with_reducible assumption) | omega | (simp; done) | (simp; omega))⟩
        · have hq : ∀ w, (binOp .eql 35 (.agg #[.int .i64 a.cmd.kind, .int .i64 a.cmd.key, .int .i64 a.cmd.value]) (.agg #[.int .i64 b.cmd.kind, .int .i64 b.cmd.key, .int .i64 b.cmd.value])).run Try.prog w = .ok (.bool false) w := fun w => by rw [eqlCmd, decide_eq_false hc]
          have hf : Hid (a ≠ b) := fun h => hc (by rw [h])
          clear hc
          go_wp2
          go_ret
          exact ⟨ret_bool (Eq.symm (decide_eq_false hf.out)), by repeat' (first | with_reducible exact Ext.refl _ | with_reducible assumption | with_reducible refine Ext.set ?_ ?_ _ _ | with_reducible refine Ext.alloc ?_ _ | with_reducible refine Ext.drew ?_ | with_reducible refine Ext.drewN ?_ _ | with_reducible refine Ext.trans ?_ (by with_reducible assumption) | omega | (simp; done) | (simp; omega))⟩
      · have hke : (a.kind == b.kind) = false := by simp [hk]
        have hf : Hid (a ≠ b) := fun h => hk (by rw [h])
        clear hk
        go_wp2
        go_ret
        exact ⟨ret_bool (Eq.symm (decide_eq_false hf.out)), by repeat' (first | with_reducible exact Ext.refl _ | with_reducible assumption | with_reducible refine Ext.set ?_ ?_ _ _ | with_reducible refine Ext.alloc ?_ _ | with_reducible refine Ext.drew ?_ | with_reducible refine Ext.drewN ?_ _ | with_reducible refine Ext.trans ?_ (by with_reducible assumption) | omega | (simp; done) | (simp; omega))⟩

set_option maxRecDepth 100000 in
set_option maxHeartbeats 8000000 in
theorem sameMsg_s (u v : Value) (a b : MsgD) (w : World) (B0 B3 : Nat) (hu : R_Msg w B0 u a) (hX0 : B0 ≤ w.heap.size) (hv : R_Msg w B3 v b) (hY0 : B3 ≤ w.heap.size) :
    Calls Try.prog 10 #[u, v] w fun e w' => e = .returned (.bool (decide (a = b))) ∧ Ext w w' := by
  obtain ⟨u0, s0, t0, rfl, h0u, h0s, h0t⟩ := hu
  obtain ⟨A0, n0, c0, hv0, -⟩ := id h0u
  obtain ⟨A1, n1, c1, hv1, -⟩ := id h0s
  obtain ⟨A2, n2, c2, hv2, -⟩ := id h0t
  subst hv0 hv1 hv2
  have hl0 : R_Log w B0 (.agg #[.int .i64 a.log.base, .slice A0 n0 c0, .slice A1 n1 c1, .slice A2 n2 c2]) a.log := ⟨_, _, _, rfl, h0u, h0s, h0t⟩
  clear h0u h0s h0t
  obtain ⟨u3, s3, t3, rfl, h3u, h3s, h3t⟩ := hv
  obtain ⟨A3, n3, c3, hv3, -⟩ := id h3u
  obtain ⟨A4, n4, c4, hv4, -⟩ := id h3s
  obtain ⟨A5, n5, c5, hv5, -⟩ := id h3t
  subst hv3 hv4 hv5
  have hl3 : R_Log w B3 (.agg #[.int .i64 b.log.base, .slice A3 n3 c3, .slice A4 n4 c4, .slice A5 n5 c5]) b.log := ⟨_, _, _, rfl, h3u, h3s, h3t⟩
  clear h3u h3s h3t
  have hW0 : Ext w ((w.alloc (.cells #[.int .i64 a.kind, .int .i64 a.frm, .int .i64 a.view, .int .i64 a.op, .int .i64 a.commit, .int .i64 a.normal, .int .i64 a.nonce, .int .i64 a.client, .int .i64 a.req, .int .i64 a.answer, .int .i64 a.cmd.kind, .int .i64 a.cmd.key, .int .i64 a.cmd.value, .int .i64 a.log.base, .slice A0 n0 c0, .slice A1 n1 c1, .slice A2 n2 c2] 44)).alloc (.cells #[.int .i64 b.kind, .int .i64 b.frm, .int .i64 b.view, .int .i64 b.op, .int .i64 b.commit, .int .i64 b.normal, .int .i64 b.nonce, .int .i64 b.client, .int .i64 b.req, .int .i64 b.answer, .int .i64 b.cmd.kind, .int .i64 b.cmd.key, .int .i64 b.cmd.value, .int .i64 b.log.base, .slice A3 n3 c3, .slice A4 n4 c4, .slice A5 n5 c5] 44)) := by repeat' (first | with_reducible exact Ext.refl _ | with_reducible assumption | with_reducible refine Ext.set ?_ ?_ _ _ | with_reducible refine Ext.alloc ?_ _ | with_reducible refine Ext.drew ?_ | with_reducible refine Ext.drewN ?_ _ | with_reducible refine Ext.trans ?_ (by with_reducible assumption) | omega | (simp; done) | (simp; omega))
  have zW0 : w.heap.size + 2 ≤ ((w.alloc (.cells #[.int .i64 a.kind, .int .i64 a.frm, .int .i64 a.view, .int .i64 a.op, .int .i64 a.commit, .int .i64 a.normal, .int .i64 a.nonce, .int .i64 a.client, .int .i64 a.req, .int .i64 a.answer, .int .i64 a.cmd.kind, .int .i64 a.cmd.key, .int .i64 a.cmd.value, .int .i64 a.log.base, .slice A0 n0 c0, .slice A1 n1 c1, .slice A2 n2 c2] 44)).alloc (.cells #[.int .i64 b.kind, .int .i64 b.frm, .int .i64 b.view, .int .i64 b.op, .int .i64 b.commit, .int .i64 b.normal, .int .i64 b.nonce, .int .i64 b.client, .int .i64 b.req, .int .i64 b.answer, .int .i64 b.cmd.kind, .int .i64 b.cmd.key, .int .i64 b.cmd.value, .int .i64 b.log.base, .slice A3 n3 c3, .slice A4 n4 c4, .slice A5 n5 c5] 44)).heap.size := by simp
  have x : Blk ((w.alloc (.cells #[.int .i64 a.kind, .int .i64 a.frm, .int .i64 a.view, .int .i64 a.op, .int .i64 a.commit, .int .i64 a.normal, .int .i64 a.nonce, .int .i64 a.client, .int .i64 a.req, .int .i64 a.answer, .int .i64 a.cmd.kind, .int .i64 a.cmd.key, .int .i64 a.cmd.value, .int .i64 a.log.base, .slice A0 n0 c0, .slice A1 n1 c1, .slice A2 n2 c2] 44)).alloc (.cells #[.int .i64 b.kind, .int .i64 b.frm, .int .i64 b.view, .int .i64 b.op, .int .i64 b.commit, .int .i64 b.normal, .int .i64 b.nonce, .int .i64 b.client, .int .i64 b.req, .int .i64 b.answer, .int .i64 b.cmd.kind, .int .i64 b.cmd.key, .int .i64 b.cmd.value, .int .i64 b.log.base, .slice A3 n3 c3, .slice A4 n4 c4, .slice A5 n5 c5] 44)) w.heap.size 44 [.int .i64 a.kind, .int .i64 a.frm, .int .i64 a.view, .int .i64 a.op, .int .i64 a.commit, .int .i64 a.normal, .int .i64 a.nonce, .int .i64 a.client, .int .i64 a.req, .int .i64 a.answer, .int .i64 a.cmd.kind, .int .i64 a.cmd.key, .int .i64 a.cmd.value, .int .i64 a.log.base, .slice A0 n0 c0, .slice A1 n1 c1, .slice A2 n2 c2] := ((Blk.new w #[.int .i64 a.kind, .int .i64 a.frm, .int .i64 a.view, .int .i64 a.op, .int .i64 a.commit, .int .i64 a.normal, .int .i64 a.nonce, .int .i64 a.client, .int .i64 a.req, .int .i64 a.answer, .int .i64 a.cmd.kind, .int .i64 a.cmd.key, .int .i64 a.cmd.value, .int .i64 a.log.base, .slice A0 n0 c0, .slice A1 n1 c1, .slice A2 n2 c2] 44 (by first | rfl | simp)).alloc (.cells #[.int .i64 b.kind, .int .i64 b.frm, .int .i64 b.view, .int .i64 b.op, .int .i64 b.commit, .int .i64 b.normal, .int .i64 b.nonce, .int .i64 b.client, .int .i64 b.req, .int .i64 b.answer, .int .i64 b.cmd.kind, .int .i64 b.cmd.key, .int .i64 b.cmd.value, .int .i64 b.log.base, .slice A3 n3 c3, .slice A4 n4 c4, .slice A5 n5 c5] 44))
  have y : Blk ((w.alloc (.cells #[.int .i64 a.kind, .int .i64 a.frm, .int .i64 a.view, .int .i64 a.op, .int .i64 a.commit, .int .i64 a.normal, .int .i64 a.nonce, .int .i64 a.client, .int .i64 a.req, .int .i64 a.answer, .int .i64 a.cmd.kind, .int .i64 a.cmd.key, .int .i64 a.cmd.value, .int .i64 a.log.base, .slice A0 n0 c0, .slice A1 n1 c1, .slice A2 n2 c2] 44)).alloc (.cells #[.int .i64 b.kind, .int .i64 b.frm, .int .i64 b.view, .int .i64 b.op, .int .i64 b.commit, .int .i64 b.normal, .int .i64 b.nonce, .int .i64 b.client, .int .i64 b.req, .int .i64 b.answer, .int .i64 b.cmd.kind, .int .i64 b.cmd.key, .int .i64 b.cmd.value, .int .i64 b.log.base, .slice A3 n3 c3, .slice A4 n4 c4, .slice A5 n5 c5] 44)) (w.heap.size + 1) 44 [.int .i64 b.kind, .int .i64 b.frm, .int .i64 b.view, .int .i64 b.op, .int .i64 b.commit, .int .i64 b.normal, .int .i64 b.nonce, .int .i64 b.client, .int .i64 b.req, .int .i64 b.answer, .int .i64 b.cmd.kind, .int .i64 b.cmd.key, .int .i64 b.cmd.value, .int .i64 b.log.base, .slice A3 n3 c3, .slice A4 n4 c4, .slice A5 n5 c5] := (Blk.new (w.alloc (.cells #[.int .i64 a.kind, .int .i64 a.frm, .int .i64 a.view, .int .i64 a.op, .int .i64 a.commit, .int .i64 a.normal, .int .i64 a.nonce, .int .i64 a.client, .int .i64 a.req, .int .i64 a.answer, .int .i64 a.cmd.kind, .int .i64 a.cmd.key, .int .i64 a.cmd.value, .int .i64 a.log.base, .slice A0 n0 c0, .slice A1 n1 c1, .slice A2 n2 c2] 44)) #[.int .i64 b.kind, .int .i64 b.frm, .int .i64 b.view, .int .i64 b.op, .int .i64 b.commit, .int .i64 b.normal, .int .i64 b.nonce, .int .i64 b.client, .int .i64 b.req, .int .i64 b.answer, .int .i64 b.cmd.kind, .int .i64 b.cmd.key, .int .i64 b.cmd.value, .int .i64 b.log.base, .slice A3 n3 c3, .slice A4 n4 c4, .slice A5 n5 c5] 44 (by first | rfl | simp))
  go_enter Try.func10, Try.ntmps10
  go_upto_region 1 with (fail)
  generalize ((w.alloc (.cells #[.int .i64 a.kind, .int .i64 a.frm, .int .i64 a.view, .int .i64 a.op, .int .i64 a.commit, .int .i64 a.normal, .int .i64 a.nonce, .int .i64 a.client, .int .i64 a.req, .int .i64 a.answer, .int .i64 a.cmd.kind, .int .i64 a.cmd.key, .int .i64 a.cmd.value, .int .i64 a.log.base, .slice A0 n0 c0, .slice A1 n1 c1, .slice A2 n2 c2] 44)).alloc (.cells #[.int .i64 b.kind, .int .i64 b.frm, .int .i64 b.view, .int .i64 b.op, .int .i64 b.commit, .int .i64 b.normal, .int .i64 b.nonce, .int .i64 b.client, .int .i64 b.req, .int .i64 b.answer, .int .i64 b.cmd.kind, .int .i64 b.cmd.key, .int .i64 b.cmd.value, .int .i64 b.log.base, .slice A3 n3 c3, .slice A4 n4 c4, .slice A5 n5 c5] 44)) = W0 at *
  obtain ⟨x_p0, x_f0⟩ := x.at 0 _ rfl
  obtain ⟨x_p1, x_f1⟩ := x.at 1 _ rfl
  obtain ⟨x_p2, x_f2⟩ := x.at 2 _ rfl
  obtain ⟨x_p3, x_f3⟩ := x.at 3 _ rfl
  obtain ⟨x_p4, x_f4⟩ := x.at 4 _ rfl
  obtain ⟨x_p5, x_f5⟩ := x.at 5 _ rfl
  obtain ⟨x_p6, x_f6⟩ := x.at 6 _ rfl
  obtain ⟨x_p7, x_f7⟩ := x.at 7 _ rfl
  obtain ⟨x_p8, x_f8⟩ := x.at 8 _ rfl
  obtain ⟨x_p9, x_f9⟩ := x.at 9 _ rfl
  obtain ⟨x_p10, x_f10⟩ := x.at 10 _ rfl
  obtain ⟨x_p11, x_f11⟩ := x.at 11 _ rfl
  obtain ⟨x_p12, x_f12⟩ := x.at 12 _ rfl
  obtain ⟨x_p13, x_f13⟩ := x.at 13 _ rfl
  obtain ⟨x_p14, x_f14⟩ := x.at 14 _ rfl
  obtain ⟨x_p15, x_f15⟩ := x.at 15 _ rfl
  obtain ⟨x_p16, x_f16⟩ := x.at 16 _ rfl
  obtain ⟨y_p0, y_f0⟩ := y.at 0 _ rfl
  obtain ⟨y_p1, y_f1⟩ := y.at 1 _ rfl
  obtain ⟨y_p2, y_f2⟩ := y.at 2 _ rfl
  obtain ⟨y_p3, y_f3⟩ := y.at 3 _ rfl
  obtain ⟨y_p4, y_f4⟩ := y.at 4 _ rfl
  obtain ⟨y_p5, y_f5⟩ := y.at 5 _ rfl
  obtain ⟨y_p6, y_f6⟩ := y.at 6 _ rfl
  obtain ⟨y_p7, y_f7⟩ := y.at 7 _ rfl
  obtain ⟨y_p8, y_f8⟩ := y.at 8 _ rfl
  obtain ⟨y_p9, y_f9⟩ := y.at 9 _ rfl
  obtain ⟨y_p10, y_f10⟩ := y.at 10 _ rfl
  obtain ⟨y_p11, y_f11⟩ := y.at 11 _ rfl
  obtain ⟨y_p12, y_f12⟩ := y.at 12 _ rfl
  obtain ⟨y_p13, y_f13⟩ := y.at 13 _ rfl
  obtain ⟨y_p14, y_f14⟩ := y.at 14 _ rfl
  obtain ⟨y_p15, y_f15⟩ := y.at 15 _ rfl
  obtain ⟨y_p16, y_f16⟩ := y.at 16 _ rfl
  by_cases hk0 : a.kind = b.kind
  rotate_left
  · have hke : (a.kind != b.kind) = true := by simp [hk0]
    have hf : Hid (a ≠ b) := fun h => hk0 (by rw [h])
    clear hk0
    go_wp2
    go_ret
    exact ⟨ret_bool (Eq.symm (decide_eq_false hf.out)), by repeat' (first | with_reducible exact Ext.refl _ | with_reducible assumption | with_reducible refine Ext.set ?_ ?_ _ _ | with_reducible refine Ext.alloc ?_ _ | with_reducible refine Ext.drew ?_ | with_reducible refine Ext.drewN ?_ _ | with_reducible refine Ext.trans ?_ (by with_reducible assumption) | omega | (simp; done) | (simp; omega))⟩
  have hke0 : (a.kind != b.kind) = false := by simp [hk0]
  have Hk0 := Lib.hid hk0
  clear hk0
  by_cases hk1 : a.frm = b.frm
  rotate_left
  · have hke : (a.frm != b.frm) = true := by simp [hk1]
    have hf : Hid (a ≠ b) := fun h => hk1 (by rw [h])
    clear hk1
    go_wp2
    go_ret
    exact ⟨ret_bool (Eq.symm (decide_eq_false hf.out)), by repeat' (first | with_reducible exact Ext.refl _ | with_reducible assumption | with_reducible refine Ext.set ?_ ?_ _ _ | with_reducible refine Ext.alloc ?_ _ | with_reducible refine Ext.drew ?_ | with_reducible refine Ext.drewN ?_ _ | with_reducible refine Ext.trans ?_ (by with_reducible assumption) | omega | (simp; done) | (simp; omega))⟩
  have hke1 : (a.frm != b.frm) = false := by simp [hk1]
  have Hk1 := Lib.hid hk1
  clear hk1
  by_cases hk2 : a.view = b.view
  rotate_left
  · have hke : (a.view != b.view) = true := by simp [hk2]
    have hf : Hid (a ≠ b) := fun h => hk2 (by rw [h])
    clear hk2
    go_wp2
    go_ret
    exact ⟨ret_bool (Eq.symm (decide_eq_false hf.out)), by repeat' (first | with_reducible exact Ext.refl _ | with_reducible assumption | with_reducible refine Ext.set ?_ ?_ _ _ | with_reducible refine Ext.alloc ?_ _ | with_reducible refine Ext.drew ?_ | with_reducible refine Ext.drewN ?_ _ | with_reducible refine Ext.trans ?_ (by with_reducible assumption) | omega | (simp; done) | (simp; omega))⟩
  have hke2 : (a.view != b.view) = false := by simp [hk2]
  have Hk2 := Lib.hid hk2
  clear hk2
  by_cases hk3 : a.op = b.op
  rotate_left
  · have hke : (a.op != b.op) = true := by simp [hk3]
    have hf : Hid (a ≠ b) := fun h => hk3 (by rw [h])
    clear hk3
    go_wp2
    go_ret
    exact ⟨ret_bool (Eq.symm (decide_eq_false hf.out)), by repeat' (first | with_reducible exact Ext.refl _ | with_reducible assumption | with_reducible refine Ext.set ?_ ?_ _ _ | with_reducible refine Ext.alloc ?_ _ | with_reducible refine Ext.drew ?_ | with_reducible refine Ext.drewN ?_ _ | with_reducible refine Ext.trans ?_ (by with_reducible assumption) | omega | (simp; done) | (simp; omega))⟩
  have hke3 : (a.op != b.op) = false := by simp [hk3]
  have Hk3 := Lib.hid hk3
  clear hk3
  by_cases hk4 : a.commit = b.commit
  rotate_left
  · have hke : (a.commit != b.commit) = true := by simp [hk4]
    have hf : Hid (a ≠ b) := fun h => hk4 (by rw [h])
    clear hk4
    go_wp2
    go_ret
    exact ⟨ret_bool (Eq.symm (decide_eq_false hf.out)), by repeat' (first | with_reducible exact Ext.refl _ | with_reducible assumption | with_reducible refine Ext.set ?_ ?_ _ _ | with_reducible refine Ext.alloc ?_ _ | with_reducible refine Ext.drew ?_ | with_reducible refine Ext.drewN ?_ _ | with_reducible refine Ext.trans ?_ (by with_reducible assumption) | omega | (simp; done) | (simp; omega))⟩
  have hke4 : (a.commit != b.commit) = false := by simp [hk4]
  have Hk4 := Lib.hid hk4
  clear hk4
  by_cases hk5 : a.normal = b.normal
  rotate_left
  · have hke : (a.normal != b.normal) = true := by simp [hk5]
    have hf : Hid (a ≠ b) := fun h => hk5 (by rw [h])
    clear hk5
    go_wp2
    go_ret
    exact ⟨ret_bool (Eq.symm (decide_eq_false hf.out)), by repeat' (first | with_reducible exact Ext.refl _ | with_reducible assumption | with_reducible refine Ext.set ?_ ?_ _ _ | with_reducible refine Ext.alloc ?_ _ | with_reducible refine Ext.drew ?_ | with_reducible refine Ext.drewN ?_ _ | with_reducible refine Ext.trans ?_ (by with_reducible assumption) | omega | (simp; done) | (simp; omega))⟩
  have hke5 : (a.normal != b.normal) = false := by simp [hk5]
  have Hk5 := Lib.hid hk5
  clear hk5
  by_cases hk6 : a.nonce = b.nonce
  rotate_left
  · have hke : (a.nonce != b.nonce) = true := by simp [hk6]
    have hf : Hid (a ≠ b) := fun h => hk6 (by rw [h])
    clear hk6
    go_wp2
    go_ret
    exact ⟨ret_bool (Eq.symm (decide_eq_false hf.out)), by repeat' (first | with_reducible exact Ext.refl _ | with_reducible assumption | with_reducible refine Ext.set ?_ ?_ _ _ | with_reducible refine Ext.alloc ?_ _ | with_reducible refine Ext.drew ?_ | with_reducible refine Ext.drewN ?_ _ | with_reducible refine Ext.trans ?_ (by with_reducible assumption) | omega | (simp; done) | (simp; omega))⟩
  have hke6 : (a.nonce != b.nonce) = false := by simp [hk6]
  have Hk6 := Lib.hid hk6
  clear hk6
  by_cases hk7 : a.client = b.client
  rotate_left
  · have hke : (a.client == b.client) = false := by simp [hk7]
    have hf : Hid (a ≠ b) := fun h => hk7 (by rw [h])
    clear hk7
    go_wp2
    go_ret
    exact ⟨ret_bool (Eq.symm (decide_eq_false hf.out)), by repeat' (first | with_reducible exact Ext.refl _ | with_reducible assumption | with_reducible refine Ext.set ?_ ?_ _ _ | with_reducible refine Ext.alloc ?_ _ | with_reducible refine Ext.drew ?_ | with_reducible refine Ext.drewN ?_ _ | with_reducible refine Ext.trans ?_ (by with_reducible assumption) | omega | (simp; done) | (simp; omega))⟩
  have hke7 : (a.client == b.client) = true := by simp [hk7]
  have Hk7 := Lib.hid hk7
  clear hk7
  by_cases hk8 : a.req = b.req
  rotate_left
  · have hke : (a.req == b.req) = false := by simp [hk8]
    have hf : Hid (a ≠ b) := fun h => hk8 (by rw [h])
    clear hk8
    go_wp2
    go_ret
    exact ⟨ret_bool (Eq.symm (decide_eq_false hf.out)), by repeat' (first | with_reducible exact Ext.refl _ | with_reducible assumption | with_reducible refine Ext.set ?_ ?_ _ _ | with_reducible refine Ext.alloc ?_ _ | with_reducible refine Ext.drew ?_ | with_reducible refine Ext.drewN ?_ _ | with_reducible refine Ext.trans ?_ (by with_reducible assumption) | omega | (simp; done) | (simp; omega))⟩
  have hke8 : (a.req == b.req) = true := by simp [hk8]
  have Hk8 := Lib.hid hk8
  clear hk8
  by_cases hk9 : a.answer = b.answer
  rotate_left
  · have hke : (a.answer == b.answer) = false := by simp [hk9]
    have hf : Hid (a ≠ b) := fun h => hk9 (by rw [h])
    clear hk9
    go_wp2
    go_ret
    exact ⟨ret_bool (Eq.symm (decide_eq_false hf.out)), by repeat' (first | with_reducible exact Ext.refl _ | with_reducible assumption | with_reducible refine Ext.set ?_ ?_ _ _ | with_reducible refine Ext.alloc ?_ _ | with_reducible refine Ext.drew ?_ | with_reducible refine Ext.drewN ?_ _ | with_reducible refine Ext.trans ?_ (by with_reducible assumption) | omega | (simp; done) | (simp; omega))⟩
  have hke9 : (a.answer == b.answer) = true := by simp [hk9]
  have Hk9 := Lib.hid hk9
  clear hk9
  by_cases hc : a.cmd = b.cmd
  rotate_left
  · have hq : ∀ w, (binOp .eql 35 (.agg #[.int .i64 a.cmd.kind, .int .i64 a.cmd.key, .int .i64 a.cmd.value]) (.agg #[.int .i64 b.cmd.kind, .int .i64 b.cmd.key, .int .i64 b.cmd.value])).run Try.prog w = .ok (.bool false) w := fun w => by rw [eqlCmd, decide_eq_false hc]
    have hf : Hid (a ≠ b) := fun h => hc (by rw [h])
    clear hc
    go_wp2
    go_ret
    exact ⟨ret_bool (Eq.symm (decide_eq_false hf.out)), by repeat' (first | with_reducible exact Ext.refl _ | with_reducible assumption | with_reducible refine Ext.set ?_ ?_ _ _ | with_reducible refine Ext.alloc ?_ _ | with_reducible refine Ext.drew ?_ | with_reducible refine Ext.drewN ?_ _ | with_reducible refine Ext.trans ?_ (by with_reducible assumption) | omega | (simp; done) | (simp; omega))⟩
  have hq : ∀ w, (binOp .eql 35 (.agg #[.int .i64 a.cmd.kind, .int .i64 a.cmd.key, .int .i64 a.cmd.value]) (.agg #[.int .i64 b.cmd.kind, .int .i64 b.cmd.key, .int .i64 b.cmd.value])).run Try.prog w = .ok (.bool true) w := fun w => by rw [eqlCmd, decide_eq_true hc]
  have Hc := Lib.hid hc
  clear hc
  go_wp2_with fail
  refine (sameLog_s _ _ a.log b.log _ B0 B3 (by exact hl0.keep (keepE' hW0 hX0)) (by have := hW0.size; omega) (by exact hl3.keep (keepE' hW0 hY0)) (by have := hW0.size; omega)).mono ?_
  rintro e w1 ⟨rfl, hE1⟩
  have hX1 := hW0.trans hE1
  have hd : decide (a.log = b.log) = decide (a = b) := by
    by_cases h : a.log = b.log
    · rw [decide_eq_true h, decide_eq_true (msg_eq (by simp only [fl, Hk1.out, Hk2.out, Hk3.out, Hk4.out, Hk5.out, Hk6.out, Hk7.out, Hk8.out, Hk9.out]) Hk0.out Hc.out h)]
    · rw [decide_eq_false h, decide_eq_false (fun h2 => h (by rw [h2]))]
  rw [hd]
  go_wp2
  go_ret
  exact ⟨rfl, by repeat' (first | with_reducible exact Ext.refl _ | with_reducible assumption | with_reducible refine Ext.set ?_ ?_ _ _ | with_reducible refine Ext.alloc ?_ _ | with_reducible refine Ext.drew ?_ | with_reducible refine Ext.drewN ?_ _ | with_reducible refine Ext.trans ?_ (by with_reducible assumption) | omega | (simp; done) | (simp; omega))⟩

end Go.Proofs.Ytbfbdhjeoknjkaa
