/-
  FnExactSameMsg returns true for every input: the program's SameMsg returns what the reference's does, leaves its arguments alone, and returns memory of its own.
  Conditions: none: for every argument, in whatever memory.
-/
import Derived.Test.YtbfbdhjeoknjkaaOpen
import Derived.Test.YtbfbdhjeoknjkaaSameMsg
import Derived.Test.YtbfbdhjeoknjkaaOpenMsg
namespace Go.Proofs.Ytbfbdhjeoknjkaa.fnExactSameMsg
open Go.ChangeShapes Go.WideShapes Go.ChangeAt Go.RowKit
set_option linter.unusedVariables false
set_option maxRecDepth 1000000

set_option maxRecDepth 100000 in
set_option maxHeartbeats 8000000 in
theorem walk (vv0 : Value) (l0 : MsgD) (vv1 : Value) (l1 : MsgD) (w : World) (r0 : R_Msg w w.heap.size vv0 l0) (r1 : R_Msg w w.heap.size vv1 l1) :
    Calls Try.prog 3 #[vv0, vv1] w fun e w' => e = .returned (.bool true) ∧ Ext w w' := by
  by_cases hbig0 : szL l0.log ≤ 1048576
  rotate_left
  · skip
    obtain ⟨u0, s0, t0, hv0, -⟩ := id r0
    subst hv0
    obtain ⟨u1, s1, t1, hv1, -⟩ := id r1
    subst hv1
    have hW0 : Ext w ((w.alloc (.cells #[.int .i64 l0.kind, .int .i64 l0.frm, .int .i64 l0.view, .int .i64 l0.op, .int .i64 l0.commit, .int .i64 l0.normal, .int .i64 l0.nonce, .int .i64 l0.client, .int .i64 l0.req, .int .i64 l0.answer, .int .i64 l0.cmd.kind, .int .i64 l0.cmd.key, .int .i64 l0.cmd.value, .int .i64 l0.log.base, u0, s0, t0] 32)).alloc (.cells #[.int .i64 l1.kind, .int .i64 l1.frm, .int .i64 l1.view, .int .i64 l1.op, .int .i64 l1.commit, .int .i64 l1.normal, .int .i64 l1.nonce, .int .i64 l1.client, .int .i64 l1.req, .int .i64 l1.answer, .int .i64 l1.cmd.kind, .int .i64 l1.cmd.key, .int .i64 l1.cmd.value, .int .i64 l1.log.base, u1, s1, t1] 32)) := by repeat' (first | with_reducible exact Ext.refl _ | with_reducible assumption | with_reducible refine Ext.set ?_ ?_ _ _ | with_reducible refine Ext.alloc ?_ _ | with_reducible refine Ext.drew ?_ | with_reducible refine Ext.drewN ?_ _ | with_reducible refine Ext.trans ?_ (by with_reducible assumption) | omega | (simp; done) | (simp; omega))
    have zW0 : w.heap.size + 2 ≤ ((w.alloc (.cells #[.int .i64 l0.kind, .int .i64 l0.frm, .int .i64 l0.view, .int .i64 l0.op, .int .i64 l0.commit, .int .i64 l0.normal, .int .i64 l0.nonce, .int .i64 l0.client, .int .i64 l0.req, .int .i64 l0.answer, .int .i64 l0.cmd.kind, .int .i64 l0.cmd.key, .int .i64 l0.cmd.value, .int .i64 l0.log.base, u0, s0, t0] 32)).alloc (.cells #[.int .i64 l1.kind, .int .i64 l1.frm, .int .i64 l1.view, .int .i64 l1.op, .int .i64 l1.commit, .int .i64 l1.normal, .int .i64 l1.nonce, .int .i64 l1.client, .int .i64 l1.req, .int .i64 l1.answer, .int .i64 l1.cmd.kind, .int .i64 l1.cmd.key, .int .i64 l1.cmd.value, .int .i64 l1.log.base, u1, s1, t1] 32)).heap.size := by simp
    have x : Blk ((w.alloc (.cells #[.int .i64 l0.kind, .int .i64 l0.frm, .int .i64 l0.view, .int .i64 l0.op, .int .i64 l0.commit, .int .i64 l0.normal, .int .i64 l0.nonce, .int .i64 l0.client, .int .i64 l0.req, .int .i64 l0.answer, .int .i64 l0.cmd.kind, .int .i64 l0.cmd.key, .int .i64 l0.cmd.value, .int .i64 l0.log.base, u0, s0, t0] 32)).alloc (.cells #[.int .i64 l1.kind, .int .i64 l1.frm, .int .i64 l1.view, .int .i64 l1.op, .int .i64 l1.commit, .int .i64 l1.normal, .int .i64 l1.nonce, .int .i64 l1.client, .int .i64 l1.req, .int .i64 l1.answer, .int .i64 l1.cmd.kind, .int .i64 l1.cmd.key, .int .i64 l1.cmd.value, .int .i64 l1.log.base, u1, s1, t1] 32)) w.heap.size 32 [.int .i64 l0.kind, .int .i64 l0.frm, .int .i64 l0.view, .int .i64 l0.op, .int .i64 l0.commit, .int .i64 l0.normal, .int .i64 l0.nonce, .int .i64 l0.client, .int .i64 l0.req, .int .i64 l0.answer, .int .i64 l0.cmd.kind, .int .i64 l0.cmd.key, .int .i64 l0.cmd.value, .int .i64 l0.log.base, u0, s0, t0] := ((Blk.new w #[.int .i64 l0.kind, .int .i64 l0.frm, .int .i64 l0.view, .int .i64 l0.op, .int .i64 l0.commit, .int .i64 l0.normal, .int .i64 l0.nonce, .int .i64 l0.client, .int .i64 l0.req, .int .i64 l0.answer, .int .i64 l0.cmd.kind, .int .i64 l0.cmd.key, .int .i64 l0.cmd.value, .int .i64 l0.log.base, u0, s0, t0] 32 (by first | rfl | simp)).alloc (.cells #[.int .i64 l1.kind, .int .i64 l1.frm, .int .i64 l1.view, .int .i64 l1.op, .int .i64 l1.commit, .int .i64 l1.normal, .int .i64 l1.nonce, .int .i64 l1.client, .int .i64 l1.req, .int .i64 l1.answer, .int .i64 l1.cmd.kind, .int .i64 l1.cmd.key, .int .i64 l1.cmd.value, .int .i64 l1.log.base, u1, s1, t1] 32))
    have y : Blk ((w.alloc (.cells #[.int .i64 l0.kind, .int .i64 l0.frm, .int .i64 l0.view, .int .i64 l0.op, .int .i64 l0.commit, .int .i64 l0.normal, .int .i64 l0.nonce, .int .i64 l0.client, .int .i64 l0.req, .int .i64 l0.answer, .int .i64 l0.cmd.kind, .int .i64 l0.cmd.key, .int .i64 l0.cmd.value, .int .i64 l0.log.base, u0, s0, t0] 32)).alloc (.cells #[.int .i64 l1.kind, .int .i64 l1.frm, .int .i64 l1.view, .int .i64 l1.op, .int .i64 l1.commit, .int .i64 l1.normal, .int .i64 l1.nonce, .int .i64 l1.client, .int .i64 l1.req, .int .i64 l1.answer, .int .i64 l1.cmd.kind, .int .i64 l1.cmd.key, .int .i64 l1.cmd.value, .int .i64 l1.log.base, u1, s1, t1] 32)) (w.heap.size + 1) 32 [.int .i64 l1.kind, .int .i64 l1.frm, .int .i64 l1.view, .int .i64 l1.op, .int .i64 l1.commit, .int .i64 l1.normal, .int .i64 l1.nonce, .int .i64 l1.client, .int .i64 l1.req, .int .i64 l1.answer, .int .i64 l1.cmd.kind, .int .i64 l1.cmd.key, .int .i64 l1.cmd.value, .int .i64 l1.log.base, u1, s1, t1] := (Blk.new (w.alloc (.cells #[.int .i64 l0.kind, .int .i64 l0.frm, .int .i64 l0.view, .int .i64 l0.op, .int .i64 l0.commit, .int .i64 l0.normal, .int .i64 l0.nonce, .int .i64 l0.client, .int .i64 l0.req, .int .i64 l0.answer, .int .i64 l0.cmd.kind, .int .i64 l0.cmd.key, .int .i64 l0.cmd.value, .int .i64 l0.log.base, u0, s0, t0] 32)) #[.int .i64 l1.kind, .int .i64 l1.frm, .int .i64 l1.view, .int .i64 l1.op, .int .i64 l1.commit, .int .i64 l1.normal, .int .i64 l1.nonce, .int .i64 l1.client, .int .i64 l1.req, .int .i64 l1.answer, .int .i64 l1.cmd.kind, .int .i64 l1.cmd.key, .int .i64 l1.cmd.value, .int .i64 l1.log.base, u1, s1, t1] 32 (by first | rfl | simp))
    go_enter Try.func3, Try.ntmps3
    go_upto_region 2 with (fail)
    generalize ((w.alloc (.cells #[.int .i64 l0.kind, .int .i64 l0.frm, .int .i64 l0.view, .int .i64 l0.op, .int .i64 l0.commit, .int .i64 l0.normal, .int .i64 l0.nonce, .int .i64 l0.client, .int .i64 l0.req, .int .i64 l0.answer, .int .i64 l0.cmd.kind, .int .i64 l0.cmd.key, .int .i64 l0.cmd.value, .int .i64 l0.log.base, u0, s0, t0] 32)).alloc (.cells #[.int .i64 l1.kind, .int .i64 l1.frm, .int .i64 l1.view, .int .i64 l1.op, .int .i64 l1.commit, .int .i64 l1.normal, .int .i64 l1.nonce, .int .i64 l1.client, .int .i64 l1.req, .int .i64 l1.answer, .int .i64 l1.cmd.kind, .int .i64 l1.cmd.key, .int .i64 l1.cmd.value, .int .i64 l1.log.base, u1, s1, t1] 32)) = W0 at *
    refine wp_region_list ?_
    refine wpList_load_mid rfl 32 (.tmp 2) rfl (w.heap.size) 0 rfl [.int .i64 l0.kind, .int .i64 l0.frm, .int .i64 l0.view, .int .i64 l0.op, .int .i64 l0.commit, .int .i64 l0.normal, .int .i64 l0.nonce, .int .i64 l0.client, .int .i64 l0.req, .int .i64 l0.answer, .int .i64 l0.cmd.kind, .int .i64 l0.cmd.key, .int .i64 l0.cmd.value, .int .i64 l0.log.base, u0, s0, t0] _ x.range Try.underlying32 rfl (by kernel_rfl) ?_
    go_wp2_with fail
    refine (szMsg_no _ l0 _ _ _ (by exact r0.keep (keepE' hW0 (Nat.le_refl _))) (by omega) (by omega) (by omega) (by omega)).mono ?_
    rintro e1 w1 ⟨rfl, hE1⟩
    replace x := x.ext hE1
    replace y := y.ext hE1
    have hX1 := hW0.trans hE1
    have hz1 := hX1.size
    clear hE1
    go_wp2
    go_ret
    exact ⟨rfl, hX1⟩
  by_cases hbig1 : szL l0.log + szL l1.log ≤ 1048576
  rotate_left
  · skip
    obtain ⟨u0, s0, t0, hv0, -⟩ := id r0
    subst hv0
    obtain ⟨u1, s1, t1, hv1, -⟩ := id r1
    subst hv1
    have hW0 : Ext w ((w.alloc (.cells #[.int .i64 l0.kind, .int .i64 l0.frm, .int .i64 l0.view, .int .i64 l0.op, .int .i64 l0.commit, .int .i64 l0.normal, .int .i64 l0.nonce, .int .i64 l0.client, .int .i64 l0.req, .int .i64 l0.answer, .int .i64 l0.cmd.kind, .int .i64 l0.cmd.key, .int .i64 l0.cmd.value, .int .i64 l0.log.base, u0, s0, t0] 32)).alloc (.cells #[.int .i64 l1.kind, .int .i64 l1.frm, .int .i64 l1.view, .int .i64 l1.op, .int .i64 l1.commit, .int .i64 l1.normal, .int .i64 l1.nonce, .int .i64 l1.client, .int .i64 l1.req, .int .i64 l1.answer, .int .i64 l1.cmd.kind, .int .i64 l1.cmd.key, .int .i64 l1.cmd.value, .int .i64 l1.log.base, u1, s1, t1] 32)) := by repeat' (first | with_reducible exact Ext.refl _ | with_reducible assumption | with_reducible refine Ext.set ?_ ?_ _ _ | with_reducible refine Ext.alloc ?_ _ | with_reducible refine Ext.drew ?_ | with_reducible refine Ext.drewN ?_ _ | with_reducible refine Ext.trans ?_ (by with_reducible assumption) | omega | (simp; done) | (simp; omega))
    have zW0 : w.heap.size + 2 ≤ ((w.alloc (.cells #[.int .i64 l0.kind, .int .i64 l0.frm, .int .i64 l0.view, .int .i64 l0.op, .int .i64 l0.commit, .int .i64 l0.normal, .int .i64 l0.nonce, .int .i64 l0.client, .int .i64 l0.req, .int .i64 l0.answer, .int .i64 l0.cmd.kind, .int .i64 l0.cmd.key, .int .i64 l0.cmd.value, .int .i64 l0.log.base, u0, s0, t0] 32)).alloc (.cells #[.int .i64 l1.kind, .int .i64 l1.frm, .int .i64 l1.view, .int .i64 l1.op, .int .i64 l1.commit, .int .i64 l1.normal, .int .i64 l1.nonce, .int .i64 l1.client, .int .i64 l1.req, .int .i64 l1.answer, .int .i64 l1.cmd.kind, .int .i64 l1.cmd.key, .int .i64 l1.cmd.value, .int .i64 l1.log.base, u1, s1, t1] 32)).heap.size := by simp
    have x : Blk ((w.alloc (.cells #[.int .i64 l0.kind, .int .i64 l0.frm, .int .i64 l0.view, .int .i64 l0.op, .int .i64 l0.commit, .int .i64 l0.normal, .int .i64 l0.nonce, .int .i64 l0.client, .int .i64 l0.req, .int .i64 l0.answer, .int .i64 l0.cmd.kind, .int .i64 l0.cmd.key, .int .i64 l0.cmd.value, .int .i64 l0.log.base, u0, s0, t0] 32)).alloc (.cells #[.int .i64 l1.kind, .int .i64 l1.frm, .int .i64 l1.view, .int .i64 l1.op, .int .i64 l1.commit, .int .i64 l1.normal, .int .i64 l1.nonce, .int .i64 l1.client, .int .i64 l1.req, .int .i64 l1.answer, .int .i64 l1.cmd.kind, .int .i64 l1.cmd.key, .int .i64 l1.cmd.value, .int .i64 l1.log.base, u1, s1, t1] 32)) w.heap.size 32 [.int .i64 l0.kind, .int .i64 l0.frm, .int .i64 l0.view, .int .i64 l0.op, .int .i64 l0.commit, .int .i64 l0.normal, .int .i64 l0.nonce, .int .i64 l0.client, .int .i64 l0.req, .int .i64 l0.answer, .int .i64 l0.cmd.kind, .int .i64 l0.cmd.key, .int .i64 l0.cmd.value, .int .i64 l0.log.base, u0, s0, t0] := ((Blk.new w #[.int .i64 l0.kind, .int .i64 l0.frm, .int .i64 l0.view, .int .i64 l0.op, .int .i64 l0.commit, .int .i64 l0.normal, .int .i64 l0.nonce, .int .i64 l0.client, .int .i64 l0.req, .int .i64 l0.answer, .int .i64 l0.cmd.kind, .int .i64 l0.cmd.key, .int .i64 l0.cmd.value, .int .i64 l0.log.base, u0, s0, t0] 32 (by first | rfl | simp)).alloc (.cells #[.int .i64 l1.kind, .int .i64 l1.frm, .int .i64 l1.view, .int .i64 l1.op, .int .i64 l1.commit, .int .i64 l1.normal, .int .i64 l1.nonce, .int .i64 l1.client, .int .i64 l1.req, .int .i64 l1.answer, .int .i64 l1.cmd.kind, .int .i64 l1.cmd.key, .int .i64 l1.cmd.value, .int .i64 l1.log.base, u1, s1, t1] 32))
    have y : Blk ((w.alloc (.cells #[.int .i64 l0.kind, .int .i64 l0.frm, .int .i64 l0.view, .int .i64 l0.op, .int .i64 l0.commit, .int .i64 l0.normal, .int .i64 l0.nonce, .int .i64 l0.client, .int .i64 l0.req, .int .i64 l0.answer, .int .i64 l0.cmd.kind, .int .i64 l0.cmd.key, .int .i64 l0.cmd.value, .int .i64 l0.log.base, u0, s0, t0] 32)).alloc (.cells #[.int .i64 l1.kind, .int .i64 l1.frm, .int .i64 l1.view, .int .i64 l1.op, .int .i64 l1.commit, .int .i64 l1.normal, .int .i64 l1.nonce, .int .i64 l1.client, .int .i64 l1.req, .int .i64 l1.answer, .int .i64 l1.cmd.kind, .int .i64 l1.cmd.key, .int .i64 l1.cmd.value, .int .i64 l1.log.base, u1, s1, t1] 32)) (w.heap.size + 1) 32 [.int .i64 l1.kind, .int .i64 l1.frm, .int .i64 l1.view, .int .i64 l1.op, .int .i64 l1.commit, .int .i64 l1.normal, .int .i64 l1.nonce, .int .i64 l1.client, .int .i64 l1.req, .int .i64 l1.answer, .int .i64 l1.cmd.kind, .int .i64 l1.cmd.key, .int .i64 l1.cmd.value, .int .i64 l1.log.base, u1, s1, t1] := (Blk.new (w.alloc (.cells #[.int .i64 l0.kind, .int .i64 l0.frm, .int .i64 l0.view, .int .i64 l0.op, .int .i64 l0.commit, .int .i64 l0.normal, .int .i64 l0.nonce, .int .i64 l0.client, .int .i64 l0.req, .int .i64 l0.answer, .int .i64 l0.cmd.kind, .int .i64 l0.cmd.key, .int .i64 l0.cmd.value, .int .i64 l0.log.base, u0, s0, t0] 32)) #[.int .i64 l1.kind, .int .i64 l1.frm, .int .i64 l1.view, .int .i64 l1.op, .int .i64 l1.commit, .int .i64 l1.normal, .int .i64 l1.nonce, .int .i64 l1.client, .int .i64 l1.req, .int .i64 l1.answer, .int .i64 l1.cmd.kind, .int .i64 l1.cmd.key, .int .i64 l1.cmd.value, .int .i64 l1.log.base, u1, s1, t1] 32 (by first | rfl | simp))
    go_enter Try.func3, Try.ntmps3
    go_upto_region 2 with (fail)
    generalize ((w.alloc (.cells #[.int .i64 l0.kind, .int .i64 l0.frm, .int .i64 l0.view, .int .i64 l0.op, .int .i64 l0.commit, .int .i64 l0.normal, .int .i64 l0.nonce, .int .i64 l0.client, .int .i64 l0.req, .int .i64 l0.answer, .int .i64 l0.cmd.kind, .int .i64 l0.cmd.key, .int .i64 l0.cmd.value, .int .i64 l0.log.base, u0, s0, t0] 32)).alloc (.cells #[.int .i64 l1.kind, .int .i64 l1.frm, .int .i64 l1.view, .int .i64 l1.op, .int .i64 l1.commit, .int .i64 l1.normal, .int .i64 l1.nonce, .int .i64 l1.client, .int .i64 l1.req, .int .i64 l1.answer, .int .i64 l1.cmd.kind, .int .i64 l1.cmd.key, .int .i64 l1.cmd.value, .int .i64 l1.log.base, u1, s1, t1] 32)) = W0 at *
    refine wp_region_list ?_
    refine wpList_load_mid rfl 32 (.tmp 2) rfl (w.heap.size) 0 rfl [.int .i64 l0.kind, .int .i64 l0.frm, .int .i64 l0.view, .int .i64 l0.op, .int .i64 l0.commit, .int .i64 l0.normal, .int .i64 l0.nonce, .int .i64 l0.client, .int .i64 l0.req, .int .i64 l0.answer, .int .i64 l0.cmd.kind, .int .i64 l0.cmd.key, .int .i64 l0.cmd.value, .int .i64 l0.log.base, u0, s0, t0] _ x.range Try.underlying32 rfl (by kernel_rfl) ?_
    go_wp2_with fail
    refine (szMsg_ok _ l0 _ _ _ (by exact r0.keep (keepE' hW0 (Nat.le_refl _))) (by omega) (by omega) (by omega)).mono ?_
    rintro e1 w1 ⟨rfl, hE1⟩
    replace x := x.ext hE1
    replace y := y.ext hE1
    have hX1 := hW0.trans hE1
    have hz1 := hX1.size
    clear hE1
    go_upto_region 5 with (fail)
    refine wp_region_list ?_
    refine wpList_load_mid rfl 32 (.tmp 3) rfl (w.heap.size + 1) 0 rfl [.int .i64 l1.kind, .int .i64 l1.frm, .int .i64 l1.view, .int .i64 l1.op, .int .i64 l1.commit, .int .i64 l1.normal, .int .i64 l1.nonce, .int .i64 l1.client, .int .i64 l1.req, .int .i64 l1.answer, .int .i64 l1.cmd.kind, .int .i64 l1.cmd.key, .int .i64 l1.cmd.value, .int .i64 l1.log.base, u1, s1, t1] _ y.range Try.underlying32 rfl (by kernel_rfl) ?_
    go_wp2_with fail
    refine (szMsg_no _ l1 _ _ _ (by exact r1.keep (keepE' hX1 (Nat.le_refl _))) (by omega) (by omega) (by omega) (by omega)).mono ?_
    rintro e2 w2 ⟨rfl, hE2⟩
    replace x := x.ext hE2
    replace y := y.ext hE2
    have hX2 := hX1.trans hE2
    have hz2 := hX2.size
    clear hE2
    go_wp2
    go_ret
    exact ⟨rfl, hX2⟩
  obtain ⟨u0, s0, t0, hv0, -⟩ := id r0
  subst hv0
  obtain ⟨u1, s1, t1, hv1, -⟩ := id r1
  subst hv1
  have hW0 : Ext w ((w.alloc (.cells #[.int .i64 l0.kind, .int .i64 l0.frm, .int .i64 l0.view, .int .i64 l0.op, .int .i64 l0.commit, .int .i64 l0.normal, .int .i64 l0.nonce, .int .i64 l0.client, .int .i64 l0.req, .int .i64 l0.answer, .int .i64 l0.cmd.kind, .int .i64 l0.cmd.key, .int .i64 l0.cmd.value, .int .i64 l0.log.base, u0, s0, t0] 32)).alloc (.cells #[.int .i64 l1.kind, .int .i64 l1.frm, .int .i64 l1.view, .int .i64 l1.op, .int .i64 l1.commit, .int .i64 l1.normal, .int .i64 l1.nonce, .int .i64 l1.client, .int .i64 l1.req, .int .i64 l1.answer, .int .i64 l1.cmd.kind, .int .i64 l1.cmd.key, .int .i64 l1.cmd.value, .int .i64 l1.log.base, u1, s1, t1] 32)) := by repeat' (first | with_reducible exact Ext.refl _ | with_reducible assumption | with_reducible refine Ext.set ?_ ?_ _ _ | with_reducible refine Ext.alloc ?_ _ | with_reducible refine Ext.drew ?_ | with_reducible refine Ext.drewN ?_ _ | with_reducible refine Ext.trans ?_ (by with_reducible assumption) | omega | (simp; done) | (simp; omega))
  have zW0 : w.heap.size + 2 ≤ ((w.alloc (.cells #[.int .i64 l0.kind, .int .i64 l0.frm, .int .i64 l0.view, .int .i64 l0.op, .int .i64 l0.commit, .int .i64 l0.normal, .int .i64 l0.nonce, .int .i64 l0.client, .int .i64 l0.req, .int .i64 l0.answer, .int .i64 l0.cmd.kind, .int .i64 l0.cmd.key, .int .i64 l0.cmd.value, .int .i64 l0.log.base, u0, s0, t0] 32)).alloc (.cells #[.int .i64 l1.kind, .int .i64 l1.frm, .int .i64 l1.view, .int .i64 l1.op, .int .i64 l1.commit, .int .i64 l1.normal, .int .i64 l1.nonce, .int .i64 l1.client, .int .i64 l1.req, .int .i64 l1.answer, .int .i64 l1.cmd.kind, .int .i64 l1.cmd.key, .int .i64 l1.cmd.value, .int .i64 l1.log.base, u1, s1, t1] 32)).heap.size := by simp
  have x : Blk ((w.alloc (.cells #[.int .i64 l0.kind, .int .i64 l0.frm, .int .i64 l0.view, .int .i64 l0.op, .int .i64 l0.commit, .int .i64 l0.normal, .int .i64 l0.nonce, .int .i64 l0.client, .int .i64 l0.req, .int .i64 l0.answer, .int .i64 l0.cmd.kind, .int .i64 l0.cmd.key, .int .i64 l0.cmd.value, .int .i64 l0.log.base, u0, s0, t0] 32)).alloc (.cells #[.int .i64 l1.kind, .int .i64 l1.frm, .int .i64 l1.view, .int .i64 l1.op, .int .i64 l1.commit, .int .i64 l1.normal, .int .i64 l1.nonce, .int .i64 l1.client, .int .i64 l1.req, .int .i64 l1.answer, .int .i64 l1.cmd.kind, .int .i64 l1.cmd.key, .int .i64 l1.cmd.value, .int .i64 l1.log.base, u1, s1, t1] 32)) w.heap.size 32 [.int .i64 l0.kind, .int .i64 l0.frm, .int .i64 l0.view, .int .i64 l0.op, .int .i64 l0.commit, .int .i64 l0.normal, .int .i64 l0.nonce, .int .i64 l0.client, .int .i64 l0.req, .int .i64 l0.answer, .int .i64 l0.cmd.kind, .int .i64 l0.cmd.key, .int .i64 l0.cmd.value, .int .i64 l0.log.base, u0, s0, t0] := ((Blk.new w #[.int .i64 l0.kind, .int .i64 l0.frm, .int .i64 l0.view, .int .i64 l0.op, .int .i64 l0.commit, .int .i64 l0.normal, .int .i64 l0.nonce, .int .i64 l0.client, .int .i64 l0.req, .int .i64 l0.answer, .int .i64 l0.cmd.kind, .int .i64 l0.cmd.key, .int .i64 l0.cmd.value, .int .i64 l0.log.base, u0, s0, t0] 32 (by first | rfl | simp)).alloc (.cells #[.int .i64 l1.kind, .int .i64 l1.frm, .int .i64 l1.view, .int .i64 l1.op, .int .i64 l1.commit, .int .i64 l1.normal, .int .i64 l1.nonce, .int .i64 l1.client, .int .i64 l1.req, .int .i64 l1.answer, .int .i64 l1.cmd.kind, .int .i64 l1.cmd.key, .int .i64 l1.cmd.value, .int .i64 l1.log.base, u1, s1, t1] 32))
  have y : Blk ((w.alloc (.cells #[.int .i64 l0.kind, .int .i64 l0.frm, .int .i64 l0.view, .int .i64 l0.op, .int .i64 l0.commit, .int .i64 l0.normal, .int .i64 l0.nonce, .int .i64 l0.client, .int .i64 l0.req, .int .i64 l0.answer, .int .i64 l0.cmd.kind, .int .i64 l0.cmd.key, .int .i64 l0.cmd.value, .int .i64 l0.log.base, u0, s0, t0] 32)).alloc (.cells #[.int .i64 l1.kind, .int .i64 l1.frm, .int .i64 l1.view, .int .i64 l1.op, .int .i64 l1.commit, .int .i64 l1.normal, .int .i64 l1.nonce, .int .i64 l1.client, .int .i64 l1.req, .int .i64 l1.answer, .int .i64 l1.cmd.kind, .int .i64 l1.cmd.key, .int .i64 l1.cmd.value, .int .i64 l1.log.base, u1, s1, t1] 32)) (w.heap.size + 1) 32 [.int .i64 l1.kind, .int .i64 l1.frm, .int .i64 l1.view, .int .i64 l1.op, .int .i64 l1.commit, .int .i64 l1.normal, .int .i64 l1.nonce, .int .i64 l1.client, .int .i64 l1.req, .int .i64 l1.answer, .int .i64 l1.cmd.kind, .int .i64 l1.cmd.key, .int .i64 l1.cmd.value, .int .i64 l1.log.base, u1, s1, t1] := (Blk.new (w.alloc (.cells #[.int .i64 l0.kind, .int .i64 l0.frm, .int .i64 l0.view, .int .i64 l0.op, .int .i64 l0.commit, .int .i64 l0.normal, .int .i64 l0.nonce, .int .i64 l0.client, .int .i64 l0.req, .int .i64 l0.answer, .int .i64 l0.cmd.kind, .int .i64 l0.cmd.key, .int .i64 l0.cmd.value, .int .i64 l0.log.base, u0, s0, t0] 32)) #[.int .i64 l1.kind, .int .i64 l1.frm, .int .i64 l1.view, .int .i64 l1.op, .int .i64 l1.commit, .int .i64 l1.normal, .int .i64 l1.nonce, .int .i64 l1.client, .int .i64 l1.req, .int .i64 l1.answer, .int .i64 l1.cmd.kind, .int .i64 l1.cmd.key, .int .i64 l1.cmd.value, .int .i64 l1.log.base, u1, s1, t1] 32 (by first | rfl | simp))
  go_enter Try.func3, Try.ntmps3
  go_upto_region 2 with (fail)
  generalize ((w.alloc (.cells #[.int .i64 l0.kind, .int .i64 l0.frm, .int .i64 l0.view, .int .i64 l0.op, .int .i64 l0.commit, .int .i64 l0.normal, .int .i64 l0.nonce, .int .i64 l0.client, .int .i64 l0.req, .int .i64 l0.answer, .int .i64 l0.cmd.kind, .int .i64 l0.cmd.key, .int .i64 l0.cmd.value, .int .i64 l0.log.base, u0, s0, t0] 32)).alloc (.cells #[.int .i64 l1.kind, .int .i64 l1.frm, .int .i64 l1.view, .int .i64 l1.op, .int .i64 l1.commit, .int .i64 l1.normal, .int .i64 l1.nonce, .int .i64 l1.client, .int .i64 l1.req, .int .i64 l1.answer, .int .i64 l1.cmd.kind, .int .i64 l1.cmd.key, .int .i64 l1.cmd.value, .int .i64 l1.log.base, u1, s1, t1] 32)) = W0 at *
  refine wp_region_list ?_
  refine wpList_load_mid rfl 32 (.tmp 2) rfl (w.heap.size) 0 rfl [.int .i64 l0.kind, .int .i64 l0.frm, .int .i64 l0.view, .int .i64 l0.op, .int .i64 l0.commit, .int .i64 l0.normal, .int .i64 l0.nonce, .int .i64 l0.client, .int .i64 l0.req, .int .i64 l0.answer, .int .i64 l0.cmd.kind, .int .i64 l0.cmd.key, .int .i64 l0.cmd.value, .int .i64 l0.log.base, u0, s0, t0] _ x.range Try.underlying32 rfl (by kernel_rfl) ?_
  go_wp2_with fail
  refine (szMsg_ok _ l0 _ _ _ (by exact r0.keep (keepE' hW0 (Nat.le_refl _))) (by omega) (by omega) (by omega)).mono ?_
  rintro e1 w1 ⟨rfl, hE1⟩
  replace x := x.ext hE1
  replace y := y.ext hE1
  have hX1 := hW0.trans hE1
  have hz1 := hX1.size
  clear hE1
  as_aux_lemma =>
    go_upto_region 5 with (fail)
    refine wp_region_list ?_
    refine wpList_load_mid rfl 32 (.tmp 3) rfl (w.heap.size + 1) 0 rfl [.int .i64 l1.kind, .int .i64 l1.frm, .int .i64 l1.view, .int .i64 l1.op, .int .i64 l1.commit, .int .i64 l1.normal, .int .i64 l1.nonce, .int .i64 l1.client, .int .i64 l1.req, .int .i64 l1.answer, .int .i64 l1.cmd.kind, .int .i64 l1.cmd.key, .int .i64 l1.cmd.value, .int .i64 l1.log.base, u1, s1, t1] _ y.range Try.underlying32 rfl (by kernel_rfl) ?_
    go_wp2_with fail
    refine (szMsg_ok _ l1 _ _ _ (by exact r1.keep (keepE' hX1 (Nat.le_refl _))) (by omega) (by omega) (by omega)).mono ?_
    rintro e2 w2 ⟨rfl, hE2⟩
    replace x := x.ext hE2
    replace y := y.ext hE2
    have hX2 := hX1.trans hE2
    have hz2 := hX2.size
    clear hE2
    have hzW := hX2.size
    go_upto_region 8 with (fail)
    as_aux_lemma =>
      refine wp_region_held_drew (S := (fun w' => Blk w' (w.heap.size) 32 [.int .i64 l0.kind, .int .i64 l0.frm, .int .i64 l0.view, .int .i64 l0.op, .int .i64 l0.commit, .int .i64 l0.normal, .int .i64 l0.nonce, .int .i64 l0.client, .int .i64 l0.req, .int .i64 l0.answer, .int .i64 l0.cmd.kind, .int .i64 l0.cmd.key, .int .i64 l0.cmd.value, .int .i64 l0.log.base, u0, s0, t0] ∧ Blk w' (w.heap.size + 1) 32 [.int .i64 l1.kind, .int .i64 l1.frm, .int .i64 l1.view, .int .i64 l1.op, .int .i64 l1.commit, .int .i64 l1.normal, .int .i64 l1.nonce, .int .i64 l1.client, .int .i64 l1.req, .int .i64 l1.answer, .int .i64 l1.cmd.kind, .int .i64 l1.cmd.key, .int .i64 l1.cmd.value, .int .i64 l1.log.base, u1, s1, t1])) (by kernel_rfl) ⟨x.drew, y.drew⟩ (fun hHeld => ?_)
      refine wpAnyH_take (i := 0) (v := .agg #[.int .i64 l0.kind, .int .i64 l0.frm, .int .i64 l0.view, .int .i64 l0.op, .int .i64 l0.commit, .int .i64 l0.normal, .int .i64 l0.nonce, .int .i64 l0.client, .int .i64 l0.req, .int .i64 l0.answer, .int .i64 l0.cmd.kind, .int .i64 l0.cmd.key, .int .i64 l0.cmd.value, .int .i64 l0.log.base, u0, s0, t0]) rfl (by kernel_rfl) (by kernel_rfl) (by kernel_rfl) (fun _ _ _ h => h) (yieldsIf_load_mid (by rfl) 32 (.tmp 2) rfl (w.heap.size) 0 rfl [.int .i64 l0.kind, .int .i64 l0.frm, .int .i64 l0.view, .int .i64 l0.op, .int .i64 l0.commit, .int .i64 l0.normal, .int .i64 l0.nonce, .int .i64 l0.client, .int .i64 l0.req, .int .i64 l0.answer, .int .i64 l0.cmd.kind, .int .i64 l0.cmd.key, .int .i64 l0.cmd.value, .int .i64 l0.log.base, u0, s0, t0] _ (fun w hSw => Blk.range (hSw.1)) Try.underlying32 rfl (by kernel_rfl)) (by assumption) ?_
      try simp only [Act.put, List.getElem_toArray, List.getElem_cons_zero, List.getElem_cons_succ, List.setIfInBounds_toArray, List.set_cons_zero, List.set_cons_succ]
      refine wpAnyH_take (i := 2) (v := .agg #[.int .i64 l1.kind, .int .i64 l1.frm, .int .i64 l1.view, .int .i64 l1.op, .int .i64 l1.commit, .int .i64 l1.normal, .int .i64 l1.nonce, .int .i64 l1.client, .int .i64 l1.req, .int .i64 l1.answer, .int .i64 l1.cmd.kind, .int .i64 l1.cmd.key, .int .i64 l1.cmd.value, .int .i64 l1.log.base, u1, s1, t1]) rfl (by kernel_rfl) (by kernel_rfl) (by kernel_rfl) (fun _ _ _ h => h) (yieldsIf_load_mid (by rfl) 32 (.tmp 3) rfl (w.heap.size + 1) 0 rfl [.int .i64 l1.kind, .int .i64 l1.frm, .int .i64 l1.view, .int .i64 l1.op, .int .i64 l1.commit, .int .i64 l1.normal, .int .i64 l1.nonce, .int .i64 l1.client, .int .i64 l1.req, .int .i64 l1.answer, .int .i64 l1.cmd.kind, .int .i64 l1.cmd.key, .int .i64 l1.cmd.value, .int .i64 l1.log.base, u1, s1, t1] _ (fun w hSw => Blk.range (hSw.2)) Try.underlying32 rfl (by kernel_rfl)) (by assumption) ?_
      try simp only [Act.put, List.getElem_toArray, List.getElem_cons_zero, List.getElem_cons_succ, List.setIfInBounds_toArray, List.set_cons_zero, List.set_cons_succ]
      refine wpAnyH_ready (rs := [1]) (by kernel_rfl) (by simp) ?_
      refine AllReadyH.cons rfl (fun K hK => ?_) AllReadyH.nil
      go_simp
      go_at_call 11
      refine (toMsg_v _ l0 _ _ (by exact r0.keep (keepE' hX2.drew (Nat.le_refl _))) (by first | omega | (simp; omega)) (by omega)).mono ?_
      rintro e w3 ⟨v0, rfl, o0, hE3⟩
      have hX3 := hX2.drew.trans hE3
      have hz3 := hX3.size
      obtain ⟨uu, ss, tt, hvv, ⟨A10, n10, c10, hva, -⟩, ⟨A11, n11, c11, hvb, -⟩, ⟨A12, n12, c12, hvt, -⟩⟩ := id o0
      subst hva hvb hvt hvv
      (try dsimp only)
      refine hK.out _ _ ⟨hHeld.1.ext hE3, hHeld.2.ext hE3⟩ (fun hHeld => ?_)
      clear hK K
      try simp only [Act.put, List.getElem_toArray, List.getElem_cons_zero, List.getElem_cons_succ, List.setIfInBounds_toArray, List.set_cons_zero, List.set_cons_succ]
      refine wpAnyH_ready (rs := [3]) (by kernel_rfl) (by simp) ?_
      refine AllReadyH.cons rfl (fun K hK => ?_) AllReadyH.nil
      go_simp
      go_at_call 11
      refine (toMsg_v _ l1 _ _ (by exact r1.keep (keepE' hX3 (Nat.le_refl _))) (by first | omega | (simp; omega)) (by omega)).mono ?_
      rintro e w4 ⟨v1, rfl, o1, hE4⟩
      have hX4 := hX3.trans hE4
      have hz4 := hX4.size
      have hy4 := hE4.size
      replace o0 := o0.keep (keepE hE4 (by omega))
      obtain ⟨uu, ss, tt, hvv, ⟨A20, n20, c20, hva, -⟩, ⟨A21, n21, c21, hvb, -⟩, ⟨A22, n22, c22, hvt, -⟩⟩ := id o1
      subst hva hvb hvt hvv
      (try dsimp only)
      refine hK.out _ _ ⟨hHeld.1.ext hE4, hHeld.2.ext hE4⟩ (fun hHeld => ?_)
      clear hK K
      try simp only [Act.put, List.getElem_toArray, List.getElem_cons_zero, List.getElem_cons_succ, List.setIfInBounds_toArray, List.set_cons_zero, List.set_cons_succ]
      refine wpAnyH_ready (rs := [4]) (by kernel_rfl) (by simp) ?_
      refine AllReadyH.cons rfl (fun K hK => ?_) AllReadyH.nil
      go_simp
      go_at_call 10
      refine (sameMsg_s _ _ l0 l1 _ _ _ o0.rd (by omega) o1.rd (by omega)).mono ?_
      rintro e w5 ⟨rfl, hE5⟩
      have hX5 := hX4.trans hE5
      have hz5 := hX5.size
      (try dsimp only)
      refine hK.out _ _ ⟨hHeld.1.ext hE5, hHeld.2.ext hE5⟩ (fun hHeld => ?_)
      clear hK K
      try simp only [Act.put, List.getElem_toArray, List.getElem_cons_zero, List.getElem_cons_succ, List.setIfInBounds_toArray, List.set_cons_zero, List.set_cons_succ]
      refine wpAnyH_take (i := 5) (v := ?_) rfl (by kernel_rfl) (by kernel_rfl) (by kernel_rfl) (fun _ _ _ h => h) (Or.inl ⟨by rfl, ?_⟩) (by assumption) ?_
      rotate_left
      · (intro w hSw; (try dsimp only at hSw); go_simp; (try with_reducible rfl))
      try simp only [Act.put, List.getElem_toArray, List.getElem_cons_zero, List.getElem_cons_succ, List.setIfInBounds_toArray, List.set_cons_zero, List.set_cons_succ]
      refine wpAnyH_done (by kernel_rfl) ?_ _
      replace x := hHeld.1
      replace y := hHeld.2
      clear hHeld o0 o1 hE3 hE4 hE5
      as_aux_lemma =>
        go_upto_region 9 with (fail)
        refine wp_region_list ?_
        refine wpList_load_mid rfl 32 (.tmp 2) rfl (w.heap.size) 0 rfl [.int .i64 l0.kind, .int .i64 l0.frm, .int .i64 l0.view, .int .i64 l0.op, .int .i64 l0.commit, .int .i64 l0.normal, .int .i64 l0.nonce, .int .i64 l0.client, .int .i64 l0.req, .int .i64 l0.answer, .int .i64 l0.cmd.kind, .int .i64 l0.cmd.key, .int .i64 l0.cmd.value, .int .i64 l0.log.base, u0, s0, t0] _ x.range Try.underlying32 rfl (by kernel_rfl) ?_
        go_wp2_with fail
        refine (toMsg_v _ l0 _ _ (by exact r0.keep (keepE' hX5 (Nat.le_refl _))) (by omega) (by omega)).mono ?_
        rintro e w6 ⟨v2, rfl, o2, hE6⟩
        have hX6 := hX5.trans hE6
        have hz6 := hX6.size
        have hy6 := hE6.size
        obtain ⟨uu, ss, tt, hvv, ⟨A30, n30, c30, hva, -⟩, ⟨A31, n31, c31, hvb, -⟩, ⟨A32, n32, c32, hvt, -⟩⟩ := id o2
        subst hva hvb hvt hvv
        replace x := x.ext hE6
        replace y := y.ext hE6
        rename_i hK
        refine hK _ _ ?_
        clear hK
        refine wpList_plain rfl (fun K2 hK2 => ?_)
        go_simp
        refine hK2 _ _ ?_
        clear hK2
        have yy := Blk.new w6 #[.int .i64 0, .int .i64 0, .int .i64 0, .int .i64 0, .int .i64 0, .int .i64 0, .int .i64 0, .int .i64 0, .int .i64 0, .int .i64 0, .int .i64 0, .int .i64 0, .int .i64 0, .int .i64 0, .slice none 0 0, .slice none 0 0, .slice none 0 0] 44 rfl
        refine wpList_store_mid rfl 44 _ _ rfl w6.heap.size 0 #[.int .i64 l0.kind, .int .i64 l0.frm, .int .i64 l0.view, .int .i64 l0.op, .int .i64 l0.commit, .int .i64 l0.normal, .int .i64 l0.nonce, .int .i64 l0.client, .int .i64 l0.req, .int .i64 l0.answer, .int .i64 l0.cmd.kind, .int .i64 l0.cmd.key, .int .i64 l0.cmd.value, .int .i64 l0.log.base, .slice A30 n30 c30, .slice A31 n31 c31, .slice A32 n32 c32] rfl rfl (yy.there (n := 17) rfl) (by kernel_rfl) (all_oneCell_toArray (cs := [.int .i64 l0.kind, .int .i64 l0.frm, .int .i64 l0.view, .int .i64 l0.op, .int .i64 l0.commit, .int .i64 l0.normal, .int .i64 l0.nonce, .int .i64 l0.client, .int .i64 l0.req, .int .i64 l0.answer, .int .i64 l0.cmd.kind, .int .i64 l0.cmd.key, .int .i64 l0.cmd.value, .int .i64 l0.log.base, .slice A30 n30 c30, .slice A31 n31 c31, .slice A32 n32 c32]) (by intro v hv; simp at hv; rcases hv with rfl | rfl | rfl | rfl | rfl | rfl | rfl | rfl | rfl | rfl | rfl | rfl | rfl | rfl | rfl | rfl | rfl <;> rfl)) ?_
        refine wpList_nil ?_
        have hkV : Ext w6 ((w6.alloc (.cells #[.int .i64 0, .int .i64 0, .int .i64 0, .int .i64 0, .int .i64 0, .int .i64 0, .int .i64 0, .int .i64 0, .int .i64 0, .int .i64 0, .int .i64 0, .int .i64 0, .int .i64 0, .int .i64 0, .slice none 0 0, .slice none 0 0, .slice none 0 0] 44)).setCells w6.heap.size 0 [.int .i64 l0.kind, .int .i64 l0.frm, .int .i64 l0.view, .int .i64 l0.op, .int .i64 l0.commit, .int .i64 l0.normal, .int .i64 l0.nonce, .int .i64 l0.client, .int .i64 l0.req, .int .i64 l0.answer, .int .i64 l0.cmd.kind, .int .i64 l0.cmd.key, .int .i64 l0.cmd.value, .int .i64 l0.log.base, .slice A30 n30 c30, .slice A31 n31 c31, .slice A32 n32 c32]) := ((Ext.refl w6).alloc _).fr (fr_cells _ _ 0 _) (Nat.le_refl _)
        have p : Blk ((w6.alloc (.cells #[.int .i64 0, .int .i64 0, .int .i64 0, .int .i64 0, .int .i64 0, .int .i64 0, .int .i64 0, .int .i64 0, .int .i64 0, .int .i64 0, .int .i64 0, .int .i64 0, .int .i64 0, .int .i64 0, .slice none 0 0, .slice none 0 0, .slice none 0 0] 44)).setCells w6.heap.size 0 [.int .i64 l0.kind, .int .i64 l0.frm, .int .i64 l0.view, .int .i64 l0.op, .int .i64 l0.commit, .int .i64 l0.normal, .int .i64 l0.nonce, .int .i64 l0.client, .int .i64 l0.req, .int .i64 l0.answer, .int .i64 l0.cmd.kind, .int .i64 l0.cmd.key, .int .i64 l0.cmd.value, .int .i64 l0.log.base, .slice A30 n30 c30, .slice A31 n31 c31, .slice A32 n32 c32]) w6.heap.size 44 [.int .i64 l0.kind, .int .i64 l0.frm, .int .i64 l0.view, .int .i64 l0.op, .int .i64 l0.commit, .int .i64 l0.normal, .int .i64 l0.nonce, .int .i64 l0.client, .int .i64 l0.req, .int .i64 l0.answer, .int .i64 l0.cmd.kind, .int .i64 l0.cmd.key, .int .i64 l0.cmd.value, .int .i64 l0.log.base, .slice A30 n30 c30, .slice A31 n31 c31, .slice A32 n32 c32] := yy.whole [.int .i64 l0.kind, .int .i64 l0.frm, .int .i64 l0.view, .int .i64 l0.op, .int .i64 l0.commit, .int .i64 l0.normal, .int .i64 l0.nonce, .int .i64 l0.client, .int .i64 l0.req, .int .i64 l0.answer, .int .i64 l0.cmd.kind, .int .i64 l0.cmd.key, .int .i64 l0.cmd.value, .int .i64 l0.log.base, .slice A30 n30 c30, .slice A31 n31 c31, .slice A32 n32 c32] rfl
        replace x := x.ext hkV
        replace y := y.ext hkV
        replace o2 := o2.keep (keepE hkV (by omega))
        have hXv6 := hX6.trans hkV
        have hzv6 := hXv6.size
        have hyv6 := hkV.size
        clear yy hkV hE6
        generalize ((w6.alloc (.cells #[.int .i64 0, .int .i64 0, .int .i64 0, .int .i64 0, .int .i64 0, .int .i64 0, .int .i64 0, .int .i64 0, .int .i64 0, .int .i64 0, .int .i64 0, .int .i64 0, .int .i64 0, .int .i64 0, .slice none 0 0, .slice none 0 0, .slice none 0 0] 44)).setCells w6.heap.size 0 [.int .i64 l0.kind, .int .i64 l0.frm, .int .i64 l0.view, .int .i64 l0.op, .int .i64 l0.commit, .int .i64 l0.normal, .int .i64 l0.nonce, .int .i64 l0.client, .int .i64 l0.req, .int .i64 l0.answer, .int .i64 l0.cmd.kind, .int .i64 l0.cmd.key, .int .i64 l0.cmd.value, .int .i64 l0.log.base, .slice A30 n30 c30, .slice A31 n31 c31, .slice A32 n32 c32]) = v6 at *
        as_aux_lemma =>
          go_upto_region 10 with (fail)
          refine wp_region_list ?_
          refine wpList_load_mid rfl 32 (.tmp 3) rfl (w.heap.size + 1) 0 rfl [.int .i64 l1.kind, .int .i64 l1.frm, .int .i64 l1.view, .int .i64 l1.op, .int .i64 l1.commit, .int .i64 l1.normal, .int .i64 l1.nonce, .int .i64 l1.client, .int .i64 l1.req, .int .i64 l1.answer, .int .i64 l1.cmd.kind, .int .i64 l1.cmd.key, .int .i64 l1.cmd.value, .int .i64 l1.log.base, u1, s1, t1] _ y.range Try.underlying32 rfl (by kernel_rfl) ?_
          go_wp2_with fail
          refine (toMsg_v _ l1 _ _ (by exact r1.keep (keepE' hXv6 (Nat.le_refl _))) (by omega) (by omega)).mono ?_
          rintro e w7 ⟨v3, rfl, o3, hE7⟩
          have hX7 := hXv6.trans hE7
          have hz7 := hX7.size
          have hy7 := hE7.size
          obtain ⟨uu, ss, tt, hvv, ⟨A40, n40, c40, hva, -⟩, ⟨A41, n41, c41, hvb, -⟩, ⟨A42, n42, c42, hvt, -⟩⟩ := id o3
          subst hva hvb hvt hvv
          replace x := x.ext hE7
          replace y := y.ext hE7
          replace p := p.ext hE7
          replace o2 := o2.keep (keepE hE7 (by omega))
          rename_i hK
          refine hK _ _ ?_
          clear hK
          refine wpList_plain rfl (fun K2 hK2 => ?_)
          go_simp
          refine hK2 _ _ ?_
          clear hK2
          have yy := Blk.new w7 #[.int .i64 0, .int .i64 0, .int .i64 0, .int .i64 0, .int .i64 0, .int .i64 0, .int .i64 0, .int .i64 0, .int .i64 0, .int .i64 0, .int .i64 0, .int .i64 0, .int .i64 0, .int .i64 0, .slice none 0 0, .slice none 0 0, .slice none 0 0] 44 rfl
          refine wpList_store_mid rfl 44 _ _ rfl w7.heap.size 0 #[.int .i64 l1.kind, .int .i64 l1.frm, .int .i64 l1.view, .int .i64 l1.op, .int .i64 l1.commit, .int .i64 l1.normal, .int .i64 l1.nonce, .int .i64 l1.client, .int .i64 l1.req, .int .i64 l1.answer, .int .i64 l1.cmd.kind, .int .i64 l1.cmd.key, .int .i64 l1.cmd.value, .int .i64 l1.log.base, .slice A40 n40 c40, .slice A41 n41 c41, .slice A42 n42 c42] rfl rfl (yy.there (n := 17) rfl) (by kernel_rfl) (all_oneCell_toArray (cs := [.int .i64 l1.kind, .int .i64 l1.frm, .int .i64 l1.view, .int .i64 l1.op, .int .i64 l1.commit, .int .i64 l1.normal, .int .i64 l1.nonce, .int .i64 l1.client, .int .i64 l1.req, .int .i64 l1.answer, .int .i64 l1.cmd.kind, .int .i64 l1.cmd.key, .int .i64 l1.cmd.value, .int .i64 l1.log.base, .slice A40 n40 c40, .slice A41 n41 c41, .slice A42 n42 c42]) (by intro v hv; simp at hv; rcases hv with rfl | rfl | rfl | rfl | rfl | rfl | rfl | rfl | rfl | rfl | rfl | rfl | rfl | rfl | rfl | rfl | rfl <;> rfl)) ?_
          refine wpList_nil ?_
          have hkV : Ext w7 ((w7.alloc (.cells #[.int .i64 0, .int .i64 0, .int .i64 0, .int .i64 0, .int .i64 0, .int .i64 0, .int .i64 0, .int .i64 0, .int .i64 0, .int .i64 0, .int .i64 0, .int .i64 0, .int .i64 0, .int .i64 0, .slice none 0 0, .slice none 0 0, .slice none 0 0] 44)).setCells w7.heap.size 0 [.int .i64 l1.kind, .int .i64 l1.frm, .int .i64 l1.view, .int .i64 l1.op, .int .i64 l1.commit, .int .i64 l1.normal, .int .i64 l1.nonce, .int .i64 l1.client, .int .i64 l1.req, .int .i64 l1.answer, .int .i64 l1.cmd.kind, .int .i64 l1.cmd.key, .int .i64 l1.cmd.value, .int .i64 l1.log.base, .slice A40 n40 c40, .slice A41 n41 c41, .slice A42 n42 c42]) := ((Ext.refl w7).alloc _).fr (fr_cells _ _ 0 _) (Nat.le_refl _)
          have q : Blk ((w7.alloc (.cells #[.int .i64 0, .int .i64 0, .int .i64 0, .int .i64 0, .int .i64 0, .int .i64 0, .int .i64 0, .int .i64 0, .int .i64 0, .int .i64 0, .int .i64 0, .int .i64 0, .int .i64 0, .int .i64 0, .slice none 0 0, .slice none 0 0, .slice none 0 0] 44)).setCells w7.heap.size 0 [.int .i64 l1.kind, .int .i64 l1.frm, .int .i64 l1.view, .int .i64 l1.op, .int .i64 l1.commit, .int .i64 l1.normal, .int .i64 l1.nonce, .int .i64 l1.client, .int .i64 l1.req, .int .i64 l1.answer, .int .i64 l1.cmd.kind, .int .i64 l1.cmd.key, .int .i64 l1.cmd.value, .int .i64 l1.log.base, .slice A40 n40 c40, .slice A41 n41 c41, .slice A42 n42 c42]) w7.heap.size 44 [.int .i64 l1.kind, .int .i64 l1.frm, .int .i64 l1.view, .int .i64 l1.op, .int .i64 l1.commit, .int .i64 l1.normal, .int .i64 l1.nonce, .int .i64 l1.client, .int .i64 l1.req, .int .i64 l1.answer, .int .i64 l1.cmd.kind, .int .i64 l1.cmd.key, .int .i64 l1.cmd.value, .int .i64 l1.log.base, .slice A40 n40 c40, .slice A41 n41 c41, .slice A42 n42 c42] := yy.whole [.int .i64 l1.kind, .int .i64 l1.frm, .int .i64 l1.view, .int .i64 l1.op, .int .i64 l1.commit, .int .i64 l1.normal, .int .i64 l1.nonce, .int .i64 l1.client, .int .i64 l1.req, .int .i64 l1.answer, .int .i64 l1.cmd.kind, .int .i64 l1.cmd.key, .int .i64 l1.cmd.value, .int .i64 l1.log.base, .slice A40 n40 c40, .slice A41 n41 c41, .slice A42 n42 c42] rfl
          replace x := x.ext hkV
          replace y := y.ext hkV
          replace p := p.ext hkV
          replace o2 := o2.keep (keepE hkV (by omega))
          replace o3 := o3.keep (keepE hkV (by omega))
          have hXv7 := hX7.trans hkV
          have hzv7 := hXv7.size
          have hyv7 := hkV.size
          clear yy hkV hE7
          generalize ((w7.alloc (.cells #[.int .i64 0, .int .i64 0, .int .i64 0, .int .i64 0, .int .i64 0, .int .i64 0, .int .i64 0, .int .i64 0, .int .i64 0, .int .i64 0, .int .i64 0, .int .i64 0, .int .i64 0, .int .i64 0, .slice none 0 0, .slice none 0 0, .slice none 0 0] 44)).setCells w7.heap.size 0 [.int .i64 l1.kind, .int .i64 l1.frm, .int .i64 l1.view, .int .i64 l1.op, .int .i64 l1.commit, .int .i64 l1.normal, .int .i64 l1.nonce, .int .i64 l1.client, .int .i64 l1.req, .int .i64 l1.answer, .int .i64 l1.cmd.kind, .int .i64 l1.cmd.key, .int .i64 l1.cmd.value, .int .i64 l1.log.base, .slice A40 n40 c40, .slice A41 n41 c41, .slice A42 n42 c42]) = v7 at *
          as_aux_lemma =>
            go_upto_region 11 with (fail)
            refine wp_region_list ?_
            refine wpList_load_mid rfl 44 (.tmp 7) rfl (w6.heap.size) 0 rfl [.int .i64 l0.kind, .int .i64 l0.frm, .int .i64 l0.view, .int .i64 l0.op, .int .i64 l0.commit, .int .i64 l0.normal, .int .i64 l0.nonce, .int .i64 l0.client, .int .i64 l0.req, .int .i64 l0.answer, .int .i64 l0.cmd.kind, .int .i64 l0.cmd.key, .int .i64 l0.cmd.value, .int .i64 l0.log.base, .slice A30 n30 c30, .slice A31 n31 c31, .slice A32 n32 c32] _ p.range Try.underlying44 rfl (by kernel_rfl) ?_
            refine wpList_load_mid rfl 44 (.tmp 8) rfl (w7.heap.size) 0 rfl [.int .i64 l1.kind, .int .i64 l1.frm, .int .i64 l1.view, .int .i64 l1.op, .int .i64 l1.commit, .int .i64 l1.normal, .int .i64 l1.nonce, .int .i64 l1.client, .int .i64 l1.req, .int .i64 l1.answer, .int .i64 l1.cmd.kind, .int .i64 l1.cmd.key, .int .i64 l1.cmd.value, .int .i64 l1.log.base, .slice A40 n40 c40, .slice A41 n41 c41, .slice A42 n42 c42] _ q.range Try.underlying44 rfl (by kernel_rfl) ?_
            go_wp2_with fail
            refine (sameMsg_i _ _ l0 l1 _ _ _ o2.rd (by omega) o3.rd (by omega)).mono ?_
            rintro e w8 ⟨rfl, hE8⟩
            have hX8 := hXv7.trans hE8
            have hz8 := hX8.size
            have hy8 := hE8.size
            replace x := x.ext hE8
            replace y := y.ext hE8
            replace p := p.ext hE8
            replace q := q.ext hE8
            replace o2 := o2.keep (keepE hE8 (by omega))
            replace o3 := o3.keep (keepE hE8 (by omega))
            clear hE8
            go_upto_region 14 with (fail)
            as_aux_lemma =>
              refine wp_region_held_drew (S := (fun w' => Blk w' (w.heap.size) 32 [.int .i64 l0.kind, .int .i64 l0.frm, .int .i64 l0.view, .int .i64 l0.op, .int .i64 l0.commit, .int .i64 l0.normal, .int .i64 l0.nonce, .int .i64 l0.client, .int .i64 l0.req, .int .i64 l0.answer, .int .i64 l0.cmd.kind, .int .i64 l0.cmd.key, .int .i64 l0.cmd.value, .int .i64 l0.log.base, u0, s0, t0] ∧ Blk w' (w.heap.size + 1) 32 [.int .i64 l1.kind, .int .i64 l1.frm, .int .i64 l1.view, .int .i64 l1.op, .int .i64 l1.commit, .int .i64 l1.normal, .int .i64 l1.nonce, .int .i64 l1.client, .int .i64 l1.req, .int .i64 l1.answer, .int .i64 l1.cmd.kind, .int .i64 l1.cmd.key, .int .i64 l1.cmd.value, .int .i64 l1.log.base, u1, s1, t1] ∧ Blk w' (w6.heap.size) 44 [.int .i64 l0.kind, .int .i64 l0.frm, .int .i64 l0.view, .int .i64 l0.op, .int .i64 l0.commit, .int .i64 l0.normal, .int .i64 l0.nonce, .int .i64 l0.client, .int .i64 l0.req, .int .i64 l0.answer, .int .i64 l0.cmd.kind, .int .i64 l0.cmd.key, .int .i64 l0.cmd.value, .int .i64 l0.log.base, .slice A30 n30 c30, .slice A31 n31 c31, .slice A32 n32 c32] ∧ Blk w' (w7.heap.size) 44 [.int .i64 l1.kind, .int .i64 l1.frm, .int .i64 l1.view, .int .i64 l1.op, .int .i64 l1.commit, .int .i64 l1.normal, .int .i64 l1.nonce, .int .i64 l1.client, .int .i64 l1.req, .int .i64 l1.answer, .int .i64 l1.cmd.kind, .int .i64 l1.cmd.key, .int .i64 l1.cmd.value, .int .i64 l1.log.base, .slice A40 n40 c40, .slice A41 n41 c41, .slice A42 n42 c42])) (by kernel_rfl) ⟨x.drew, y.drew, p.drew, q.drew⟩ (fun hHeld => ?_)
              refine wpAnyH_take (i := 0) (v := .agg #[.int .i64 l0.kind, .int .i64 l0.frm, .int .i64 l0.view, .int .i64 l0.op, .int .i64 l0.commit, .int .i64 l0.normal, .int .i64 l0.nonce, .int .i64 l0.client, .int .i64 l0.req, .int .i64 l0.answer, .int .i64 l0.cmd.kind, .int .i64 l0.cmd.key, .int .i64 l0.cmd.value, .int .i64 l0.log.base, .slice A30 n30 c30, .slice A31 n31 c31, .slice A32 n32 c32]) rfl (by kernel_rfl) (by kernel_rfl) (by kernel_rfl) (fun _ _ _ h => h) (yieldsIf_load_mid (by rfl) 44 (.tmp 7) rfl (w6.heap.size) 0 rfl [.int .i64 l0.kind, .int .i64 l0.frm, .int .i64 l0.view, .int .i64 l0.op, .int .i64 l0.commit, .int .i64 l0.normal, .int .i64 l0.nonce, .int .i64 l0.client, .int .i64 l0.req, .int .i64 l0.answer, .int .i64 l0.cmd.kind, .int .i64 l0.cmd.key, .int .i64 l0.cmd.value, .int .i64 l0.log.base, .slice A30 n30 c30, .slice A31 n31 c31, .slice A32 n32 c32] _ (fun w hSw => Blk.range (hSw.2.2.1)) Try.underlying44 rfl (by kernel_rfl)) (by assumption) ?_
              try simp only [Act.put, List.getElem_toArray, List.getElem_cons_zero, List.getElem_cons_succ, List.setIfInBounds_toArray, List.set_cons_zero, List.set_cons_succ]
              refine wpAnyH_take (i := 1) (v := .agg #[.int .i64 l0.kind, .int .i64 l0.frm, .int .i64 l0.view, .int .i64 l0.op, .int .i64 l0.commit, .int .i64 l0.normal, .int .i64 l0.nonce, .int .i64 l0.client, .int .i64 l0.req, .int .i64 l0.answer, .int .i64 l0.cmd.kind, .int .i64 l0.cmd.key, .int .i64 l0.cmd.value, .int .i64 l0.log.base, u0, s0, t0]) rfl (by kernel_rfl) (by kernel_rfl) (by kernel_rfl) (fun _ _ _ h => h) (yieldsIf_load_mid (by rfl) 32 (.tmp 2) rfl (w.heap.size) 0 rfl [.int .i64 l0.kind, .int .i64 l0.frm, .int .i64 l0.view, .int .i64 l0.op, .int .i64 l0.commit, .int .i64 l0.normal, .int .i64 l0.nonce, .int .i64 l0.client, .int .i64 l0.req, .int .i64 l0.answer, .int .i64 l0.cmd.kind, .int .i64 l0.cmd.key, .int .i64 l0.cmd.value, .int .i64 l0.log.base, u0, s0, t0] _ (fun w hSw => Blk.range (hSw.1)) Try.underlying32 rfl (by kernel_rfl)) (by assumption) ?_
              try simp only [Act.put, List.getElem_toArray, List.getElem_cons_zero, List.getElem_cons_succ, List.setIfInBounds_toArray, List.set_cons_zero, List.set_cons_succ]
              refine wpAnyH_ready (rs := [2]) (by kernel_rfl) (by simp) ?_
              refine AllReadyH.cons rfl (fun K hK => ?_) AllReadyH.nil
              go_simp
              go_at_call 11
              refine (toMsg_v _ l0 _ _ (by exact r0.keep (keepE' hX8.drew (Nat.le_refl _))) (by first | omega | (simp; omega)) (by omega)).mono ?_
              rintro e w9 ⟨v4, rfl, o4, hE9⟩
              have hX9 := hX8.drew.trans hE9
              have hz9 := hX9.size
              have hy9 : w8.heap.size ≤ w9.heap.size := hE9.size
              replace o2 := o2.keep (keepE ((Ext.refl w8).drew.trans hE9) (by first | omega | (simp; omega)))
              replace o3 := o3.keep (keepE ((Ext.refl w8).drew.trans hE9) (by first | omega | (simp; omega)))
              obtain ⟨uu, ss, tt, hvv, ⟨A50, n50, c50, hva, -⟩, ⟨A51, n51, c51, hvb, -⟩, ⟨A52, n52, c52, hvt, -⟩⟩ := id o4
              subst hva hvb hvt hvv
              (try dsimp only)
              refine hK.out _ _ ⟨hHeld.1.ext hE9, hHeld.2.1.ext hE9, hHeld.2.2.1.ext hE9, hHeld.2.2.2.ext hE9⟩ (fun hHeld => ?_)
              clear hK K
              try simp only [Act.put, List.getElem_toArray, List.getElem_cons_zero, List.getElem_cons_succ, List.setIfInBounds_toArray, List.set_cons_zero, List.set_cons_succ]
              refine wpAnyH_ready (rs := [3]) (by kernel_rfl) (by simp) ?_
              refine AllReadyH.cons rfl (fun K hK => ?_) AllReadyH.nil
              go_simp
              go_at_call 13
              refine (eqMsg_same _ _ l0 _ _ _ o2.rd (by omega) o4.rd (by omega)).mono ?_
              rintro e w10 ⟨rfl, hE10⟩
              have hX10 := hX9.trans hE10
              have hz10 := hX10.size
              have hy10 := hE10.size
              replace o2 := o2.keep (keepE hE10 (by omega))
              replace o3 := o3.keep (keepE hE10 (by omega))
              (try dsimp only)
              refine hK.out _ _ ⟨hHeld.1.ext hE10, hHeld.2.1.ext hE10, hHeld.2.2.1.ext hE10, hHeld.2.2.2.ext hE10⟩ (fun hHeld => ?_)
              clear hK K
              try simp only [Act.put, List.getElem_toArray, List.getElem_cons_zero, List.getElem_cons_succ, List.setIfInBounds_toArray, List.set_cons_zero, List.set_cons_succ]
              refine wpAnyH_take (i := 4) (v := ?_) rfl (by kernel_rfl) (by kernel_rfl) (by kernel_rfl) (fun _ _ _ h => h) (Or.inl ⟨by rfl, ?_⟩) (by assumption) ?_
              rotate_left
              · (intro w hSw; (try dsimp only at hSw); go_simp; (try with_reducible rfl))
              try simp only [Act.put, List.getElem_toArray, List.getElem_cons_zero, List.getElem_cons_succ, List.setIfInBounds_toArray, List.set_cons_zero, List.set_cons_succ]
              refine wpAnyH_done (by kernel_rfl) ?_ _
              replace x := hHeld.1
              replace y := hHeld.2.1
              replace p := hHeld.2.2.1
              replace q := hHeld.2.2.2
              clear hHeld o4 hE9 hE10
              go_upto_region 16 with (fail)
              as_aux_lemma =>
                refine wp_region_held_drew (S := (fun w' => Blk w' (w.heap.size) 32 [.int .i64 l0.kind, .int .i64 l0.frm, .int .i64 l0.view, .int .i64 l0.op, .int .i64 l0.commit, .int .i64 l0.normal, .int .i64 l0.nonce, .int .i64 l0.client, .int .i64 l0.req, .int .i64 l0.answer, .int .i64 l0.cmd.kind, .int .i64 l0.cmd.key, .int .i64 l0.cmd.value, .int .i64 l0.log.base, u0, s0, t0] ∧ Blk w' (w.heap.size + 1) 32 [.int .i64 l1.kind, .int .i64 l1.frm, .int .i64 l1.view, .int .i64 l1.op, .int .i64 l1.commit, .int .i64 l1.normal, .int .i64 l1.nonce, .int .i64 l1.client, .int .i64 l1.req, .int .i64 l1.answer, .int .i64 l1.cmd.kind, .int .i64 l1.cmd.key, .int .i64 l1.cmd.value, .int .i64 l1.log.base, u1, s1, t1] ∧ Blk w' (w6.heap.size) 44 [.int .i64 l0.kind, .int .i64 l0.frm, .int .i64 l0.view, .int .i64 l0.op, .int .i64 l0.commit, .int .i64 l0.normal, .int .i64 l0.nonce, .int .i64 l0.client, .int .i64 l0.req, .int .i64 l0.answer, .int .i64 l0.cmd.kind, .int .i64 l0.cmd.key, .int .i64 l0.cmd.value, .int .i64 l0.log.base, .slice A30 n30 c30, .slice A31 n31 c31, .slice A32 n32 c32] ∧ Blk w' (w7.heap.size) 44 [.int .i64 l1.kind, .int .i64 l1.frm, .int .i64 l1.view, .int .i64 l1.op, .int .i64 l1.commit, .int .i64 l1.normal, .int .i64 l1.nonce, .int .i64 l1.client, .int .i64 l1.req, .int .i64 l1.answer, .int .i64 l1.cmd.kind, .int .i64 l1.cmd.key, .int .i64 l1.cmd.value, .int .i64 l1.log.base, .slice A40 n40 c40, .slice A41 n41 c41, .slice A42 n42 c42])) (by kernel_rfl) ⟨x.drew, y.drew, p.drew, q.drew⟩ (fun hHeld => ?_)
                refine wpAnyH_take (i := 0) (v := .agg #[.int .i64 l1.kind, .int .i64 l1.frm, .int .i64 l1.view, .int .i64 l1.op, .int .i64 l1.commit, .int .i64 l1.normal, .int .i64 l1.nonce, .int .i64 l1.client, .int .i64 l1.req, .int .i64 l1.answer, .int .i64 l1.cmd.kind, .int .i64 l1.cmd.key, .int .i64 l1.cmd.value, .int .i64 l1.log.base, .slice A40 n40 c40, .slice A41 n41 c41, .slice A42 n42 c42]) rfl (by kernel_rfl) (by kernel_rfl) (by kernel_rfl) (fun _ _ _ h => h) (yieldsIf_load_mid (by rfl) 44 (.tmp 8) rfl (w7.heap.size) 0 rfl [.int .i64 l1.kind, .int .i64 l1.frm, .int .i64 l1.view, .int .i64 l1.op, .int .i64 l1.commit, .int .i64 l1.normal, .int .i64 l1.nonce, .int .i64 l1.client, .int .i64 l1.req, .int .i64 l1.answer, .int .i64 l1.cmd.kind, .int .i64 l1.cmd.key, .int .i64 l1.cmd.value, .int .i64 l1.log.base, .slice A40 n40 c40, .slice A41 n41 c41, .slice A42 n42 c42] _ (fun w hSw => Blk.range (hSw.2.2.2)) Try.underlying44 rfl (by kernel_rfl)) (by assumption) ?_
                try simp only [Act.put, List.getElem_toArray, List.getElem_cons_zero, List.getElem_cons_succ, List.setIfInBounds_toArray, List.set_cons_zero, List.set_cons_succ]
                refine wpAnyH_take (i := 1) (v := .agg #[.int .i64 l1.kind, .int .i64 l1.frm, .int .i64 l1.view, .int .i64 l1.op, .int .i64 l1.commit, .int .i64 l1.normal, .int .i64 l1.nonce, .int .i64 l1.client, .int .i64 l1.req, .int .i64 l1.answer, .int .i64 l1.cmd.kind, .int .i64 l1.cmd.key, .int .i64 l1.cmd.value, .int .i64 l1.log.base, u1, s1, t1]) rfl (by kernel_rfl) (by kernel_rfl) (by kernel_rfl) (fun _ _ _ h => h) (yieldsIf_load_mid (by rfl) 32 (.tmp 3) rfl (w.heap.size + 1) 0 rfl [.int .i64 l1.kind, .int .i64 l1.frm, .int .i64 l1.view, .int .i64 l1.op, .int .i64 l1.commit, .int .i64 l1.normal, .int .i64 l1.nonce, .int .i64 l1.client, .int .i64 l1.req, .int .i64 l1.answer, .int .i64 l1.cmd.kind, .int .i64 l1.cmd.key, .int .i64 l1.cmd.value, .int .i64 l1.log.base, u1, s1, t1] _ (fun w hSw => Blk.range (hSw.2.1)) Try.underlying32 rfl (by kernel_rfl)) (by assumption) ?_
                try simp only [Act.put, List.getElem_toArray, List.getElem_cons_zero, List.getElem_cons_succ, List.setIfInBounds_toArray, List.set_cons_zero, List.set_cons_succ]
                refine wpAnyH_ready (rs := [2]) (by kernel_rfl) (by simp) ?_
                refine AllReadyH.cons rfl (fun K hK => ?_) AllReadyH.nil
                go_simp
                go_at_call 11
                refine (toMsg_v _ l1 _ _ (by exact r1.keep (keepE' hX10.drew (Nat.le_refl _))) (by first | omega | (simp; omega)) (by omega)).mono ?_
                rintro e w11 ⟨v4, rfl, o4, hE11⟩
                have hX11 := hX10.drew.trans hE11
                have hz11 := hX11.size
                have hy11 : w10.heap.size ≤ w11.heap.size := hE11.size
                replace o3 := o3.keep (keepE ((Ext.refl w10).drew.trans hE11) (by first | omega | (simp; omega)))
                obtain ⟨uu, ss, tt, hvv, ⟨A60, n60, c60, hva, -⟩, ⟨A61, n61, c61, hvb, -⟩, ⟨A62, n62, c62, hvt, -⟩⟩ := id o4
                subst hva hvb hvt hvv
                (try dsimp only)
                refine hK.out _ _ ⟨hHeld.1.ext hE11, hHeld.2.1.ext hE11, hHeld.2.2.1.ext hE11, hHeld.2.2.2.ext hE11⟩ (fun hHeld => ?_)
                clear hK K
                try simp only [Act.put, List.getElem_toArray, List.getElem_cons_zero, List.getElem_cons_succ, List.setIfInBounds_toArray, List.set_cons_zero, List.set_cons_succ]
                refine wpAnyH_ready (rs := [3]) (by kernel_rfl) (by simp) ?_
                refine AllReadyH.cons rfl (fun K hK => ?_) AllReadyH.nil
                go_simp
                go_at_call 13
                refine (eqMsg_same _ _ l1 _ _ _ o3.rd (by omega) o4.rd (by omega)).mono ?_
                rintro e w12 ⟨rfl, hE12⟩
                have hX12 := hX11.trans hE12
                have hz12 := hX12.size
                have hy12 := hE12.size
                replace o3 := o3.keep (keepE hE12 (by omega))
                (try dsimp only)
                refine hK.out _ _ ⟨hHeld.1.ext hE12, hHeld.2.1.ext hE12, hHeld.2.2.1.ext hE12, hHeld.2.2.2.ext hE12⟩ (fun hHeld => ?_)
                clear hK K
                try simp only [Act.put, List.getElem_toArray, List.getElem_cons_zero, List.getElem_cons_succ, List.setIfInBounds_toArray, List.set_cons_zero, List.set_cons_succ]
                refine wpAnyH_take (i := 4) (v := ?_) rfl (by kernel_rfl) (by kernel_rfl) (by kernel_rfl) (fun _ _ _ h => h) (Or.inl ⟨by rfl, ?_⟩) (by assumption) ?_
                rotate_left
                · (intro w hSw; (try dsimp only at hSw); go_simp; (try with_reducible rfl))
                try simp only [Act.put, List.getElem_toArray, List.getElem_cons_zero, List.getElem_cons_succ, List.setIfInBounds_toArray, List.set_cons_zero, List.set_cons_succ]
                refine wpAnyH_done (by kernel_rfl) ?_ _
                replace x := hHeld.1
                replace y := hHeld.2.1
                replace p := hHeld.2.2.1
                replace q := hHeld.2.2.2
                clear hHeld o4 hE11 hE12
                go_wp2
                go_ret
                exact ⟨rfl, hX12⟩

set_option maxRecDepth 100000 in
theorem lifted (os : Os) (started : os.Started) (H : Type) (enc : TypeId × Value → H) :
    ReturnsInHanded {} Try.checked os 3 .any (Rows.fnExactSameMsgSpec.pre6 enc Try.prog Try.f3 Rows.fnExactSameMsgRow.domain false) (Rows.fnExactSameMsgSpec.post enc Try.prog Try.f3 false true false false) := by
  refine returnsInHanded_of_change (C := Try.checked) own started (by kernel_rfl) Try.func3
    (ChangeSpec.witness6 (enc := enc) (C := Try.checked) false ⟨#[], #[.agg #[.int .i64 0, .int .i64 0, .int .i64 0, .int .i64 0, .int .i64 0, .int .i64 0, .int .i64 0, .int .i64 0, .int .i64 0, .int .i64 0, .int .i64 0, .int .i64 0, .int .i64 0, .int .i64 0, .slice none 0 0, .slice none 0 0, .slice none 0 0], .agg #[.int .i64 0, .int .i64 0, .int .i64 0, .int .i64 0, .int .i64 0, .int .i64 0, .int .i64 0, .int .i64 0, .int .i64 0, .int .i64 0, .int .i64 0, .int .i64 0, .int .i64 0, .int .i64 0, .slice none 0 0, .slice none 0 0, .slice none 0 0]], []⟩ 8 (by kernel_rfl) (by kernel_rfl) (by kernel_rfl) (by kernel_rfl)) ?_
  intro W base args ds gs before hval0 hW hcnd _
  have hval : ∀ (j : Nat) t v, Try.f3.params[j]? = some t → args[j]? = some v → Value.okWide Try.prog W .any base t v := hval0
  have hW' := hW
  obtain ⟨p, q, hA0, hV, rfl, hfz, hnd⟩ := hW
  have hA : DataW.TrodAll enc Try.prog W 0 (fun _ => true) true Try.f3.params.toList args.toList ds p := hA0
  rw [Try.params3] at hA hval
  obtain ⟨vv0, vs0, dd0, ds0, pp0, qq0, hargs, rfl, rfl, ht0, rr0⟩ := trodAll_cons hA
  obtain ⟨vv1, vs1, dd1, ds1, pp1, qq1, rfl, rfl, rfl, ht1, rr1⟩ := trodAll_cons rr0
  obtain ⟨rfl, rfl, rfl⟩ := trodAll_nil rr1
  obtain rfl : args = #[vv0, vv1] := by cases args; simp_all
  obtain ⟨rfl, rfl⟩ := trodVars_none hV
  have trd0 := ht0
  have lts0 : ∀ x ∈ pp0, x.block < W.heap.size := by obtain ⟨m, hm⟩ := trd0; exact DataW.trod_lt m _ _ _ hm
  obtain ⟨l0, r0⟩ := open_Msg_arg (hval 0 32 vv0 rfl rfl) ht0
  have trd1 := ht1
  have lts1 : ∀ x ∈ pp1, x.block < W.heap.size := by obtain ⟨m, hm⟩ := trd1; exact DataW.trod_lt m _ _ _ hm
  obtain ⟨l1, r1⟩ := open_Msg_arg (hval 1 32 vv1 rfl rfl) ht1
  clear hA0 hval0
  refine (walk vv0  l0  vv1  l1  W r0 r1).mono fun e W' ⟨he, bel⟩ => ?_
  subst he
  exact ⟨_, rfl, _, _, _, [], _, [], hW', trodAll_mk1 (shut_bool Try.underlying4 _), (trodAll_cons_mk (Below.trod laidOut (by kernel_rfl) (of_decide_eq_true (by kernel_rfl)) trd0 bel lts0) (trodAll_cons_mk (Below.trod laidOut (by kernel_rfl) (of_decide_eq_true (by kernel_rfl)) trd1 bel lts1) trodAll_mk0)), rfl, Below.frame bel _, fun h => by cases h⟩

theorem over : Rows.fnExactSameMsgRow.holds Try.pinned (OpenSpec.ofChange Rows.fnExactSameMsgSpec) :=
  OpenClaim.holds_of_wide 3 Try.f3 rfl rfl rfl rfl rfl rfl rfl ⟨rfl, rfl, rfl, rfl, rfl⟩ rfl rfl rfl rfl rfl (by as_aux_lemma => kernel_rfl) Try.func3 (by as_aux_lemma => kernel_rfl)
    (of_decide_eq_true (by as_aux_lemma => kernel_rfl)) (by as_aux_lemma => unfold Func.isWrapper; first | (rw [if_pos (by decide +kernel)]; kernel_rfl) | (rw [if_neg (by decide +kernel)]; exact ⟨rfl, rfl⟩))
    (fun os started H enc _ => lifted os started H enc)

theorem proved : Rows.FnExactSameMsgSaid := over
#print axioms proved
end Go.Proofs.Ytbfbdhjeoknjkaa.fnExactSameMsg
