/-
  Messages: sized, copied into the program's type, compared; SameMsg on both sides.
-/
import Derived.Test.YtbfbdhjeoknjkaaSameLog
import Derived.Test.YtbfbdhjeoknjkaaBlk
import Derived.Test.YtbfbdhjeoknjkaaWhole
import Derived.Test.YtbfbdhjeoknjkaaBig
import Derived.Deep.DeepCutAuto
import Derived.Deep.QuietTactic
import Derived.Deep.RegionHeld3
import Derived.IntWalk
namespace Go.Proofs.Ytbfbdhjeoknjkaa
open Go.RowKit

structure MsgD where
  kind : Int
  frm : Int
  view : Int
  op : Int
  commit : Int
  normal : Int
  nonce : Int
  client : Int
  req : Int
  answer : Int
  cmd : CmdD
  log : LogD
deriving DecidableEq

def R_Msg (w : World) (B : Nat) (v : Value) (m : MsgD) : Prop := ∃ u s t, v = .agg #[.int .i64 m.kind, .int .i64 m.frm, .int .i64 m.view, .int .i64 m.op, .int .i64 m.commit, .int .i64 m.normal, .int .i64 m.nonce, .int .i64 m.client, .int .i64 m.req, .int .i64 m.answer, .int .i64 m.cmd.kind, .int .i64 m.cmd.key, .int .i64 m.cmd.value, .int .i64 m.log.base, u, s, t] ∧ R_CellS w B u m.log.image.cells ∧ R_SeatS w B s m.log.image.seats ∧ R_EntryS w B t m.log.entries
def O_Msg (w : World) (lo hi : Nat) (v : Value) (m : MsgD) : Prop := ∃ u s t, v = .agg #[.int .i64 m.kind, .int .i64 m.frm, .int .i64 m.view, .int .i64 m.op, .int .i64 m.commit, .int .i64 m.normal, .int .i64 m.nonce, .int .i64 m.client, .int .i64 m.req, .int .i64 m.answer, .int .i64 m.cmd.kind, .int .i64 m.cmd.key, .int .i64 m.cmd.value, .int .i64 m.log.base, u, s, t] ∧ O_CellS w lo hi u m.log.image.cells ∧ O_SeatS w lo hi s m.log.image.seats ∧ O_EntryS w lo hi t m.log.entries
theorem R_Msg.keep {w w' : World} {B : Nat} {v : Value} {l : MsgD} (h : R_Msg w B v l) (hk : ∀ k, k < B → w'.heap[k]? = w.heap[k]?) : R_Msg w' B v l := by
  obtain ⟨u, s, t, rfl, h1, h2, h3⟩ := h
  exact ⟨u, s, t, rfl, h1.keep hk, h2.keep hk, h3.keep hk⟩
theorem O_Msg.keep {w w' : World} {lo hi : Nat} {v : Value} {l : MsgD} (h : O_Msg w lo hi v l) (hk : ∀ k, lo ≤ k → k < hi → w'.heap[k]? = w.heap[k]?) : O_Msg w' lo hi v l := by
  obtain ⟨u, s, t, rfl, h1, h2, h3⟩ := h
  exact ⟨u, s, t, rfl, h1.keep hk, h2.keep hk, h3.keep hk⟩
theorem O_Msg.rd {w : World} {lo hi : Nat} {v : Value} {l : MsgD} (h : O_Msg w lo hi v l) : R_Msg w hi v l := by
  obtain ⟨u, s, t, rfl, h1, h2, h3⟩ := h
  exact ⟨u, s, t, rfl, h1.rd, h2.rd, h3.rd⟩
set_option maxRecDepth 100000 in
theorem eqlCmd (x y : CmdD) (w : World) : (binOp .eql 35 (.agg #[.int .i64 x.kind, .int .i64 x.key, .int .i64 x.value]) (.agg #[.int .i64 y.kind, .int .i64 y.key, .int .i64 y.value])).run Try.prog w = .ok (.bool (decide (x = y))) w := by
  have u3 := Try.underlying3
  have a3 := Try.isAgg3
  have z3 := Try.sizeOf3
  have hS : Try.prog.underlying 35 = some (.struct (Try.prog.fieldsOf 35)) := by kernel_rfl
  have hp : Try.prog.stoodInHeld 35 = false := by kernel_rfl
  rw [run_eql_struct, show (10000 : Nat) = 9999 + 1 from rfl, run_equalIn_agg w 9999 35 _ _ hS hp]
  simp only [Program.fieldsOf, Try.underlying35]
  clear hS hp
  go_simp
  obtain ⟨x2, x3, x4⟩ := x
  obtain ⟨y2, y3, y4⟩ := y
  by_cases h2 : x2 = y2 <;> by_cases h3 : x3 = y3 <;> by_cases h4 : x4 = y4 <;> simp [h2, h3, h4]


set_option maxRecDepth 100000 in
set_option maxHeartbeats 2000000 in
theorem szMsg_ok (v : Value) (m : MsgD) (left : Int) (w : World) (B0 : Nat) (h : R_Msg w B0 v m) (hB : B0 ≤ w.heap.size) (h1 : (szL m.log : Int) ≤ left) (h2 : left ≤ 1048576) :
    Calls Try.prog 9 #[v, .int .i64 left] w fun e w' => e = .returned (.int .i64 (left - szL m.log)) ∧ Ext w w' := by
  obtain ⟨u0, s0, t0, rfl, h0u, h0s, h0t⟩ := h
  obtain ⟨A0, n0, c0, hv0, -⟩ := id h0u
  obtain ⟨A1, n1, c1, hv1, -⟩ := id h0s
  obtain ⟨A2, n2, c2, hv2, -⟩ := id h0t
  subst hv0 hv1 hv2
  have hl0 : R_Log w B0 (.agg #[.int .i64 m.log.base, .slice A0 n0 c0, .slice A1 n1 c1, .slice A2 n2 c2]) m.log := ⟨_, _, _, rfl, h0u, h0s, h0t⟩
  clear h0u h0s h0t
  have hW0 : Ext w (w.alloc (.cells #[.int .i64 m.kind, .int .i64 m.frm, .int .i64 m.view, .int .i64 m.op, .int .i64 m.commit, .int .i64 m.normal, .int .i64 m.nonce, .int .i64 m.client, .int .i64 m.req, .int .i64 m.answer, .int .i64 m.cmd.kind, .int .i64 m.cmd.key, .int .i64 m.cmd.value, .int .i64 m.log.base, .slice A0 n0 c0, .slice A1 n1 c1, .slice A2 n2 c2] 32)) := by repeat' (first | with_reducible exact Ext.refl _ | with_reducible assumption | with_reducible refine Ext.set ?_ ?_ _ _ | with_reducible refine Ext.alloc ?_ _ | with_reducible refine Ext.drew ?_ | with_reducible refine Ext.drewN ?_ _ | with_reducible refine Ext.trans ?_ (by with_reducible assumption) | omega | (simp; done) | (simp; omega))
  have zW0 : w.heap.size + 1 ≤ (w.alloc (.cells #[.int .i64 m.kind, .int .i64 m.frm, .int .i64 m.view, .int .i64 m.op, .int .i64 m.commit, .int .i64 m.normal, .int .i64 m.nonce, .int .i64 m.client, .int .i64 m.req, .int .i64 m.answer, .int .i64 m.cmd.kind, .int .i64 m.cmd.key, .int .i64 m.cmd.value, .int .i64 m.log.base, .slice A0 n0 c0, .slice A1 n1 c1, .slice A2 n2 c2] 32)).heap.size := by simp
  have x : Blk (w.alloc (.cells #[.int .i64 m.kind, .int .i64 m.frm, .int .i64 m.view, .int .i64 m.op, .int .i64 m.commit, .int .i64 m.normal, .int .i64 m.nonce, .int .i64 m.client, .int .i64 m.req, .int .i64 m.answer, .int .i64 m.cmd.kind, .int .i64 m.cmd.key, .int .i64 m.cmd.value, .int .i64 m.log.base, .slice A0 n0 c0, .slice A1 n1 c1, .slice A2 n2 c2] 32)) w.heap.size 32 [.int .i64 m.kind, .int .i64 m.frm, .int .i64 m.view, .int .i64 m.op, .int .i64 m.commit, .int .i64 m.normal, .int .i64 m.nonce, .int .i64 m.client, .int .i64 m.req, .int .i64 m.answer, .int .i64 m.cmd.kind, .int .i64 m.cmd.key, .int .i64 m.cmd.value, .int .i64 m.log.base, .slice A0 n0 c0, .slice A1 n1 c1, .slice A2 n2 c2] := (Blk.new w #[.int .i64 m.kind, .int .i64 m.frm, .int .i64 m.view, .int .i64 m.op, .int .i64 m.commit, .int .i64 m.normal, .int .i64 m.nonce, .int .i64 m.client, .int .i64 m.req, .int .i64 m.answer, .int .i64 m.cmd.kind, .int .i64 m.cmd.key, .int .i64 m.cmd.value, .int .i64 m.log.base, .slice A0 n0 c0, .slice A1 n1 c1, .slice A2 n2 c2] 32 (by first | rfl | simp))
  go_enter Try.func9, Try.ntmps9
  go_upto_region 1 with (fail)
  generalize (w.alloc (.cells #[.int .i64 m.kind, .int .i64 m.frm, .int .i64 m.view, .int .i64 m.op, .int .i64 m.commit, .int .i64 m.normal, .int .i64 m.nonce, .int .i64 m.client, .int .i64 m.req, .int .i64 m.answer, .int .i64 m.cmd.kind, .int .i64 m.cmd.key, .int .i64 m.cmd.value, .int .i64 m.log.base, .slice A0 n0 c0, .slice A1 n1 c1, .slice A2 n2 c2] 32)) = W0 at *
  obtain ⟨x_p13, x_f13⟩ := x.at 13 _ rfl
  obtain ⟨x_p14, x_f14⟩ := x.at 14 _ rfl
  obtain ⟨x_p15, x_f15⟩ := x.at 15 _ rfl
  obtain ⟨x_p16, x_f16⟩ := x.at 16 _ rfl
  go_wp2_with fail
  refine (szLog_ok _ m.log _ _ B0 (by exact hl0.keep (keepE' (by repeat' (first | with_reducible exact Ext.refl _ | with_reducible assumption | with_reducible refine Ext.set ?_ ?_ _ _ | with_reducible refine Ext.alloc ?_ _ | with_reducible refine Ext.drew ?_ | with_reducible refine Ext.drewN ?_ _ | with_reducible refine Ext.trans ?_ (by with_reducible assumption) | omega | (simp; done) | (simp; omega))) hB)) (by omega) (by omega) (by omega)).mono ?_
  rintro e w1 ⟨rfl, hE1⟩
  go_wp2
  go_ret
  exact ⟨ret_int (by omega), by repeat' (first | with_reducible exact Ext.refl _ | with_reducible assumption | with_reducible refine Ext.set ?_ ?_ _ _ | with_reducible refine Ext.alloc ?_ _ | with_reducible refine Ext.drew ?_ | with_reducible refine Ext.drewN ?_ _ | with_reducible refine Ext.trans ?_ (by with_reducible assumption) | omega | (simp; done) | (simp; omega))⟩

set_option maxRecDepth 100000 in
set_option maxHeartbeats 2000000 in
theorem szMsg_no (v : Value) (m : MsgD) (left : Int) (w : World) (B0 : Nat) (h : R_Msg w B0 v m) (hB : B0 ≤ w.heap.size) (h1 : left < (szL m.log : Int)) (h0 : 0 ≤ left) (h2 : left ≤ 1048576) :
    Calls Try.prog 9 #[v, .int .i64 left] w fun e w' => e = .returned (.int .i64 (-1)) ∧ Ext w w' := by
  obtain ⟨u0, s0, t0, rfl, h0u, h0s, h0t⟩ := h
  obtain ⟨A0, n0, c0, hv0, -⟩ := id h0u
  obtain ⟨A1, n1, c1, hv1, -⟩ := id h0s
  obtain ⟨A2, n2, c2, hv2, -⟩ := id h0t
  subst hv0 hv1 hv2
  have hl0 : R_Log w B0 (.agg #[.int .i64 m.log.base, .slice A0 n0 c0, .slice A1 n1 c1, .slice A2 n2 c2]) m.log := ⟨_, _, _, rfl, h0u, h0s, h0t⟩
  clear h0u h0s h0t
  have hW0 : Ext w (w.alloc (.cells #[.int .i64 m.kind, .int .i64 m.frm, .int .i64 m.view, .int .i64 m.op, .int .i64 m.commit, .int .i64 m.normal, .int .i64 m.nonce, .int .i64 m.client, .int .i64 m.req, .int .i64 m.answer, .int .i64 m.cmd.kind, .int .i64 m.cmd.key, .int .i64 m.cmd.value, .int .i64 m.log.base, .slice A0 n0 c0, .slice A1 n1 c1, .slice A2 n2 c2] 32)) := by repeat' (first | with_reducible exact Ext.refl _ | with_reducible assumption | with_reducible refine Ext.set ?_ ?_ _ _ | with_reducible refine Ext.alloc ?_ _ | with_reducible refine Ext.drew ?_ | with_reducible refine Ext.drewN ?_ _ | with_reducible refine Ext.trans ?_ (by with_reducible assumption) | omega | (simp; done) | (simp; omega))
  have zW0 : w.heap.size + 1 ≤ (w.alloc (.cells #[.int .i64 m.kind, .int .i64 m.frm, .int .i64 m.view, .int .i64 m.op, .int .i64 m.commit, .int .i64 m.normal, .int .i64 m.nonce, .int .i64 m.client, .int .i64 m.req, .int .i64 m.answer, .int .i64 m.cmd.kind, .int .i64 m.cmd.key, .int .i64 m.cmd.value, .int .i64 m.log.base, .slice A0 n0 c0, .slice A1 n1 c1, .slice A2 n2 c2] 32)).heap.size := by simp
  have x : Blk (w.alloc (.cells #[.int .i64 m.kind, .int .i64 m.frm, .int .i64 m.view, .int .i64 m.op, .int .i64 m.commit, .int .i64 m.normal, .int .i64 m.nonce, .int .i64 m.client, .int .i64 m.req, .int .i64 m.answer, .int .i64 m.cmd.kind, .int .i64 m.cmd.key, .int .i64 m.cmd.value, .int .i64 m.log.base, .slice A0 n0 c0, .slice A1 n1 c1, .slice A2 n2 c2] 32)) w.heap.size 32 [.int .i64 m.kind, .int .i64 m.frm, .int .i64 m.view, .int .i64 m.op, .int .i64 m.commit, .int .i64 m.normal, .int .i64 m.nonce, .int .i64 m.client, .int .i64 m.req, .int .i64 m.answer, .int .i64 m.cmd.kind, .int .i64 m.cmd.key, .int .i64 m.cmd.value, .int .i64 m.log.base, .slice A0 n0 c0, .slice A1 n1 c1, .slice A2 n2 c2] := (Blk.new w #[.int .i64 m.kind, .int .i64 m.frm, .int .i64 m.view, .int .i64 m.op, .int .i64 m.commit, .int .i64 m.normal, .int .i64 m.nonce, .int .i64 m.client, .int .i64 m.req, .int .i64 m.answer, .int .i64 m.cmd.kind, .int .i64 m.cmd.key, .int .i64 m.cmd.value, .int .i64 m.log.base, .slice A0 n0 c0, .slice A1 n1 c1, .slice A2 n2 c2] 32 (by first | rfl | simp))
  go_enter Try.func9, Try.ntmps9
  go_upto_region 1 with (fail)
  generalize (w.alloc (.cells #[.int .i64 m.kind, .int .i64 m.frm, .int .i64 m.view, .int .i64 m.op, .int .i64 m.commit, .int .i64 m.normal, .int .i64 m.nonce, .int .i64 m.client, .int .i64 m.req, .int .i64 m.answer, .int .i64 m.cmd.kind, .int .i64 m.cmd.key, .int .i64 m.cmd.value, .int .i64 m.log.base, .slice A0 n0 c0, .slice A1 n1 c1, .slice A2 n2 c2] 32)) = W0 at *
  obtain ⟨x_p13, x_f13⟩ := x.at 13 _ rfl
  obtain ⟨x_p14, x_f14⟩ := x.at 14 _ rfl
  obtain ⟨x_p15, x_f15⟩ := x.at 15 _ rfl
  obtain ⟨x_p16, x_f16⟩ := x.at 16 _ rfl
  go_wp2_with fail
  refine (szLog_no _ m.log _ _ B0 (by exact hl0.keep (keepE' (by repeat' (first | with_reducible exact Ext.refl _ | with_reducible assumption | with_reducible refine Ext.set ?_ ?_ _ _ | with_reducible refine Ext.alloc ?_ _ | with_reducible refine Ext.drew ?_ | with_reducible refine Ext.drewN ?_ _ | with_reducible refine Ext.trans ?_ (by with_reducible assumption) | omega | (simp; done) | (simp; omega))) hB)) (by omega) (by omega) (by omega) (by omega)).mono ?_
  rintro e w1 ⟨rfl, hE1⟩
  go_wp2
  go_ret
  exact ⟨rfl, by repeat' (first | with_reducible exact Ext.refl _ | with_reducible assumption | with_reducible refine Ext.set ?_ ?_ _ _ | with_reducible refine Ext.alloc ?_ _ | with_reducible refine Ext.drew ?_ | with_reducible refine Ext.drewN ?_ _ | with_reducible refine Ext.trans ?_ (by with_reducible assumption) | omega | (simp; done) | (simp; omega))⟩

set_option maxRecDepth 100000 in
set_option maxHeartbeats 8000000 in
theorem toMsg_v (v : Value) (m : MsgD) (w : World) (B0 : Nat) (h : R_Msg w B0 v m) (hB : B0 ≤ w.heap.size) (hn : szL m.log ≤ 2097152) :
    Calls Try.prog 11 #[v] w fun e w' => ∃ v', e = .returned v' ∧ O_Msg w' w.heap.size w'.heap.size v' m ∧ Ext w w' := by
  obtain ⟨u0, s0, t0, rfl, h0u, h0s, h0t⟩ := h
  obtain ⟨A0, n0, c0, hv0, -⟩ := id h0u
  obtain ⟨A1, n1, c1, hv1, -⟩ := id h0s
  obtain ⟨A2, n2, c2, hv2, -⟩ := id h0t
  subst hv0 hv1 hv2
  have hl0 : R_Log w B0 (.agg #[.int .i64 m.log.base, .slice A0 n0 c0, .slice A1 n1 c1, .slice A2 n2 c2]) m.log := ⟨_, _, _, rfl, h0u, h0s, h0t⟩
  clear h0u h0s h0t
  have hW0 : Ext w (((w.alloc (.cells #[.int .i64 m.kind, .int .i64 m.frm, .int .i64 m.view, .int .i64 m.op, .int .i64 m.commit, .int .i64 m.normal, .int .i64 m.nonce, .int .i64 m.client, .int .i64 m.req, .int .i64 m.answer, .int .i64 m.cmd.kind, .int .i64 m.cmd.key, .int .i64 m.cmd.value, .int .i64 m.log.base, .slice A0 n0 c0, .slice A1 n1 c1, .slice A2 n2 c2] 32)).alloc (.cells #[.int .i64 0, .int .i64 0, .int .i64 0, .int .i64 0, .int .i64 0, .int .i64 0, .int .i64 0, .int .i64 0, .int .i64 0, .int .i64 0, .int .i64 0, .int .i64 0, .int .i64 0, .int .i64 0, .slice none 0 0, .slice none 0 0, .slice none 0 0] 44)).alloc (.cells #[.int .i64 0, .int .i64 0, .int .i64 0, .int .i64 0, .int .i64 0, .int .i64 0, .int .i64 0, .int .i64 0, .int .i64 0, .int .i64 0, .int .i64 0, .int .i64 0, .int .i64 0, .int .i64 0, .slice none 0 0, .slice none 0 0, .slice none 0 0] 44)) := by repeat' (first | with_reducible exact Ext.refl _ | with_reducible assumption | with_reducible refine Ext.set ?_ ?_ _ _ | with_reducible refine Ext.alloc ?_ _ | with_reducible refine Ext.drew ?_ | with_reducible refine Ext.drewN ?_ _ | with_reducible refine Ext.trans ?_ (by with_reducible assumption) | omega | (simp; done) | (simp; omega))
  have zW0 : w.heap.size + 3 ≤ (((w.alloc (.cells #[.int .i64 m.kind, .int .i64 m.frm, .int .i64 m.view, .int .i64 m.op, .int .i64 m.commit, .int .i64 m.normal, .int .i64 m.nonce, .int .i64 m.client, .int .i64 m.req, .int .i64 m.answer, .int .i64 m.cmd.kind, .int .i64 m.cmd.key, .int .i64 m.cmd.value, .int .i64 m.log.base, .slice A0 n0 c0, .slice A1 n1 c1, .slice A2 n2 c2] 32)).alloc (.cells #[.int .i64 0, .int .i64 0, .int .i64 0, .int .i64 0, .int .i64 0, .int .i64 0, .int .i64 0, .int .i64 0, .int .i64 0, .int .i64 0, .int .i64 0, .int .i64 0, .int .i64 0, .int .i64 0, .slice none 0 0, .slice none 0 0, .slice none 0 0] 44)).alloc (.cells #[.int .i64 0, .int .i64 0, .int .i64 0, .int .i64 0, .int .i64 0, .int .i64 0, .int .i64 0, .int .i64 0, .int .i64 0, .int .i64 0, .int .i64 0, .int .i64 0, .int .i64 0, .int .i64 0, .slice none 0 0, .slice none 0 0, .slice none 0 0] 44)).heap.size := by simp
  have x : Blk (((w.alloc (.cells #[.int .i64 m.kind, .int .i64 m.frm, .int .i64 m.view, .int .i64 m.op, .int .i64 m.commit, .int .i64 m.normal, .int .i64 m.nonce, .int .i64 m.client, .int .i64 m.req, .int .i64 m.answer, .int .i64 m.cmd.kind, .int .i64 m.cmd.key, .int .i64 m.cmd.value, .int .i64 m.log.base, .slice A0 n0 c0, .slice A1 n1 c1, .slice A2 n2 c2] 32)).alloc (.cells #[.int .i64 0, .int .i64 0, .int .i64 0, .int .i64 0, .int .i64 0, .int .i64 0, .int .i64 0, .int .i64 0, .int .i64 0, .int .i64 0, .int .i64 0, .int .i64 0, .int .i64 0, .int .i64 0, .slice none 0 0, .slice none 0 0, .slice none 0 0] 44)).alloc (.cells #[.int .i64 0, .int .i64 0, .int .i64 0, .int .i64 0, .int .i64 0, .int .i64 0, .int .i64 0, .int .i64 0, .int .i64 0, .int .i64 0, .int .i64 0, .int .i64 0, .int .i64 0, .int .i64 0, .slice none 0 0, .slice none 0 0, .slice none 0 0] 44)) w.heap.size 32 [.int .i64 m.kind, .int .i64 m.frm, .int .i64 m.view, .int .i64 m.op, .int .i64 m.commit, .int .i64 m.normal, .int .i64 m.nonce, .int .i64 m.client, .int .i64 m.req, .int .i64 m.answer, .int .i64 m.cmd.kind, .int .i64 m.cmd.key, .int .i64 m.cmd.value, .int .i64 m.log.base, .slice A0 n0 c0, .slice A1 n1 c1, .slice A2 n2 c2] := (((Blk.new w #[.int .i64 m.kind, .int .i64 m.frm, .int .i64 m.view, .int .i64 m.op, .int .i64 m.commit, .int .i64 m.normal, .int .i64 m.nonce, .int .i64 m.client, .int .i64 m.req, .int .i64 m.answer, .int .i64 m.cmd.kind, .int .i64 m.cmd.key, .int .i64 m.cmd.value, .int .i64 m.log.base, .slice A0 n0 c0, .slice A1 n1 c1, .slice A2 n2 c2] 32 (by first | rfl | simp)).alloc (.cells #[.int .i64 0, .int .i64 0, .int .i64 0, .int .i64 0, .int .i64 0, .int .i64 0, .int .i64 0, .int .i64 0, .int .i64 0, .int .i64 0, .int .i64 0, .int .i64 0, .int .i64 0, .int .i64 0, .slice none 0 0, .slice none 0 0, .slice none 0 0] 44)).alloc (.cells #[.int .i64 0, .int .i64 0, .int .i64 0, .int .i64 0, .int .i64 0, .int .i64 0, .int .i64 0, .int .i64 0, .int .i64 0, .int .i64 0, .int .i64 0, .int .i64 0, .int .i64 0, .int .i64 0, .slice none 0 0, .slice none 0 0, .slice none 0 0] 44))
  have y : Blk (((w.alloc (.cells #[.int .i64 m.kind, .int .i64 m.frm, .int .i64 m.view, .int .i64 m.op, .int .i64 m.commit, .int .i64 m.normal, .int .i64 m.nonce, .int .i64 m.client, .int .i64 m.req, .int .i64 m.answer, .int .i64 m.cmd.kind, .int .i64 m.cmd.key, .int .i64 m.cmd.value, .int .i64 m.log.base, .slice A0 n0 c0, .slice A1 n1 c1, .slice A2 n2 c2] 32)).alloc (.cells #[.int .i64 0, .int .i64 0, .int .i64 0, .int .i64 0, .int .i64 0, .int .i64 0, .int .i64 0, .int .i64 0, .int .i64 0, .int .i64 0, .int .i64 0, .int .i64 0, .int .i64 0, .int .i64 0, .slice none 0 0, .slice none 0 0, .slice none 0 0] 44)).alloc (.cells #[.int .i64 0, .int .i64 0, .int .i64 0, .int .i64 0, .int .i64 0, .int .i64 0, .int .i64 0, .int .i64 0, .int .i64 0, .int .i64 0, .int .i64 0, .int .i64 0, .int .i64 0, .int .i64 0, .slice none 0 0, .slice none 0 0, .slice none 0 0] 44)) (w.heap.size + 1) 44 [.int .i64 0, .int .i64 0, .int .i64 0, .int .i64 0, .int .i64 0, .int .i64 0, .int .i64 0, .int .i64 0, .int .i64 0, .int .i64 0, .int .i64 0, .int .i64 0, .int .i64 0, .int .i64 0, .slice none 0 0, .slice none 0 0, .slice none 0 0] := ((Blk.new (w.alloc (.cells #[.int .i64 m.kind, .int .i64 m.frm, .int .i64 m.view, .int .i64 m.op, .int .i64 m.commit, .int .i64 m.normal, .int .i64 m.nonce, .int .i64 m.client, .int .i64 m.req, .int .i64 m.answer, .int .i64 m.cmd.kind, .int .i64 m.cmd.key, .int .i64 m.cmd.value, .int .i64 m.log.base, .slice A0 n0 c0, .slice A1 n1 c1, .slice A2 n2 c2] 32)) #[.int .i64 0, .int .i64 0, .int .i64 0, .int .i64 0, .int .i64 0, .int .i64 0, .int .i64 0, .int .i64 0, .int .i64 0, .int .i64 0, .int .i64 0, .int .i64 0, .int .i64 0, .int .i64 0, .slice none 0 0, .slice none 0 0, .slice none 0 0] 44 (by first | rfl | simp)).alloc (.cells #[.int .i64 0, .int .i64 0, .int .i64 0, .int .i64 0, .int .i64 0, .int .i64 0, .int .i64 0, .int .i64 0, .int .i64 0, .int .i64 0, .int .i64 0, .int .i64 0, .int .i64 0, .int .i64 0, .slice none 0 0, .slice none 0 0, .slice none 0 0] 44))
  have f : Blk (((w.alloc (.cells #[.int .i64 m.kind, .int .i64 m.frm, .int .i64 m.view, .int .i64 m.op, .int .i64 m.commit, .int .i64 m.normal, .int .i64 m.nonce, .int .i64 m.client, .int .i64 m.req, .int .i64 m.answer, .int .i64 m.cmd.kind, .int .i64 m.cmd.key, .int .i64 m.cmd.value, .int .i64 m.log.base, .slice A0 n0 c0, .slice A1 n1 c1, .slice A2 n2 c2] 32)).alloc (.cells #[.int .i64 0, .int .i64 0, .int .i64 0, .int .i64 0, .int .i64 0, .int .i64 0, .int .i64 0, .int .i64 0, .int .i64 0, .int .i64 0, .int .i64 0, .int .i64 0, .int .i64 0, .int .i64 0, .slice none 0 0, .slice none 0 0, .slice none 0 0] 44)).alloc (.cells #[.int .i64 0, .int .i64 0, .int .i64 0, .int .i64 0, .int .i64 0, .int .i64 0, .int .i64 0, .int .i64 0, .int .i64 0, .int .i64 0, .int .i64 0, .int .i64 0, .int .i64 0, .int .i64 0, .slice none 0 0, .slice none 0 0, .slice none 0 0] 44)) (w.heap.size + 2) 44 [.int .i64 0, .int .i64 0, .int .i64 0, .int .i64 0, .int .i64 0, .int .i64 0, .int .i64 0, .int .i64 0, .int .i64 0, .int .i64 0, .int .i64 0, .int .i64 0, .int .i64 0, .int .i64 0, .slice none 0 0, .slice none 0 0, .slice none 0 0] := (Blk.new ((w.alloc (.cells #[.int .i64 m.kind, .int .i64 m.frm, .int .i64 m.view, .int .i64 m.op, .int .i64 m.commit, .int .i64 m.normal, .int .i64 m.nonce, .int .i64 m.client, .int .i64 m.req, .int .i64 m.answer, .int .i64 m.cmd.kind, .int .i64 m.cmd.key, .int .i64 m.cmd.value, .int .i64 m.log.base, .slice A0 n0 c0, .slice A1 n1 c1, .slice A2 n2 c2] 32)).alloc (.cells #[.int .i64 0, .int .i64 0, .int .i64 0, .int .i64 0, .int .i64 0, .int .i64 0, .int .i64 0, .int .i64 0, .int .i64 0, .int .i64 0, .int .i64 0, .int .i64 0, .int .i64 0, .int .i64 0, .slice none 0 0, .slice none 0 0, .slice none 0 0] 44)) #[.int .i64 0, .int .i64 0, .int .i64 0, .int .i64 0, .int .i64 0, .int .i64 0, .int .i64 0, .int .i64 0, .int .i64 0, .int .i64 0, .int .i64 0, .int .i64 0, .int .i64 0, .int .i64 0, .slice none 0 0, .slice none 0 0, .slice none 0 0] 44 (by first | rfl | simp))
  replace f : Blk _ (w.heap.size + 1 + 1) _ _ := f
  go_enter Try.func11, Try.ntmps11
  go_upto_region 2 with (fail)
  generalize (((w.alloc (.cells #[.int .i64 m.kind, .int .i64 m.frm, .int .i64 m.view, .int .i64 m.op, .int .i64 m.commit, .int .i64 m.normal, .int .i64 m.nonce, .int .i64 m.client, .int .i64 m.req, .int .i64 m.answer, .int .i64 m.cmd.kind, .int .i64 m.cmd.key, .int .i64 m.cmd.value, .int .i64 m.log.base, .slice A0 n0 c0, .slice A1 n1 c1, .slice A2 n2 c2] 32)).alloc (.cells #[.int .i64 0, .int .i64 0, .int .i64 0, .int .i64 0, .int .i64 0, .int .i64 0, .int .i64 0, .int .i64 0, .int .i64 0, .int .i64 0, .int .i64 0, .int .i64 0, .int .i64 0, .int .i64 0, .slice none 0 0, .slice none 0 0, .slice none 0 0] 44)).alloc (.cells #[.int .i64 0, .int .i64 0, .int .i64 0, .int .i64 0, .int .i64 0, .int .i64 0, .int .i64 0, .int .i64 0, .int .i64 0, .int .i64 0, .int .i64 0, .int .i64 0, .int .i64 0, .int .i64 0, .slice none 0 0, .slice none 0 0, .slice none 0 0] 44)) = W0 at *
  have hX : Ext w W0 := hW0
  have hz : w.heap.size + 3 ≤ W0.heap.size := zW0
  clear hW0 zW0
  obtain ⟨xp, -⟩ := x.at 0 _ rfl
  obtain ⟨fp, ff⟩ := f.at 0 _ rfl
  go_upto_region 3 with (fail)
  clear xp fp ff
  have f1 := (f.set 0 (.int .i64 m.kind))
  have hF : Fr (w.heap.size + 1 + 1) (w.heap.size + 1 + 1 + 1) W0 (W0.setCell ⟨w.heap.size + 1 + 1, 0, none⟩ (.int .i64 m.kind)) := fr_one _
  have hzn : W0.heap.size ≤ (W0.setCell ⟨w.heap.size + 1 + 1, 0, none⟩ (.int .i64 m.kind)).heap.size := hF.size
  replace f := (show Blk _ _ _ [.int .i64 m.kind, .int .i64 0, .int .i64 0, .int .i64 0, .int .i64 0, .int .i64 0, .int .i64 0, .int .i64 0, .int .i64 0, .int .i64 0, .int .i64 0, .int .i64 0, .int .i64 0, .int .i64 0, .slice none 0 0, .slice none 0 0, .slice none 0 0] from f1)
  replace x := x.fr hF (.inl (by omega))
  replace y := y.fr hF (.inl (by omega))
  replace hX := hX.fr hF (by omega)
  clear hF f1
  generalize (W0.setCell ⟨w.heap.size + 1 + 1, 0, none⟩ (.int .i64 m.kind)) = V1 at *
  replace hz : w.heap.size + 3 ≤ V1.heap.size := by omega
  obtain ⟨xp, -⟩ := x.at 1 _ rfl
  obtain ⟨fp, ff⟩ := f.at 1 _ rfl
  go_upto_region 4 with (fail)
  clear xp fp ff
  have f1 := (f.set 1 (.int .i64 m.frm))
  have hF : Fr (w.heap.size + 1 + 1) (w.heap.size + 1 + 1 + 1) V1 (V1.setCell ⟨w.heap.size + 1 + 1, 1, none⟩ (.int .i64 m.frm)) := fr_one _
  have hzn : V1.heap.size ≤ (V1.setCell ⟨w.heap.size + 1 + 1, 1, none⟩ (.int .i64 m.frm)).heap.size := hF.size
  replace f := (show Blk _ _ _ [.int .i64 m.kind, .int .i64 m.frm, .int .i64 0, .int .i64 0, .int .i64 0, .int .i64 0, .int .i64 0, .int .i64 0, .int .i64 0, .int .i64 0, .int .i64 0, .int .i64 0, .int .i64 0, .int .i64 0, .slice none 0 0, .slice none 0 0, .slice none 0 0] from f1)
  replace x := x.fr hF (.inl (by omega))
  replace y := y.fr hF (.inl (by omega))
  replace hX := hX.fr hF (by omega)
  clear hF f1
  generalize (V1.setCell ⟨w.heap.size + 1 + 1, 1, none⟩ (.int .i64 m.frm)) = V2 at *
  replace hz : w.heap.size + 3 ≤ V2.heap.size := by omega
  obtain ⟨xp, -⟩ := x.at 2 _ rfl
  obtain ⟨fp, ff⟩ := f.at 2 _ rfl
  go_upto_region 5 with (fail)
  clear xp fp ff
  have f1 := (f.set 2 (.int .i64 m.view))
  have hF : Fr (w.heap.size + 1 + 1) (w.heap.size + 1 + 1 + 1) V2 (V2.setCell ⟨w.heap.size + 1 + 1, 2, none⟩ (.int .i64 m.view)) := fr_one _
  have hzn : V2.heap.size ≤ (V2.setCell ⟨w.heap.size + 1 + 1, 2, none⟩ (.int .i64 m.view)).heap.size := hF.size
  replace f := (show Blk _ _ _ [.int .i64 m.kind, .int .i64 m.frm, .int .i64 m.view, .int .i64 0, .int .i64 0, .int .i64 0, .int .i64 0, .int .i64 0, .int .i64 0, .int .i64 0, .int .i64 0, .int .i64 0, .int .i64 0, .int .i64 0, .slice none 0 0, .slice none 0 0, .slice none 0 0] from f1)
  replace x := x.fr hF (.inl (by omega))
  replace y := y.fr hF (.inl (by omega))
  replace hX := hX.fr hF (by omega)
  clear hF f1
  generalize (V2.setCell ⟨w.heap.size + 1 + 1, 2, none⟩ (.int .i64 m.view)) = V3 at *
  replace hz : w.heap.size + 3 ≤ V3.heap.size := by omega
  obtain ⟨xp, -⟩ := x.at 3 _ rfl
  obtain ⟨fp, ff⟩ := f.at 3 _ rfl
  go_upto_region 6 with (fail)
  clear xp fp ff
  have f1 := (f.set 3 (.int .i64 m.op))
  have hF : Fr (w.heap.size + 1 + 1) (w.heap.size + 1 + 1 + 1) V3 (V3.setCell ⟨w.heap.size + 1 + 1, 3, none⟩ (.int .i64 m.op)) := fr_one _
  have hzn : V3.heap.size ≤ (V3.setCell ⟨w.heap.size + 1 + 1, 3, none⟩ (.int .i64 m.op)).heap.size := hF.size
  replace f := (show Blk _ _ _ [.int .i64 m.kind, .int .i64 m.frm, .int .i64 m.view, .int .i64 m.op, .int .i64 0, .int .i64 0, .int .i64 0, .int .i64 0, .int .i64 0, .int .i64 0, .int .i64 0, .int .i64 0, .int .i64 0, .int .i64 0, .slice none 0 0, .slice none 0 0, .slice none 0 0] from f1)
  replace x := x.fr hF (.inl (by omega))
  replace y := y.fr hF (.inl (by omega))
  replace hX := hX.fr hF (by omega)
  clear hF f1
  generalize (V3.setCell ⟨w.heap.size + 1 + 1, 3, none⟩ (.int .i64 m.op)) = V4 at *
  replace hz : w.heap.size + 3 ≤ V4.heap.size := by omega
  obtain ⟨xp, -⟩ := x.at 4 _ rfl
  obtain ⟨fp, ff⟩ := f.at 4 _ rfl
  go_upto_region 7 with (fail)
  clear xp fp ff
  have f1 := (f.set 4 (.int .i64 m.commit))
  have hF : Fr (w.heap.size + 1 + 1) (w.heap.size + 1 + 1 + 1) V4 (V4.setCell ⟨w.heap.size + 1 + 1, 4, none⟩ (.int .i64 m.commit)) := fr_one _
  have hzn : V4.heap.size ≤ (V4.setCell ⟨w.heap.size + 1 + 1, 4, none⟩ (.int .i64 m.commit)).heap.size := hF.size
  replace f := (show Blk _ _ _ [.int .i64 m.kind, .int .i64 m.frm, .int .i64 m.view, .int .i64 m.op, .int .i64 m.commit, .int .i64 0, .int .i64 0, .int .i64 0, .int .i64 0, .int .i64 0, .int .i64 0, .int .i64 0, .int .i64 0, .int .i64 0, .slice none 0 0, .slice none 0 0, .slice none 0 0] from f1)
  replace x := x.fr hF (.inl (by omega))
  replace y := y.fr hF (.inl (by omega))
  replace hX := hX.fr hF (by omega)
  clear hF f1
  generalize (V4.setCell ⟨w.heap.size + 1 + 1, 4, none⟩ (.int .i64 m.commit)) = V5 at *
  replace hz : w.heap.size + 3 ≤ V5.heap.size := by omega
  obtain ⟨xp, -⟩ := x.at 5 _ rfl
  obtain ⟨fp, ff⟩ := f.at 5 _ rfl
  go_upto_region 8 with (fail)
  clear xp fp ff
  have f1 := (f.set 5 (.int .i64 m.normal))
  have hF : Fr (w.heap.size + 1 + 1) (w.heap.size + 1 + 1 + 1) V5 (V5.setCell ⟨w.heap.size + 1 + 1, 5, none⟩ (.int .i64 m.normal)) := fr_one _
  have hzn : V5.heap.size ≤ (V5.setCell ⟨w.heap.size + 1 + 1, 5, none⟩ (.int .i64 m.normal)).heap.size := hF.size
  replace f := (show Blk _ _ _ [.int .i64 m.kind, .int .i64 m.frm, .int .i64 m.view, .int .i64 m.op, .int .i64 m.commit, .int .i64 m.normal, .int .i64 0, .int .i64 0, .int .i64 0, .int .i64 0, .int .i64 0, .int .i64 0, .int .i64 0, .int .i64 0, .slice none 0 0, .slice none 0 0, .slice none 0 0] from f1)
  replace x := x.fr hF (.inl (by omega))
  replace y := y.fr hF (.inl (by omega))
  replace hX := hX.fr hF (by omega)
  clear hF f1
  generalize (V5.setCell ⟨w.heap.size + 1 + 1, 5, none⟩ (.int .i64 m.normal)) = V6 at *
  replace hz : w.heap.size + 3 ≤ V6.heap.size := by omega
  obtain ⟨xp, -⟩ := x.at 6 _ rfl
  obtain ⟨fp, ff⟩ := f.at 6 _ rfl
  go_upto_region 9 with (fail)
  clear xp fp ff
  have f1 := (f.set 6 (.int .i64 m.nonce))
  have hF : Fr (w.heap.size + 1 + 1) (w.heap.size + 1 + 1 + 1) V6 (V6.setCell ⟨w.heap.size + 1 + 1, 6, none⟩ (.int .i64 m.nonce)) := fr_one _
  have hzn : V6.heap.size ≤ (V6.setCell ⟨w.heap.size + 1 + 1, 6, none⟩ (.int .i64 m.nonce)).heap.size := hF.size
  replace f := (show Blk _ _ _ [.int .i64 m.kind, .int .i64 m.frm, .int .i64 m.view, .int .i64 m.op, .int .i64 m.commit, .int .i64 m.normal, .int .i64 m.nonce, .int .i64 0, .int .i64 0, .int .i64 0, .int .i64 0, .int .i64 0, .int .i64 0, .int .i64 0, .slice none 0 0, .slice none 0 0, .slice none 0 0] from f1)
  replace x := x.fr hF (.inl (by omega))
  replace y := y.fr hF (.inl (by omega))
  replace hX := hX.fr hF (by omega)
  clear hF f1
  generalize (V6.setCell ⟨w.heap.size + 1 + 1, 6, none⟩ (.int .i64 m.nonce)) = V7 at *
  replace hz : w.heap.size + 3 ≤ V7.heap.size := by omega
  obtain ⟨xp, -⟩ := x.at 7 _ rfl
  obtain ⟨fp, ff⟩ := f.at 7 _ rfl
  go_upto_region 10 with (fail)
  clear xp fp ff
  have f1 := (f.set 7 (.int .i64 m.client))
  have hF : Fr (w.heap.size + 1 + 1) (w.heap.size + 1 + 1 + 1) V7 (V7.setCell ⟨w.heap.size + 1 + 1, 7, none⟩ (.int .i64 m.client)) := fr_one _
  have hzn : V7.heap.size ≤ (V7.setCell ⟨w.heap.size + 1 + 1, 7, none⟩ (.int .i64 m.client)).heap.size := hF.size
  replace f := (show Blk _ _ _ [.int .i64 m.kind, .int .i64 m.frm, .int .i64 m.view, .int .i64 m.op, .int .i64 m.commit, .int .i64 m.normal, .int .i64 m.nonce, .int .i64 m.client, .int .i64 0, .int .i64 0, .int .i64 0, .int .i64 0, .int .i64 0, .int .i64 0, .slice none 0 0, .slice none 0 0, .slice none 0 0] from f1)
  replace x := x.fr hF (.inl (by omega))
  replace y := y.fr hF (.inl (by omega))
  replace hX := hX.fr hF (by omega)
  clear hF f1
  generalize (V7.setCell ⟨w.heap.size + 1 + 1, 7, none⟩ (.int .i64 m.client)) = V8 at *
  replace hz : w.heap.size + 3 ≤ V8.heap.size := by omega
  obtain ⟨xp, -⟩ := x.at 8 _ rfl
  obtain ⟨fp, ff⟩ := f.at 8 _ rfl
  go_upto_region 11 with (fail)
  clear xp fp ff
  have f1 := (f.set 8 (.int .i64 m.req))
  have hF : Fr (w.heap.size + 1 + 1) (w.heap.size + 1 + 1 + 1) V8 (V8.setCell ⟨w.heap.size + 1 + 1, 8, none⟩ (.int .i64 m.req)) := fr_one _
  have hzn : V8.heap.size ≤ (V8.setCell ⟨w.heap.size + 1 + 1, 8, none⟩ (.int .i64 m.req)).heap.size := hF.size
  replace f := (show Blk _ _ _ [.int .i64 m.kind, .int .i64 m.frm, .int .i64 m.view, .int .i64 m.op, .int .i64 m.commit, .int .i64 m.normal, .int .i64 m.nonce, .int .i64 m.client, .int .i64 m.req, .int .i64 0, .int .i64 0, .int .i64 0, .int .i64 0, .int .i64 0, .slice none 0 0, .slice none 0 0, .slice none 0 0] from f1)
  replace x := x.fr hF (.inl (by omega))
  replace y := y.fr hF (.inl (by omega))
  replace hX := hX.fr hF (by omega)
  clear hF f1
  generalize (V8.setCell ⟨w.heap.size + 1 + 1, 8, none⟩ (.int .i64 m.req)) = V9 at *
  replace hz : w.heap.size + 3 ≤ V9.heap.size := by omega
  obtain ⟨xp, -⟩ := x.at 9 _ rfl
  obtain ⟨fp, ff⟩ := f.at 9 _ rfl
  go_upto_region 12 with (fail)
  clear xp fp ff
  have f1 := (f.set 9 (.int .i64 m.answer))
  have hF : Fr (w.heap.size + 1 + 1) (w.heap.size + 1 + 1 + 1) V9 (V9.setCell ⟨w.heap.size + 1 + 1, 9, none⟩ (.int .i64 m.answer)) := fr_one _
  have hzn : V9.heap.size ≤ (V9.setCell ⟨w.heap.size + 1 + 1, 9, none⟩ (.int .i64 m.answer)).heap.size := hF.size
  replace f := (show Blk _ _ _ [.int .i64 m.kind, .int .i64 m.frm, .int .i64 m.view, .int .i64 m.op, .int .i64 m.commit, .int .i64 m.normal, .int .i64 m.nonce, .int .i64 m.client, .int .i64 m.req, .int .i64 m.answer, .int .i64 0, .int .i64 0, .int .i64 0, .int .i64 0, .slice none 0 0, .slice none 0 0, .slice none 0 0] from f1)
  replace x := x.fr hF (.inl (by omega))
  replace y := y.fr hF (.inl (by omega))
  replace hX := hX.fr hF (by omega)
  clear hF f1
  generalize (V9.setCell ⟨w.heap.size + 1 + 1, 9, none⟩ (.int .i64 m.answer)) = V10 at *
  replace hz : w.heap.size + 3 ≤ V10.heap.size := by omega
  obtain ⟨xp0, -⟩ := x.at 10 _ rfl
  obtain ⟨xp1, -⟩ := x.at 11 _ rfl
  obtain ⟨xp2, -⟩ := x.at 12 _ rfl
  have hzl10 := hz
  go_wp2_with fail
  clear xp0 xp1 xp2
  refine (toCmd_any _ _ _ _).mono ?_
  rintro e wc10 ⟨rfl, hE⟩
  replace x := x.ext hE
  replace y := y.ext hE
  replace f := f.ext hE
  have hzE := hE.size
  replace hX := hX.trans hE
  clear hE
  obtain ⟨fp0, ff0⟩ := f.at 10 _ rfl
  obtain ⟨fp1, ff1⟩ := f.at 11 _ rfl
  obtain ⟨fp2, ff2⟩ := f.at 12 _ rfl
  go_upto_region 13 with (fail)
  clear fp0 ff0 fp1 ff1 fp2 ff2
  have f1 := (((f.set 10 (.int .i64 m.cmd.kind)).set 11 (.int .i64 m.cmd.key)).set 12 (.int .i64 m.cmd.value))
  have hF : Fr (w.heap.size + 1 + 1) (w.heap.size + 1 + 1 + 1) wc10 (((wc10.setCell ⟨w.heap.size + 1 + 1, 10, none⟩ (.int .i64 m.cmd.kind)).setCell ⟨w.heap.size + 1 + 1, 11, none⟩ (.int .i64 m.cmd.key)).setCell ⟨w.heap.size + 1 + 1, 12, none⟩ (.int .i64 m.cmd.value)) := ((fr_one _).trans (fr_one _)).trans (fr_one _)
  have hzn : wc10.heap.size ≤ (((wc10.setCell ⟨w.heap.size + 1 + 1, 10, none⟩ (.int .i64 m.cmd.kind)).setCell ⟨w.heap.size + 1 + 1, 11, none⟩ (.int .i64 m.cmd.key)).setCell ⟨w.heap.size + 1 + 1, 12, none⟩ (.int .i64 m.cmd.value)).heap.size := hF.size
  replace f := (show Blk _ _ _ [.int .i64 m.kind, .int .i64 m.frm, .int .i64 m.view, .int .i64 m.op, .int .i64 m.commit, .int .i64 m.normal, .int .i64 m.nonce, .int .i64 m.client, .int .i64 m.req, .int .i64 m.answer, .int .i64 m.cmd.kind, .int .i64 m.cmd.key, .int .i64 m.cmd.value, .int .i64 0, .slice none 0 0, .slice none 0 0, .slice none 0 0] from f1)
  replace x := x.fr hF (.inl (by omega))
  replace y := y.fr hF (.inl (by omega))
  replace hX := hX.fr hF (by omega)
  clear hF f1
  generalize (((wc10.setCell ⟨w.heap.size + 1 + 1, 10, none⟩ (.int .i64 m.cmd.kind)).setCell ⟨w.heap.size + 1 + 1, 11, none⟩ (.int .i64 m.cmd.key)).setCell ⟨w.heap.size + 1 + 1, 12, none⟩ (.int .i64 m.cmd.value)) = V11 at *
  replace hz : w.heap.size + 3 ≤ V11.heap.size := by omega
  obtain ⟨xp0, -⟩ := x.at 13 _ rfl
  obtain ⟨xp1, -⟩ := x.at 14 _ rfl
  obtain ⟨xp2, -⟩ := x.at 15 _ rfl
  obtain ⟨xp3, -⟩ := x.at 16 _ rfl
  have hzl13 := hz
  go_wp2_with fail
  clear xp0 xp1 xp2 xp3
  refine (toLog_v _ m.log _ B0 (by exact hl0.keep (keepE' hX hB)) (by omega) (by omega)).mono ?_
  rintro e wc13 ⟨v, rfl, oL, hE⟩
  obtain ⟨A5, n5, c5, B5, k5, d5, C5, m5, e5, rfl, -, -, -⟩ := oL.form
  replace x := x.ext hE
  replace y := y.ext hE
  replace f := f.ext hE
  have hzE := hE.size
  replace hX := hX.trans hE
  clear hE
  obtain ⟨fp0, ff0⟩ := f.at 13 _ rfl
  obtain ⟨fp1, ff1⟩ := f.at 14 _ rfl
  obtain ⟨fp2, ff2⟩ := f.at 15 _ rfl
  obtain ⟨fp3, ff3⟩ := f.at 16 _ rfl
  go_upto_region 14 with (fail)
  clear fp0 ff0 fp1 ff1 fp2 ff2 fp3 ff3
  have f1 := ((((f.set 13 (.int .i64 m.log.base)).set 14 (.slice A5 n5 c5)).set 15 (.slice B5 k5 d5)).set 16 (.slice C5 m5 e5))
  have hF : Fr (w.heap.size + 1 + 1) (w.heap.size + 1 + 1 + 1) wc13 ((((wc13.setCell ⟨w.heap.size + 1 + 1, 13, none⟩ (.int .i64 m.log.base)).setCell ⟨w.heap.size + 1 + 1, 14, none⟩ (.slice A5 n5 c5)).setCell ⟨w.heap.size + 1 + 1, 15, none⟩ (.slice B5 k5 d5)).setCell ⟨w.heap.size + 1 + 1, 16, none⟩ (.slice C5 m5 e5)) := (((fr_one _).trans (fr_one _)).trans (fr_one _)).trans (fr_one _)
  have hzn : wc13.heap.size ≤ ((((wc13.setCell ⟨w.heap.size + 1 + 1, 13, none⟩ (.int .i64 m.log.base)).setCell ⟨w.heap.size + 1 + 1, 14, none⟩ (.slice A5 n5 c5)).setCell ⟨w.heap.size + 1 + 1, 15, none⟩ (.slice B5 k5 d5)).setCell ⟨w.heap.size + 1 + 1, 16, none⟩ (.slice C5 m5 e5)).heap.size := hF.size
  replace f := (show Blk _ _ _ [.int .i64 m.kind, .int .i64 m.frm, .int .i64 m.view, .int .i64 m.op, .int .i64 m.commit, .int .i64 m.normal, .int .i64 m.nonce, .int .i64 m.client, .int .i64 m.req, .int .i64 m.answer, .int .i64 m.cmd.kind, .int .i64 m.cmd.key, .int .i64 m.cmd.value, .int .i64 m.log.base, .slice A5 n5 c5, .slice B5 k5 d5, .slice C5 m5 e5] from f1)
  replace x := x.fr hF (.inl (by omega))
  replace y := y.fr hF (.inl (by omega))
  replace hX := hX.fr hF (by omega)
  replace oL := oL.keep (keepF hF (by omega) (.inr (by omega)))
  clear hF f1
  generalize ((((wc13.setCell ⟨w.heap.size + 1 + 1, 13, none⟩ (.int .i64 m.log.base)).setCell ⟨w.heap.size + 1 + 1, 14, none⟩ (.slice A5 n5 c5)).setCell ⟨w.heap.size + 1 + 1, 15, none⟩ (.slice B5 k5 d5)).setCell ⟨w.heap.size + 1 + 1, 16, none⟩ (.slice C5 m5 e5)) = V12 at *
  replace hz : w.heap.size + 3 ≤ V12.heap.size := by omega
  refine region_copy (e := 44) (d := _) rfl rfl rfl rfl rfl f rfl rfl y rfl Try.underlying44 rfl (by kernel_rfl) (by intro v hv; simp at hv; rcases hv with rfl | rfl | rfl | rfl | rfl | rfl | rfl | rfl | rfl | rfl | rfl | rfl | rfl | rfl | rfl | rfl | rfl <;> rfl) ?_
  have y1 := y.whole [.int .i64 m.kind, .int .i64 m.frm, .int .i64 m.view, .int .i64 m.op, .int .i64 m.commit, .int .i64 m.normal, .int .i64 m.nonce, .int .i64 m.client, .int .i64 m.req, .int .i64 m.answer, .int .i64 m.cmd.kind, .int .i64 m.cmd.key, .int .i64 m.cmd.value, .int .i64 m.log.base, .slice A5 n5 c5, .slice B5 k5 d5, .slice C5 m5 e5] rfl
  have hF := fr_cells (w.heap.size + 1) [.int .i64 m.kind, .int .i64 m.frm, .int .i64 m.view, .int .i64 m.op, .int .i64 m.commit, .int .i64 m.normal, .int .i64 m.nonce, .int .i64 m.client, .int .i64 m.req, .int .i64 m.answer, .int .i64 m.cmd.kind, .int .i64 m.cmd.key, .int .i64 m.cmd.value, .int .i64 m.log.base, .slice A5 n5 c5, .slice B5 k5 d5, .slice C5 m5 e5] 0 V12
  have hzn := hF.size
  replace hX := hX.fr hF (by omega)
  replace oL := oL.keep (keepF hF (by omega) (.inr (by omega)))
  clear x y f hF
  generalize V12.setCells (w.heap.size + 1) 0 [.int .i64 m.kind, .int .i64 m.frm, .int .i64 m.view, .int .i64 m.op, .int .i64 m.commit, .int .i64 m.normal, .int .i64 m.nonce, .int .i64 m.client, .int .i64 m.req, .int .i64 m.answer, .int .i64 m.cmd.kind, .int .i64 m.cmd.key, .int .i64 m.cmd.value, .int .i64 m.log.base, .slice A5 n5 c5, .slice B5 k5 d5, .slice C5 m5 e5] = VZ at *
  obtain ⟨y1_p0, y1_f0⟩ := y1.at 0 _ rfl
  obtain ⟨y1_p1, y1_f1⟩ := y1.at 1 _ rfl
  obtain ⟨y1_p2, y1_f2⟩ := y1.at 2 _ rfl
  obtain ⟨y1_p3, y1_f3⟩ := y1.at 3 _ rfl
  obtain ⟨y1_p4, y1_f4⟩ := y1.at 4 _ rfl
  obtain ⟨y1_p5, y1_f5⟩ := y1.at 5 _ rfl
  obtain ⟨y1_p6, y1_f6⟩ := y1.at 6 _ rfl
  obtain ⟨y1_p7, y1_f7⟩ := y1.at 7 _ rfl
  obtain ⟨y1_p8, y1_f8⟩ := y1.at 8 _ rfl
  obtain ⟨y1_p9, y1_f9⟩ := y1.at 9 _ rfl
  obtain ⟨y1_p10, y1_f10⟩ := y1.at 10 _ rfl
  obtain ⟨y1_p11, y1_f11⟩ := y1.at 11 _ rfl
  obtain ⟨y1_p12, y1_f12⟩ := y1.at 12 _ rfl
  obtain ⟨y1_p13, y1_f13⟩ := y1.at 13 _ rfl
  obtain ⟨y1_p14, y1_f14⟩ := y1.at 14 _ rfl
  obtain ⟨y1_p15, y1_f15⟩ := y1.at 15 _ rfl
  obtain ⟨y1_p16, y1_f16⟩ := y1.at 16 _ rfl
  obtain ⟨u3, s3, t3, e3, k1, k2, k3⟩ := oL
  injection e3 with e3
  simp only [Array.mk.injEq, List.cons.injEq, and_true, true_and] at e3
  obtain ⟨e31, e32, e33⟩ := e3
  subst e31 e32 e33
  go_wp2
  exact bodyPost_ret (v := .agg #[.int .i64 m.kind, .int .i64 m.frm, .int .i64 m.view, .int .i64 m.op, .int .i64 m.commit, .int .i64 m.normal, .int .i64 m.nonce, .int .i64 m.client, .int .i64 m.req, .int .i64 m.answer, .int .i64 m.cmd.kind, .int .i64 m.cmd.key, .int .i64 m.cmd.value, .int .i64 m.log.base, .slice A5 n5 c5, .slice B5 k5 d5, .slice C5 m5 e5]) (by simp [results, Try.results11, go_sem, y1_p0, y1_p1, y1_p2, y1_p3, y1_p4, y1_p5, y1_p6, y1_p7, y1_p8, y1_p9, y1_p10, y1_p11, y1_p12, y1_p13, y1_p14, y1_p15, y1_p16]) rfl ⟨_, rfl, ⟨_, _, _, rfl, k1.wide (by omega) (by omega), k2.wide (by omega) (by omega), k3.wide (by omega) (by omega)⟩, hX⟩

set_option maxRecDepth 100000 in
set_option maxHeartbeats 4000000 in
theorem eqMsg_same (u v : Value) (m : MsgD) (w : World) (B0 B3 : Nat) (hu : R_Msg w B0 u m) (hX : B0 ≤ w.heap.size) (hv : R_Msg w B3 v m) (hY : B3 ≤ w.heap.size) :
    Calls Try.prog 13 #[u, v] w fun e w' => e = .returned (.bool true) ∧ Ext w w' := by
  obtain ⟨u0, s0, t0, rfl, h0u, h0s, h0t⟩ := hu
  obtain ⟨A0, n0, c0, hv0, -⟩ := id h0u
  obtain ⟨A1, n1, c1, hv1, -⟩ := id h0s
  obtain ⟨A2, n2, c2, hv2, -⟩ := id h0t
  subst hv0 hv1 hv2
  have hl0 : R_Log w B0 (.agg #[.int .i64 m.log.base, .slice A0 n0 c0, .slice A1 n1 c1, .slice A2 n2 c2]) m.log := ⟨_, _, _, rfl, h0u, h0s, h0t⟩
  clear h0u h0s h0t
  obtain ⟨u3, s3, t3, rfl, h3u, h3s, h3t⟩ := hv
  obtain ⟨A3, n3, c3, hv3, -⟩ := id h3u
  obtain ⟨A4, n4, c4, hv4, -⟩ := id h3s
  obtain ⟨A5, n5, c5, hv5, -⟩ := id h3t
  subst hv3 hv4 hv5
  have hl3 : R_Log w B3 (.agg #[.int .i64 m.log.base, .slice A3 n3 c3, .slice A4 n4 c4, .slice A5 n5 c5]) m.log := ⟨_, _, _, rfl, h3u, h3s, h3t⟩
  clear h3u h3s h3t
  have hW0 : Ext w ((w.alloc (.cells #[.int .i64 m.kind, .int .i64 m.frm, .int .i64 m.view, .int .i64 m.op, .int .i64 m.commit, .int .i64 m.normal, .int .i64 m.nonce, .int .i64 m.client, .int .i64 m.req, .int .i64 m.answer, .int .i64 m.cmd.kind, .int .i64 m.cmd.key, .int .i64 m.cmd.value, .int .i64 m.log.base, .slice A0 n0 c0, .slice A1 n1 c1, .slice A2 n2 c2] 44)).alloc (.cells #[.int .i64 m.kind, .int .i64 m.frm, .int .i64 m.view, .int .i64 m.op, .int .i64 m.commit, .int .i64 m.normal, .int .i64 m.nonce, .int .i64 m.client, .int .i64 m.req, .int .i64 m.answer, .int .i64 m.cmd.kind, .int .i64 m.cmd.key, .int .i64 m.cmd.value, .int .i64 m.log.base, .slice A3 n3 c3, .slice A4 n4 c4, .slice A5 n5 c5] 44)) := by repeat' (first | with_reducible exact Ext.refl _ | with_reducible assumption | with_reducible refine Ext.set ?_ ?_ _ _ | with_reducible refine Ext.alloc ?_ _ | with_reducible refine Ext.drew ?_ | with_reducible refine Ext.drewN ?_ _ | with_reducible refine Ext.trans ?_ (by with_reducible assumption) | omega | (simp; done) | (simp; omega))
  have zW0 : w.heap.size + 2 ≤ ((w.alloc (.cells #[.int .i64 m.kind, .int .i64 m.frm, .int .i64 m.view, .int .i64 m.op, .int .i64 m.commit, .int .i64 m.normal, .int .i64 m.nonce, .int .i64 m.client, .int .i64 m.req, .int .i64 m.answer, .int .i64 m.cmd.kind, .int .i64 m.cmd.key, .int .i64 m.cmd.value, .int .i64 m.log.base, .slice A0 n0 c0, .slice A1 n1 c1, .slice A2 n2 c2] 44)).alloc (.cells #[.int .i64 m.kind, .int .i64 m.frm, .int .i64 m.view, .int .i64 m.op, .int .i64 m.commit, .int .i64 m.normal, .int .i64 m.nonce, .int .i64 m.client, .int .i64 m.req, .int .i64 m.answer, .int .i64 m.cmd.kind, .int .i64 m.cmd.key, .int .i64 m.cmd.value, .int .i64 m.log.base, .slice A3 n3 c3, .slice A4 n4 c4, .slice A5 n5 c5] 44)).heap.size := by simp
  have x : Blk ((w.alloc (.cells #[.int .i64 m.kind, .int .i64 m.frm, .int .i64 m.view, .int .i64 m.op, .int .i64 m.commit, .int .i64 m.normal, .int .i64 m.nonce, .int .i64 m.client, .int .i64 m.req, .int .i64 m.answer, .int .i64 m.cmd.kind, .int .i64 m.cmd.key, .int .i64 m.cmd.value, .int .i64 m.log.base, .slice A0 n0 c0, .slice A1 n1 c1, .slice A2 n2 c2] 44)).alloc (.cells #[.int .i64 m.kind, .int .i64 m.frm, .int .i64 m.view, .int .i64 m.op, .int .i64 m.commit, .int .i64 m.normal, .int .i64 m.nonce, .int .i64 m.client, .int .i64 m.req, .int .i64 m.answer, .int .i64 m.cmd.kind, .int .i64 m.cmd.key, .int .i64 m.cmd.value, .int .i64 m.log.base, .slice A3 n3 c3, .slice A4 n4 c4, .slice A5 n5 c5] 44)) w.heap.size 44 [.int .i64 m.kind, .int .i64 m.frm, .int .i64 m.view, .int .i64 m.op, .int .i64 m.commit, .int .i64 m.normal, .int .i64 m.nonce, .int .i64 m.client, .int .i64 m.req, .int .i64 m.answer, .int .i64 m.cmd.kind, .int .i64 m.cmd.key, .int .i64 m.cmd.value, .int .i64 m.log.base, .slice A0 n0 c0, .slice A1 n1 c1, .slice A2 n2 c2] := ((Blk.new w #[.int .i64 m.kind, .int .i64 m.frm, .int .i64 m.view, .int .i64 m.op, .int .i64 m.commit, .int .i64 m.normal, .int .i64 m.nonce, .int .i64 m.client, .int .i64 m.req, .int .i64 m.answer, .int .i64 m.cmd.kind, .int .i64 m.cmd.key, .int .i64 m.cmd.value, .int .i64 m.log.base, .slice A0 n0 c0, .slice A1 n1 c1, .slice A2 n2 c2] 44 (by first | rfl | simp)).alloc (.cells #[.int .i64 m.kind, .int .i64 m.frm, .int .i64 m.view, .int .i64 m.op, .int .i64 m.commit, .int .i64 m.normal, .int .i64 m.nonce, .int .i64 m.client, .int .i64 m.req, .int .i64 m.answer, .int .i64 m.cmd.kind, .int .i64 m.cmd.key, .int .i64 m.cmd.value, .int .i64 m.log.base, .slice A3 n3 c3, .slice A4 n4 c4, .slice A5 n5 c5] 44))
  have y : Blk ((w.alloc (.cells #[.int .i64 m.kind, .int .i64 m.frm, .int .i64 m.view, .int .i64 m.op, .int .i64 m.commit, .int .i64 m.normal, .int .i64 m.nonce, .int .i64 m.client, .int .i64 m.req, .int .i64 m.answer, .int .i64 m.cmd.kind, .int .i64 m.cmd.key, .int .i64 m.cmd.value, .int .i64 m.log.base, .slice A0 n0 c0, .slice A1 n1 c1, .slice A2 n2 c2] 44)).alloc (.cells #[.int .i64 m.kind, .int .i64 m.frm, .int .i64 m.view, .int .i64 m.op, .int .i64 m.commit, .int .i64 m.normal, .int .i64 m.nonce, .int .i64 m.client, .int .i64 m.req, .int .i64 m.answer, .int .i64 m.cmd.kind, .int .i64 m.cmd.key, .int .i64 m.cmd.value, .int .i64 m.log.base, .slice A3 n3 c3, .slice A4 n4 c4, .slice A5 n5 c5] 44)) (w.heap.size + 1) 44 [.int .i64 m.kind, .int .i64 m.frm, .int .i64 m.view, .int .i64 m.op, .int .i64 m.commit, .int .i64 m.normal, .int .i64 m.nonce, .int .i64 m.client, .int .i64 m.req, .int .i64 m.answer, .int .i64 m.cmd.kind, .int .i64 m.cmd.key, .int .i64 m.cmd.value, .int .i64 m.log.base, .slice A3 n3 c3, .slice A4 n4 c4, .slice A5 n5 c5] := (Blk.new (w.alloc (.cells #[.int .i64 m.kind, .int .i64 m.frm, .int .i64 m.view, .int .i64 m.op, .int .i64 m.commit, .int .i64 m.normal, .int .i64 m.nonce, .int .i64 m.client, .int .i64 m.req, .int .i64 m.answer, .int .i64 m.cmd.kind, .int .i64 m.cmd.key, .int .i64 m.cmd.value, .int .i64 m.log.base, .slice A0 n0 c0, .slice A1 n1 c1, .slice A2 n2 c2] 44)) #[.int .i64 m.kind, .int .i64 m.frm, .int .i64 m.view, .int .i64 m.op, .int .i64 m.commit, .int .i64 m.normal, .int .i64 m.nonce, .int .i64 m.client, .int .i64 m.req, .int .i64 m.answer, .int .i64 m.cmd.kind, .int .i64 m.cmd.key, .int .i64 m.cmd.value, .int .i64 m.log.base, .slice A3 n3 c3, .slice A4 n4 c4, .slice A5 n5 c5] 44 (by first | rfl | simp))
  go_enter Try.func13, Try.ntmps13
  go_upto_region 1 with (fail)
  generalize ((w.alloc (.cells #[.int .i64 m.kind, .int .i64 m.frm, .int .i64 m.view, .int .i64 m.op, .int .i64 m.commit, .int .i64 m.normal, .int .i64 m.nonce, .int .i64 m.client, .int .i64 m.req, .int .i64 m.answer, .int .i64 m.cmd.kind, .int .i64 m.cmd.key, .int .i64 m.cmd.value, .int .i64 m.log.base, .slice A0 n0 c0, .slice A1 n1 c1, .slice A2 n2 c2] 44)).alloc (.cells #[.int .i64 m.kind, .int .i64 m.frm, .int .i64 m.view, .int .i64 m.op, .int .i64 m.commit, .int .i64 m.normal, .int .i64 m.nonce, .int .i64 m.client, .int .i64 m.req, .int .i64 m.answer, .int .i64 m.cmd.kind, .int .i64 m.cmd.key, .int .i64 m.cmd.value, .int .i64 m.log.base, .slice A3 n3 c3, .slice A4 n4 c4, .slice A5 n5 c5] 44)) = W0 at *
  obtain ⟨x_p0, x_f0⟩ := x.at 0 _ rfl
  obtain ⟨x_p1, x_f1⟩ := x.at 1 _ rfl
  obtain ⟨x_p2, x_f2⟩ := x.at 2 _ rfl
  obtain ⟨x_p3, x_f3⟩ := x.at 3 _ rfl
  obtain ⟨x_p4, x_f4⟩ := x.at 4 _ rfl
  obtain ⟨x_p5, x_f5⟩ := x.at 5 _ rfl
  obtain ⟨x_p6, x_f6⟩ := x.at 6 _ rfl
  obtain ⟨x_p7, x_f7⟩ := x.at 7 _ rfl
  obtain ⟨x_p8, x_f8⟩ := x.at 8 _ rfl
  obtain ⟨x_p9, x_f9⟩ := x.at 9 _ rfl
  obtain ⟨x_p10, x_f10⟩ := x.at 10 _ rfl
  obtain ⟨x_p11, x_f11⟩ := x.at 11 _ rfl
  obtain ⟨x_p12, x_f12⟩ := x.at 12 _ rfl
  obtain ⟨x_p13, x_f13⟩ := x.at 13 _ rfl
  obtain ⟨x_p14, x_f14⟩ := x.at 14 _ rfl
  obtain ⟨x_p15, x_f15⟩ := x.at 15 _ rfl
  obtain ⟨x_p16, x_f16⟩ := x.at 16 _ rfl
  obtain ⟨y_p0, y_f0⟩ := y.at 0 _ rfl
  obtain ⟨y_p1, y_f1⟩ := y.at 1 _ rfl
  obtain ⟨y_p2, y_f2⟩ := y.at 2 _ rfl
  obtain ⟨y_p3, y_f3⟩ := y.at 3 _ rfl
  obtain ⟨y_p4, y_f4⟩ := y.at 4 _ rfl
  obtain ⟨y_p5, y_f5⟩ := y.at 5 _ rfl
  obtain ⟨y_p6, y_f6⟩ := y.at 6 _ rfl
  obtain ⟨y_p7, y_f7⟩ := y.at 7 _ rfl
  obtain ⟨y_p8, y_f8⟩ := y.at 8 _ rfl
  obtain ⟨y_p9, y_f9⟩ := y.at 9 _ rfl
  obtain ⟨y_p10, y_f10⟩ := y.at 10 _ rfl
  obtain ⟨y_p11, y_f11⟩ := y.at 11 _ rfl
  obtain ⟨y_p12, y_f12⟩ := y.at 12 _ rfl
  obtain ⟨y_p13, y_f13⟩ := y.at 13 _ rfl
  obtain ⟨y_p14, y_f14⟩ := y.at 14 _ rfl
  obtain ⟨y_p15, y_f15⟩ := y.at 15 _ rfl
  obtain ⟨y_p16, y_f16⟩ := y.at 16 _ rfl
  go_wp2_with fail
  refine (eqCmd_any m.cmd m.cmd _).mono ?_
  rw [decide_eq_true (rfl : m.cmd = m.cmd)]
  rintro e w1 ⟨rfl, hE1⟩
  clear x_p0 x_f0 x_p1 x_f1 x_p2 x_f2 x_p3 x_f3 x_p4 x_f4 x_p5 x_f5 x_p6 x_f6 x_p7 x_f7 x_p8 x_f8 x_p9 x_f9 x_p10 x_f10 x_p11 x_f11 x_p12 x_f12 x_p13 x_f13 x_p14 x_f14 x_p15 x_f15 x_p16 x_f16 y_p0 y_f0 y_p1 y_f1 y_p2 y_f2 y_p3 y_f3 y_p4 y_f4 y_p5 y_f5 y_p6 y_f6 y_p7 y_f7 y_p8 y_f8 y_p9 y_f9 y_p10 y_f10 y_p11 y_f11 y_p12 y_f12 y_p13 y_f13 y_p14 y_f14 y_p15 y_f15 y_p16 y_f16
  replace x := x.ext hE1
  replace y := y.ext hE1
  have hX1 := hW0.trans hE1
  have hz1 := hX1.size
  clear hE1 hW0
  obtain ⟨x_p13, x_f13⟩ := x.at 13 _ rfl
  obtain ⟨x_p14, x_f14⟩ := x.at 14 _ rfl
  obtain ⟨x_p15, x_f15⟩ := x.at 15 _ rfl
  obtain ⟨x_p16, x_f16⟩ := x.at 16 _ rfl
  obtain ⟨y_p13, y_f13⟩ := y.at 13 _ rfl
  obtain ⟨y_p14, y_f14⟩ := y.at 14 _ rfl
  obtain ⟨y_p15, y_f15⟩ := y.at 15 _ rfl
  obtain ⟨y_p16, y_f16⟩ := y.at 16 _ rfl
  go_wp2_with fail
  refine (eqLog_v _ _ m.log m.log _ B0 B3 (by exact hl0.keep (keepE' hX1 hX)) (by omega) (by exact hl3.keep (keepE' hX1 hY)) (by omega)).mono ?_
  rw [decide_eq_true (rfl : m.log = m.log)]
  rintro e w2 ⟨rfl, hE2⟩
  have hX2 := hX1.trans hE2
  go_wp2
  go_ret
  exact ⟨rfl, hX2⟩

end Go.Proofs.Ytbfbdhjeoknjkaa
