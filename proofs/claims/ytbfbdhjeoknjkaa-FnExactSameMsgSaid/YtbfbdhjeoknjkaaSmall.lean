/-
  The small tests of the program and of the reference (ranges, commands, entries), walked: each returns the plain Bool function beside it.
-/
import Derived.Test.YtbfbdhjeoknjkaaBase
import Derived.Test.YtbfbdhjeoknjkaaChecked
namespace Go.Proofs.Ytbfbdhjeoknjkaa
open Go.RowKit

/-- n lies from lo to hi. -/
def inB (n lo hi : Int) : Bool := decide (lo ≤ n ∧ n ≤ hi)
def wholeB (n : Int) : Bool := inB n 0 1000000000
theorem wholeB_iff (n : Int) : wholeB n = true ↔ 0 ≤ n ∧ n ≤ 1000000000 := by simp [wholeB, inB]

theorem from_any (n lo hi : Int) (w : World) : Calls Try.prog 77 #[.int .i64 n, .int .i64 lo, .int .i64 hi] w fun e w' => e = .returned (.bool (inB n lo hi)) ∧ w = w' := by
  go_enter Try.func77, Try.ntmps77
  go_wp2
  all_goals go_ret
  all_goals (refine ⟨?_, rfl⟩; simp [inB]; omega)
theorem l1In_any (n lo hi : Int) (w : World) : Calls Try.prog 72 #[.int .i64 n, .int .i64 lo, .int .i64 hi] w fun e w' => e = .returned (.bool (inB n lo hi)) ∧ w = w' := by
  go_enter Try.func72, Try.ntmps72
  go_wp2
  all_goals go_ret
  all_goals (refine ⟨?_, rfl⟩; simp [inB]; omega)
theorem isWhole_any (n : Int) (w : World) : Calls Try.prog 78 #[.int .i64 n] w fun e w' => e = .returned (.bool (wholeB n)) ∧ w = w' := by
  go_enter Try.func78, Try.ntmps78
  go_wp2_with (go_at_call 77; refine (from_any _ _ _ _).mono ?_; rintro e w' ⟨rfl, rfl⟩)
  go_ret
  exact ⟨rfl, rfl⟩
theorem l1Whole_any (n : Int) (w : World) : Calls Try.prog 59 #[.int .i64 n] w fun e w' => e = .returned (.bool (wholeB n)) ∧ w = w' := by
  go_enter Try.func59, Try.ntmps59
  go_wp2_with (go_at_call 72; refine (l1In_any _ _ _ _).mono ?_; rintro e w' ⟨rfl, rfl⟩)
  go_ret
  exact ⟨rfl, rfl⟩
theorem isReq_any (n : Int) (w : World) : Calls Try.prog 123 #[.int .i64 n] w fun e w' => e = .returned (.bool (inB n 1 1000000000)) ∧ w = w' := by
  go_enter Try.func123, Try.ntmps123
  go_wp2_with (go_at_call 77; refine (from_any _ _ _ _).mono ?_; rintro e w' ⟨rfl, rfl⟩)
  go_ret
  exact ⟨rfl, rfl⟩
theorem isAnswer_any (n : Int) (w : World) : Calls Try.prog 124 #[.int .i64 n] w fun e w' => e = .returned (.bool (inB n (-1) 1000000000)) ∧ w = w' := by
  go_enter Try.func124, Try.ntmps124
  go_wp2_with (go_at_call 77; refine (from_any _ _ _ _).mono ?_; rintro e w' ⟨rfl, rfl⟩)
  go_ret
  exact ⟨rfl, rfl⟩

/-! ### how many replicas -/

def ofB (n : Int) : Bool := n == 1 || (n == 3 || n == 5)
theorem ofB_iff (n : Int) : ofB n = true ↔ n = 1 ∨ n = 3 ∨ n = 5 := by simp [ofB]
theorem isOf_any (n : Int) (w : World) : Calls Try.prog 76 #[.int .i64 n] w fun e w' => e = .returned (.bool (ofB n)) ∧ w = w' := by
  go_enter Try.func76, Try.ntmps76
  go_wp2
  all_goals go_ret
  all_goals (refine ⟨?_, rfl⟩; simp_all [ofB, Bool.or_assoc])
theorem l6Of_any (n : Int) (w : World) : Calls Try.prog 71 #[.int .i64 n] w fun e w' => e = .returned (.bool (ofB n)) ∧ w = w' := by
  go_enter Try.func71, Try.ntmps71
  go_wp2
  all_goals go_ret
  all_goals (refine ⟨?_, rfl⟩; simp_all [ofB, Bool.or_assoc])

/-! ### commands -/

structure CmdD where
  kind : Int
  key : Int
  value : Int
deriving DecidableEq
def cmdOk (c : CmdD) : Bool := if c.kind = 1 ∨ c.kind = 4 then wholeB c.key && (c.value == 0) else if c.kind = 2 ∨ c.kind = 3 then wholeB c.key && wholeB c.value else false

theorem cmdOk_i (a b c : Int) (w : World) : Calls Try.prog 126 #[.agg #[.int .i64 a, .int .i64 b, .int .i64 c]] w fun e w' => e = .returned (.bool (cmdOk ⟨a, b, c⟩)) ∧ Ext w w' := by
  go_enter Try.func126, Try.ntmps126
  go_wp2_with (go_at_call 78; refine (isWhole_any _ _).mono ?_; rintro e w' ⟨rfl, rfl⟩)
  all_goals go_ret
  all_goals (refine ⟨?_, (Ext.refl _).alloc _⟩; simp_all [cmdOk] <;> try omega)
theorem cmdOk_s (a b c : Int) (w : World) : Calls Try.prog 108 #[.agg #[.int .i64 a, .int .i64 b, .int .i64 c]] w fun e w' => e = .returned (.bool (cmdOk ⟨a, b, c⟩)) ∧ Ext w w' := by
  go_enter Try.func108, Try.ntmps108
  go_wp2_with (go_at_call 59; refine (l1Whole_any _ _).mono ?_; rintro e w' ⟨rfl, rfl⟩)
  all_goals go_ret
  all_goals (refine ⟨?_, (Ext.refl _).alloc _⟩; simp_all [cmdOk] <;> try omega)
theorem toCmd_any (a b c : Int) (w : World) : Calls Try.prog 42 #[.agg #[.int .i64 a, .int .i64 b, .int .i64 c]] w fun e w' => e = .returned (.agg #[.int .i64 a, .int .i64 b, .int .i64 c]) ∧ Ext w w' := by
  go_enter Try.func42, Try.ntmps42
  go_wp2
  exact bodyPost_ret (v := .agg #[.int .i64 a, .int .i64 b, .int .i64 c]) (by simp [results, Try.results42, go_sem]) rfl ⟨rfl, by repeat' (first | with_reducible exact Ext.refl _ | with_reducible assumption | with_reducible refine Ext.set ?_ ?_ _ _ | with_reducible refine Ext.alloc ?_ _ | with_reducible refine Ext.drew ?_ | with_reducible refine Ext.drewN ?_ _ | with_reducible refine Ext.trans ?_ (by with_reducible assumption) | omega | (simp; done) | (simp; omega))⟩

set_option maxHeartbeats 400000 in
theorem eqCmd_any (x y : CmdD) (w : World) : Calls Try.prog 44 #[.agg #[.int .i64 x.kind, .int .i64 x.key, .int .i64 x.value], .agg #[.int .i64 y.kind, .int .i64 y.key, .int .i64 y.value]] w fun e w' => e = .returned (.bool (decide (x = y))) ∧ Ext w w' := by
  obtain ⟨x0, x1, x2⟩ := x
  obtain ⟨y0, y1, y2⟩ := y
  dsimp only
  go_enter Try.func44, Try.ntmps44
  go_wp2
  all_goals go_ret
  all_goals refine ⟨?_, by repeat' (first | with_reducible exact Ext.refl _ | with_reducible assumption | with_reducible refine Ext.set ?_ ?_ _ _ | with_reducible refine Ext.alloc ?_ _ | with_reducible refine Ext.drew ?_ | with_reducible refine Ext.drewN ?_ _ | with_reducible refine Ext.trans ?_ (by with_reducible assumption) | omega | (simp; done) | (simp; omega))⟩
  all_goals simp_all

/-! ### entries -/

structure EntryD where
  client : Int
  req : Int
  cmd : CmdD
deriving DecidableEq
def entryOk (e : EntryD) : Bool := wholeB e.client && (inB e.req 1 1000000000 && cmdOk e.cmd)
/-- An entry's five cells. -/
def vEntry (e : EntryD) : Value := .agg #[.int .i64 e.client, .int .i64 e.req, .int .i64 e.cmd.kind, .int .i64 e.cmd.key, .int .i64 e.cmd.value]
theorem entryOk_i (a r k x y : Int) (w : World) : Calls Try.prog 97 #[.agg #[.int .i64 a, .int .i64 r, .int .i64 k, .int .i64 x, .int .i64 y]] w fun e w' => e = .returned (.bool (entryOk ⟨a, r, ⟨k, x, y⟩⟩)) ∧ Ext w w' := by
  go_enter Try.func97, Try.ntmps97
  go_wp2_with (first
    | (go_at_call 78; refine (isWhole_any _ _).mono ?_; rintro e w' ⟨rfl, rfl⟩)
    | (go_at_call 123; refine (isReq_any _ _).mono ?_; rintro e w' ⟨rfl, rfl⟩)
    | (go_at_call 126; refine (cmdOk_i _ _ _ _).mono ?_; rintro e w1 ⟨rfl, hb⟩))
  all_goals go_ret
  all_goals refine ⟨?_, by repeat' (first | with_reducible exact Ext.refl _ | with_reducible assumption | with_reducible refine Ext.set ?_ ?_ _ _ | with_reducible refine Ext.alloc ?_ _ | with_reducible refine Ext.drew ?_ | with_reducible refine Ext.drewN ?_ _ | with_reducible refine Ext.trans ?_ (by with_reducible assumption) | omega | (simp; done) | (simp; omega))⟩
  all_goals simp_all [entryOk]
theorem entryOk_s (a r k x y : Int) (w : World) : Calls Try.prog 61 #[.agg #[.int .i64 a, .int .i64 r, .int .i64 k, .int .i64 x, .int .i64 y]] w fun e w' => e = .returned (.bool (entryOk ⟨a, r, ⟨k, x, y⟩⟩)) ∧ Ext w w' := by
  go_enter Try.func61, Try.ntmps61
  go_wp2_with (first
    | (go_at_call 59; refine (l1Whole_any _ _).mono ?_; rintro e w' ⟨rfl, rfl⟩)
    | (go_at_call 72; refine (l1In_any _ _ _ _).mono ?_; rintro e w' ⟨rfl, rfl⟩)
    | (go_at_call 108; refine (cmdOk_s _ _ _ _).mono ?_; rintro e w1 ⟨rfl, hb⟩))
  all_goals go_ret
  all_goals refine ⟨?_, by repeat' (first | with_reducible exact Ext.refl _ | with_reducible assumption | with_reducible refine Ext.set ?_ ?_ _ _ | with_reducible refine Ext.alloc ?_ _ | with_reducible refine Ext.drew ?_ | with_reducible refine Ext.drewN ?_ _ | with_reducible refine Ext.trans ?_ (by with_reducible assumption) | omega | (simp; done) | (simp; omega))⟩
  all_goals simp_all [entryOk]
theorem toEntry_any (a r k x y : Int) (w : World) : Calls Try.prog 93 #[.agg #[.int .i64 a, .int .i64 r, .int .i64 k, .int .i64 x, .int .i64 y]] w fun e w' => e = .returned (.agg #[.int .i64 a, .int .i64 r, .int .i64 k, .int .i64 x, .int .i64 y]) ∧ Ext w w' := by
  go_enter Try.func93, Try.ntmps93
  go_wp2_with (go_at_call 42; refine (toCmd_any _ _ _ _).mono ?_; rintro e w1 ⟨rfl, hb⟩; obtain ⟨hc, hf, hz⟩ := hb.look)
  exact bodyPost_ret (v := .agg #[.int .i64 a, .int .i64 r, .int .i64 k, .int .i64 x, .int .i64 y]) (by simp [results, Try.results93, go_sem, hc]) rfl ⟨rfl, by repeat' (first | with_reducible exact Ext.refl _ | with_reducible assumption | with_reducible refine Ext.set ?_ ?_ _ _ | with_reducible refine Ext.alloc ?_ _ | with_reducible refine Ext.drew ?_ | with_reducible refine Ext.drewN ?_ _ | with_reducible refine Ext.trans ?_ (by with_reducible assumption) | omega | (simp; done) | (simp; omega))⟩

end Go.Proofs.Ytbfbdhjeoknjkaa
