/-
  The small tests of the program and of the reference (ranges, commands, entries), walked: each returns the plain Bool function beside it.
-/
import Derived.Test.YtllljddojncemaaBase
import Derived.Test.YtllljddojncemaaChecked
namespace Go.Proofs.Ytllljddojncemaa
open Go.RowKit

/-- n lies from lo to hi. -/
def inB (n lo hi : Int) : Bool := decide (lo ≤ n ∧ n ≤ hi)
def wholeB (n : Int) : Bool := inB n 0 1000000000
theorem wholeB_iff (n : Int) : wholeB n = true ↔ 0 ≤ n ∧ n ≤ 1000000000 := by simp [wholeB, inB]

theorem from_any (n lo hi : Int) (w : World) : Calls Try.prog 44 #[.int .i64 n, .int .i64 lo, .int .i64 hi] w fun e w' => e = .returned (.bool (inB n lo hi)) ∧ w = w' := by
  go_enter Try.func44, Try.ntmps44
  go_wp2
  all_goals go_ret
  all_goals (refine ⟨?_, rfl⟩; simp [inB]; omega)
theorem l1In_any (n lo hi : Int) (w : World) : Calls Try.prog 41 #[.int .i64 n, .int .i64 lo, .int .i64 hi] w fun e w' => e = .returned (.bool (inB n lo hi)) ∧ w = w' := by
  go_enter Try.func41, Try.ntmps41
  go_wp2
  all_goals go_ret
  all_goals (refine ⟨?_, rfl⟩; simp [inB]; omega)
theorem isWhole_any (n : Int) (w : World) : Calls Try.prog 47 #[.int .i64 n] w fun e w' => e = .returned (.bool (wholeB n)) ∧ w = w' := by
  go_enter Try.func47, Try.ntmps47
  go_wp2_with (go_at_call 44; refine (from_any _ _ _ _).mono ?_; rintro e w' ⟨rfl, rfl⟩)
  go_ret
  exact ⟨rfl, rfl⟩
theorem l1Whole_any (n : Int) (w : World) : Calls Try.prog 39 #[.int .i64 n] w fun e w' => e = .returned (.bool (wholeB n)) ∧ w = w' := by
  go_enter Try.func39, Try.ntmps39
  go_wp2_with (go_at_call 41; refine (l1In_any _ _ _ _).mono ?_; rintro e w' ⟨rfl, rfl⟩)
  go_ret
  exact ⟨rfl, rfl⟩

/-! ### how many replicas -/

def ofB (n : Int) : Bool := n == 1 || (n == 3 || n == 5)
theorem ofB_iff (n : Int) : ofB n = true ↔ n = 1 ∨ n = 3 ∨ n = 5 := by simp [ofB]

/-! ### commands -/

structure CmdD where
  kind : Int
  key : Int
  value : Int
deriving DecidableEq
def cmdOk (c : CmdD) : Bool := if c.kind = 1 ∨ c.kind = 4 then wholeB c.key && (c.value == 0) else if c.kind = 2 ∨ c.kind = 3 then wholeB c.key && wholeB c.value else false



/-! ### entries -/

structure EntryD where
  client : Int
  req : Int
  cmd : CmdD
deriving DecidableEq
def entryOk (e : EntryD) : Bool := wholeB e.client && (inB e.req 1 1000000000 && cmdOk e.cmd)
/-- An entry's five cells. -/
def vEntry (e : EntryD) : Value := .agg #[.int .i64 e.client, .int .i64 e.req, .int .i64 e.cmd.kind, .int .i64 e.cmd.key, .int .i64 e.cmd.value]

end Go.Proofs.Ytllljddojncemaa
