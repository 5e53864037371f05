/-
  The small tests of the program and of the reference (ranges, commands, entries), walked: each returns the plain Bool function beside it.
-/
import Derived.Test.YtkfhhmojamfbbaaBase
import Derived.Test.YtkfhhmojamfbbaaChecked
namespace Go.Proofs.Ytkfhhmojamfbbaa
open Go.RowKit

/-- n lies from lo to hi. -/
def inB (n lo hi : Int) : Bool := decide (lo ≤ n ∧ n ≤ hi)
def wholeB (n : Int) : Bool := inB n 0 1000000000
theorem wholeB_iff (n : Int) : wholeB n = true ↔ 0 ≤ n ∧ n ≤ 1000000000 := by simp [wholeB, inB]

theorem from_any (n lo hi : Int) (w : World) : Calls Try.prog 26 #[.int .i64 n, .int .i64 lo, .int .i64 hi] w fun e w' => e = .returned (.bool (inB n lo hi)) ∧ w = w' := by
  go_enter Try.func26, Try.ntmps26
  go_wp2
  all_goals go_ret
  all_goals (refine ⟨?_, rfl⟩; simp [inB]; omega)
theorem l1In_any (n lo hi : Int) (w : World) : Calls Try.prog 24 #[.int .i64 n, .int .i64 lo, .int .i64 hi] w fun e w' => e = .returned (.bool (inB n lo hi)) ∧ w = w' := by
  go_enter Try.func24, Try.ntmps24
  go_wp2
  all_goals go_ret
  all_goals (refine ⟨?_, rfl⟩; simp [inB]; omega)
theorem isWhole_any (n : Int) (w : World) : Calls Try.prog 22 #[.int .i64 n] w fun e w' => e = .returned (.bool (wholeB n)) ∧ w = w' := by
  go_enter Try.func22, Try.ntmps22
  go_wp2_with (go_at_call 26; refine (from_any _ _ _ _).mono ?_; rintro e w' ⟨rfl, rfl⟩)
  go_ret
  exact ⟨rfl, rfl⟩
theorem l1Whole_any (n : Int) (w : World) : Calls Try.prog 20 #[.int .i64 n] w fun e w' => e = .returned (.bool (wholeB n)) ∧ w = w' := by
  go_enter Try.func20, Try.ntmps20
  go_wp2_with (go_at_call 24; refine (l1In_any _ _ _ _).mono ?_; rintro e w' ⟨rfl, rfl⟩)
  go_ret
  exact ⟨rfl, rfl⟩
theorem isReq_any (n : Int) (w : World) : Calls Try.prog 25 #[.int .i64 n] w fun e w' => e = .returned (.bool (inB n 1 1000000000)) ∧ w = w' := by
  go_enter Try.func25, Try.ntmps25
  go_wp2_with (go_at_call 26; refine (from_any _ _ _ _).mono ?_; rintro e w' ⟨rfl, rfl⟩)
  go_ret
  exact ⟨rfl, rfl⟩

/-! ### how many replicas -/

def ofB (n : Int) : Bool := n == 1 || (n == 3 || n == 5)
theorem ofB_iff (n : Int) : ofB n = true ↔ n = 1 ∨ n = 3 ∨ n = 5 := by simp [ofB]
theorem isOf_any (n : Int) (w : World) : Calls Try.prog 23 #[.int .i64 n] w fun e w' => e = .returned (.bool (ofB n)) ∧ w = w' := by
  go_enter Try.func23, Try.ntmps23
  go_wp2
  all_goals go_ret
  all_goals (refine ⟨?_, rfl⟩; simp_all [ofB, Bool.or_assoc])
theorem l6Of_any (n : Int) (w : World) : Calls Try.prog 21 #[.int .i64 n] w fun e w' => e = .returned (.bool (ofB n)) ∧ w = w' := by
  go_enter Try.func21, Try.ntmps21
  go_wp2
  all_goals go_ret
  all_goals (refine ⟨?_, rfl⟩; simp_all [ofB, Bool.or_assoc])
def primaryOf (v n : Int) : Int := if wholeB v = true ∧ ofB n = true then v % n else -1
theorem primaryOf_i (v n : Int) (w : World) : Calls Try.prog 9 #[.int .i64 v, .int .i64 n] w fun e w' => e = .returned (.int .i64 (primaryOf v n)) ∧ w = w' := by
  by_cases h : wholeB v = true ∧ ofB n = true
  · obtain ⟨h1, h2⟩ := h
    have h3 := (wholeB_iff v).1 h1
    have h4 : n = 1 ∨ n = 3 ∨ n = 5 := (ofB_iff n).1 h2
    have h5 : (n == 0) = false := by simp; omega
    have H : Hid (primaryOf v n = v % n) := if_pos ⟨h1, h2⟩
    have h6 : 1 ≤ n := by omega
    clear h4
    go_enter Try.func9, Try.ntmps9
    go_wp2_with (first
      | (go_at_call 22; refine (isWhole_any _ _).mono ?_; rintro e w' ⟨rfl, rfl⟩)
      | (go_at_call 23; refine (isOf_any _ _).mono ?_; rintro e w' ⟨rfl, rfl⟩))
    go_ret
    refine ⟨?_, rfl⟩
    rw [H.out]
    rfl
  · have H : Hid (primaryOf v n = -1) := if_neg h
    by_cases h1 : wholeB v = true
    · have h2 : ofB n = false := by simpa [h1] using h
      clear h
      go_enter Try.func9, Try.ntmps9
      go_wp2_with (first
        | (go_at_call 22; refine (isWhole_any _ _).mono ?_; rintro e w' ⟨rfl, rfl⟩)
        | (go_at_call 23; refine (isOf_any _ _).mono ?_; rintro e w' ⟨rfl, rfl⟩))
      go_ret
      exact ⟨by rw [H.out]; rfl, rfl⟩
    · have h2 : wholeB v = false := by simpa using h1
      clear h h1
      go_enter Try.func9, Try.ntmps9
      go_wp2_with (first
        | (go_at_call 22; refine (isWhole_any _ _).mono ?_; rintro e w' ⟨rfl, rfl⟩)
        | (go_at_call 23; refine (isOf_any _ _).mono ?_; rintro e w' ⟨rfl, rfl⟩))
      go_ret
      exact ⟨by rw [H.out]; rfl, rfl⟩
theorem primaryOf_s (v n : Int) (w : World) : Calls Try.prog 8 #[.int .i64 v, .int .i64 n] w fun e w' => e = .returned (.int .i64 (primaryOf v n)) ∧ w = w' := by
  by_cases h : wholeB v = true ∧ ofB n = true
  · obtain ⟨h1, h2⟩ := h
    have h3 := (wholeB_iff v).1 h1
    have h4 : n = 1 ∨ n = 3 ∨ n = 5 := (ofB_iff n).1 h2
    have h5 : (n == 0) = false := by simp; omega
    have H : Hid (primaryOf v n = v % n) := if_pos ⟨h1, h2⟩
    have h6 : 1 ≤ n := by omega
    clear h4
    go_enter Try.func8, Try.ntmps8
    go_wp2_with (first
      | (go_at_call 20; refine (l1Whole_any _ _).mono ?_; rintro e w' ⟨rfl, rfl⟩)
      | (go_at_call 21; refine (l6Of_any _ _).mono ?_; rintro e w' ⟨rfl, rfl⟩))
    go_ret
    refine ⟨?_, rfl⟩
    rw [H.out]
    rfl
  · have H : Hid (primaryOf v n = -1) := if_neg h
    by_cases h1 : wholeB v = true
    · have h2 : ofB n = false := by simpa [h1] using h
      clear h
      go_enter Try.func8, Try.ntmps8
      go_wp2_with (first
        | (go_at_call 20; refine (l1Whole_any _ _).mono ?_; rintro e w' ⟨rfl, rfl⟩)
        | (go_at_call 21; refine (l6Of_any _ _).mono ?_; rintro e w' ⟨rfl, rfl⟩))
      go_ret
      exact ⟨by rw [H.out]; rfl, rfl⟩
    · have h2 : wholeB v = false := by simpa using h1
      clear h h1
      go_enter Try.func8, Try.ntmps8
      go_wp2_with (first
        | (go_at_call 20; refine (l1Whole_any _ _).mono ?_; rintro e w' ⟨rfl, rfl⟩)
        | (go_at_call 21; refine (l6Of_any _ _).mono ?_; rintro e w' ⟨rfl, rfl⟩))
      go_ret
      exact ⟨by rw [H.out]; rfl, rfl⟩

/-! ### commands -/

structure CmdD where
  kind : Int
  key : Int
  value : Int
deriving DecidableEq
def cmdOk (c : CmdD) : Bool := if c.kind = 1 ∨ c.kind = 4 then wholeB c.key && (c.value == 0) else if c.kind = 2 ∨ c.kind = 3 then wholeB c.key && wholeB c.value else false

theorem cmdOk_i (a b c : Int) (w : World) : Calls Try.prog 12 #[.agg #[.int .i64 a, .int .i64 b, .int .i64 c]] w fun e w' => e = .returned (.bool (cmdOk ⟨a, b, c⟩)) ∧ Ext w w' := by
  go_enter Try.func12, Try.ntmps12
  go_wp2_with (go_at_call 22; refine (isWhole_any _ _).mono ?_; rintro e w' ⟨rfl, rfl⟩)
  all_goals go_ret
  all_goals (refine ⟨?_, (Ext.refl _).alloc _⟩; simp_all [cmdOk] <;> try omega)
theorem cmdOk_s (a b c : Int) (w : World) : Calls Try.prog 10 #[.agg #[.int .i64 a, .int .i64 b, .int .i64 c]] w fun e w' => e = .returned (.bool (cmdOk ⟨a, b, c⟩)) ∧ Ext w w' := by
  go_enter Try.func10, Try.ntmps10
  go_wp2_with (go_at_call 20; refine (l1Whole_any _ _).mono ?_; rintro e w' ⟨rfl, rfl⟩)
  all_goals go_ret
  all_goals (refine ⟨?_, (Ext.refl _).alloc _⟩; simp_all [cmdOk] <;> try omega)
theorem toCmd_any (a b c : Int) (w : World) : Calls Try.prog 11 #[.agg #[.int .i64 a, .int .i64 b, .int .i64 c]] w fun e w' => e = .returned (.agg #[.int .i64 a, .int .i64 b, .int .i64 c]) ∧ Ext w w' := by
  go_enter Try.func11, Try.ntmps11
  go_wp2
  exact bodyPost_ret (v := .agg #[.int .i64 a, .int .i64 b, .int .i64 c]) (by simp [results, Try.results11, go_sem]) rfl ⟨rfl, by repeat' (first | with_reducible exact Ext.refl _ | with_reducible assumption | with_reducible refine Ext.set ?_ ?_ _ _ | with_reducible refine Ext.alloc ?_ _ | with_reducible refine Ext.drew ?_ | with_reducible refine Ext.drewN ?_ _ | with_reducible refine Ext.trans ?_ (by with_reducible assumption) | omega | (simp; done) | (simp; omega))⟩

/-! ### entries -/

structure EntryD where
  client : Int
  req : Int
  cmd : CmdD
deriving DecidableEq
def entryOk (e : EntryD) : Bool := wholeB e.client && (inB e.req 1 1000000000 && cmdOk e.cmd)
/-- An entry's five cells. -/
def vEntry (e : EntryD) : Value := .agg #[.int .i64 e.client, .int .i64 e.req, .int .i64 e.cmd.kind, .int .i64 e.cmd.key, .int .i64 e.cmd.value]
theorem entryOk_i (a r k x y : Int) (w : World) : Calls Try.prog 15 #[.agg #[.int .i64 a, .int .i64 r, .int .i64 k, .int .i64 x, .int .i64 y]] w fun e w' => e = .returned (.bool (entryOk ⟨a, r, ⟨k, x, y⟩⟩)) ∧ Ext w w' := by
  go_enter Try.func15, Try.ntmps15
  go_wp2_with (first
    | (go_at_call 22; refine (isWhole_any _ _).mono ?_; rintro e w' ⟨rfl, rfl⟩)
    | (go_at_call 25; refine (isReq_any _ _).mono ?_; rintro e w' ⟨rfl, rfl⟩)
    | (go_at_call 12; refine (cmdOk_i _ _ _ _).mono ?_; rintro e w1 ⟨rfl, hb⟩))
  all_goals go_ret
  all_goals refine ⟨?_, by repeat' (first | with_reducible exact Ext.refl _ | with_reducible assumption | with_reducible refine Ext.set ?_ ?_ _ _ | with_reducible refine Ext.alloc ?_ _ | with_reducible refine Ext.drew ?_ | with_reducible refine Ext.drewN ?_ _ | with_reducible refine Ext.trans ?_ (by with_reducible assumption) | omega | (simp; done) | (simp; omega))⟩
  all_goals simp_all [entryOk]
theorem entryOk_s (a r k x y : Int) (w : World) : Calls Try.prog 13 #[.agg #[.int .i64 a, .int .i64 r, .int .i64 k, .int .i64 x, .int .i64 y]] w fun e w' => e = .returned (.bool (entryOk ⟨a, r, ⟨k, x, y⟩⟩)) ∧ Ext w w' := by
  go_enter Try.func13, Try.ntmps13
  go_wp2_with (first
    | (go_at_call 20; refine (l1Whole_any _ _).mono ?_; rintro e w' ⟨rfl, rfl⟩)
    | (go_at_call 24; refine (l1In_any _ _ _ _).mono ?_; rintro e w' ⟨rfl, rfl⟩)
    | (go_at_call 10; refine (cmdOk_s _ _ _ _).mono ?_; rintro e w1 ⟨rfl, hb⟩))
  all_goals go_ret
  all_goals refine ⟨?_, by repeat' (first | with_reducible exact Ext.refl _ | with_reducible assumption | with_reducible refine Ext.set ?_ ?_ _ _ | with_reducible refine Ext.alloc ?_ _ | with_reducible refine Ext.drew ?_ | with_reducible refine Ext.drewN ?_ _ | with_reducible refine Ext.trans ?_ (by with_reducible assumption) | omega | (simp; done) | (simp; omega))⟩
  all_goals simp_all [entryOk]
theorem toEntry_any (a r k x y : Int) (w : World) : Calls Try.prog 14 #[.agg #[.int .i64 a, .int .i64 r, .int .i64 k, .int .i64 x, .int .i64 y]] w fun e w' => e = .returned (.agg #[.int .i64 a, .int .i64 r, .int .i64 k, .int .i64 x, .int .i64 y]) ∧ Ext w w' := by
  go_enter Try.func14, Try.ntmps14
  go_wp2_with (go_at_call 11; refine (toCmd_any _ _ _ _).mono ?_; rintro e w1 ⟨rfl, hb⟩; obtain ⟨hc, hf, hz⟩ := hb.look)
  exact bodyPost_ret (v := .agg #[.int .i64 a, .int .i64 r, .int .i64 k, .int .i64 x, .int .i64 y]) (by simp [results, Try.results14, go_sem, hc]) rfl ⟨rfl, by repeat' (first | with_reducible exact Ext.refl _ | with_reducible assumption | with_reducible refine Ext.set ?_ ?_ _ _ | with_reducible refine Ext.alloc ?_ _ | with_reducible refine Ext.drew ?_ | with_reducible refine Ext.drewN ?_ _ | with_reducible refine Ext.trans ?_ (by with_reducible assumption) | omega | (simp; done) | (simp; omega))⟩

end Go.Proofs.Ytkfhhmojamfbbaa
