/-
  'big' of the laws on drawn things, and the parts of images and logs as slices.
-/
import Derived.Test.YtbfbdhjeoknjkaaImage2
import Derived.Test.YtbfbdhjeoknjkaaEntries
import Derived.Test.YtbfbdhjeoknjkaaLog
namespace Go.Proofs.Ytbfbdhjeoknjkaa
open Go.RowKit
set_option maxRecDepth 1000000

theorem bigU_any (A : Option Addr) (n c : Nat) (w : World) : Calls Try.prog 23 #[.slice A n c] w fun e w' => e = .returned (.bool (decide (1048576 < n))) ∧ w = w' := by
  by_cases h : 1048576 < n
  · have d1 : decide ((1048576 : Int) < (n : Int)) = true := by simp; omega
    have d2 : decide (1048576 < n) = true := by simp; omega
    rw [d2]
    go_enter Try.func23, Try.ntmps23
    go_wp2
    go_ret
    exact ⟨rfl, rfl⟩
  · have d1 : decide ((1048576 : Int) < (n : Int)) = false := by simp; omega
    have d2 : decide (1048576 < n) = false := by simp; omega
    rw [d2]
    go_enter Try.func23, Try.ntmps23
    go_wp2
    go_ret
    exact ⟨rfl, rfl⟩
theorem O_Image.form {w : World} {lo hi : Nat} {v : Value} {m : ImageD} (h : O_Image w lo hi v m) : ∃ A n c B k d, v = .agg #[.slice A n c, .slice B k d] ∧ m.cells.length = n ∧ m.seats.length = k := by
  obtain ⟨u, s, rfl, h1, h2⟩ := h
  obtain ⟨A, n, c, rfl, hn, -⟩ := h1
  obtain ⟨B, k, d, rfl, hk, -⟩ := h2
  exact ⟨A, n, c, B, k, d, rfl, hn, hk⟩
theorem O_Log.form {w : World} {lo hi : Nat} {v : Value} {l : LogD} (h : O_Log w lo hi v l) : ∃ A n c B k d C m e, v = .agg #[.int .i64 l.base, .slice A n c, .slice B k d, .slice C m e] ∧ l.image.cells.length = n ∧ l.image.seats.length = k ∧ l.entries.length = m := by
  obtain ⟨u, s, t, rfl, h1, h2, h3⟩ := h
  obtain ⟨A, n, c, rfl, hn, -⟩ := h1
  obtain ⟨B, k, d, rfl, hk, -⟩ := h2
  obtain ⟨C, m, e, rfl, hm, -⟩ := h3
  exact ⟨A, n, c, B, k, d, C, m, e, rfl, hn, hk, hm⟩
theorem R_Image.cellS {w : World} {B n c : Nat} {A : Option Addr} {s : Value} {m : ImageD} (h : R_Image w B (.agg #[.slice A n c, s]) m) : R_CellS w B (.slice A n c) m.cells := by
  obtain ⟨u, s', e, h1, h2⟩ := h
  simp at e
  rw [e.1]
  exact h1
theorem R_Image.cellAt {w : World} {B n c : Nat} {A : Option Addr} {s : Value} {m : ImageD} (h : R_Image w B (.agg #[.slice A n c, s]) m) {k : Nat} {x : CellD} (hx : m.cells[k]? = some x) :
    ∃ b off, A = some ⟨b, off, none⟩ ∧ b < B ∧ w.cell? ⟨b, off + k * 2, none⟩ = some (.int .i64 x.key) ∧ w.cell? ⟨b, off + k * 2 + 1, none⟩ = some (.int .i64 x.value) := by
  obtain ⟨A', n', c', e, hl, -, -, hr⟩ := h.cellS
  injection e with e1 e2 e3
  subst e1 e2 e3
  obtain ⟨b, off, y, hA, hb, hy, h0, h1⟩ := hr.Cell hl (by rw [← hl]; exact (List.getElem?_eq_some_iff.1 hx).1)
  obtain rfl : x = y := by rw [hx] at hy; exact Option.some.inj hy
  exact ⟨b, off, hA, hb, h0, h1⟩
end Go.Proofs.Ytbfbdhjeoknjkaa
