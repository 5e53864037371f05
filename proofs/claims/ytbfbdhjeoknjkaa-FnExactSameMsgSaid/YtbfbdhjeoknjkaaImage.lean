/-
  Images: what they read as, sized, copied into the program's type, compared, marked, held; ImageOk, the program's and the reference's, walked.
-/
import Derived.Test.YtbfbdhjeoknjkaaCells
import Derived.Test.YtbfbdhjeoknjkaaSeats
namespace Go.Proofs.Ytbfbdhjeoknjkaa
open Go.RowKit

structure ImageD where
  cells : List CellD
  seats : List SeatD
deriving DecidableEq

/-- The value is an image that reads as m. -/
def R_Image (w : World) (B : Nat) (v : Value) (m : ImageD) : Prop := ∃ u s, v = .agg #[u, s] ∧ R_CellS w B u m.cells ∧ R_SeatS w B s m.seats
def O_Image (w : World) (lo hi : Nat) (v : Value) (m : ImageD) : Prop := ∃ u s, v = .agg #[u, s] ∧ O_CellS w lo hi u m.cells ∧ O_SeatS w lo hi s m.seats
def NK_Image (m : ImageD) : Nat := NK_CellS m.cells + NK_SeatS m.seats
def MK_Image (k : Int) (m : ImageD) : ImageD := ⟨MK_CellS k m.cells, MK_SeatS (k + (NK_CellS m.cells : Nat)) m.seats⟩
theorem R_Image.keep {w w' : World} {B : Nat} {v : Value} {m : ImageD} (h : R_Image w B v m) (hk : ∀ k, k < B → w'.heap[k]? = w.heap[k]?) : R_Image w' B v m := by
  obtain ⟨u, s, rfl, h1, h2⟩ := h
  exact ⟨u, s, rfl, h1.keep hk, h2.keep hk⟩
theorem O_Image.keep {w w' : World} {lo hi : Nat} {v : Value} {m : ImageD} (h : O_Image w lo hi v m) (hk : ∀ k, lo ≤ k → k < hi → w'.heap[k]? = w.heap[k]?) : O_Image w' lo hi v m := by
  obtain ⟨u, s, rfl, h1, h2⟩ := h
  exact ⟨u, s, rfl, h1.keep hk, h2.keep hk⟩
theorem O_Image.rd {w : World} {lo hi : Nat} {v : Value} {m : ImageD} (h : O_Image w lo hi v m) : R_Image w hi v m := by
  obtain ⟨u, s, rfl, h1, h2⟩ := h
  exact ⟨u, s, rfl, h1.rd, h2.rd⟩
theorem O_Image.wide {w : World} {lo hi lo' hi' : Nat} {v : Value} {m : ImageD} (h : O_Image w lo hi v m) (h1 : lo' ≤ lo) (h2 : hi ≤ hi') : O_Image w lo' hi' v m := by
  obtain ⟨u, s, rfl, h3, h4⟩ := h
  exact ⟨u, s, rfl, h3.wide h1 h2, h4.wide h1 h2⟩
theorem R_Image.more {w : World} {B B' : Nat} {v : Value} {m : ImageD} (h : R_Image w B v m) (hB : B ≤ B') : R_Image w B' v m := by
  obtain ⟨u, s, rfl, h1, h2⟩ := h
  exact ⟨u, s, rfl, h1.more hB, h2.more hB⟩

/-! ### right images -/

def cellOkAt (l : List CellD) (i : Nat) : Bool :=
  wholeB ((l.getD i ⟨0, 0⟩).key) && (wholeB ((l.getD i ⟨0, 0⟩).value) && !(decide (0 < i) && decide ((l.getD (i - 1) ⟨0, 0⟩).key ≥ (l.getD i ⟨0, 0⟩).key)))
def cellsOk (l : List CellD) : Bool := (List.range l.length).all (cellOkAt l)
def seatOkAt (l : List SeatD) (i : Nat) : Bool :=
  wholeB ((l.getD i ⟨0, 0, 0⟩).client) && (inB ((l.getD i ⟨0, 0, 0⟩).req) 1 1000000000 && (inB ((l.getD i ⟨0, 0, 0⟩).answer) (-1) 1000000000 && !(decide (0 < i) && decide ((l.getD (i - 1) ⟨0, 0, 0⟩).client ≥ (l.getD i ⟨0, 0, 0⟩).client))))
def seatsOk (l : List SeatD) : Bool := (List.range l.length).all (seatOkAt l)
def imageOk (m : ImageD) : Bool := cellsOk m.cells && (seatsOk m.seats && (decide (m.cells.length ≤ 40) && decide (m.seats.length ≤ 10)))

theorem all_lt {p : Nat → Bool} {n k : Nat} (h : ∀ i, i < n → p i = true) (hk : k ≤ n) : (List.range k).all p = true := by
  rw [List.all_eq_true]
  intro x hx
  exact h x (by have := List.mem_range.1 hx; omega)
theorem all_not {p : Nat → Bool} {n k : Nat} (hk : k < n) (h : p k = false) : (List.range n).all p = false := by
  rw [List.all_eq_false]
  exact ⟨k, List.mem_range.2 hk, by simp [h]⟩
theorem cellOkAt_eq {l : List CellD} {i : Nat} {x : CellD} (hx : l[i]? = some x) : cellOkAt l i = (wholeB x.key && (wholeB x.value && !(decide (0 < i) && decide ((l.getD (i - 1) ⟨0, 0⟩).key ≥ x.key)))) := by
  simp [cellOkAt, List.getD_eq_getElem?_getD, hx]
theorem seatOkAt_eq {l : List SeatD} {i : Nat} {x : SeatD} (hx : l[i]? = some x) : seatOkAt l i = (wholeB x.client && (inB x.req 1 1000000000 && (inB x.answer (-1) 1000000000 && !(decide (0 < i) && decide ((l.getD (i - 1) ⟨0, 0, 0⟩).client ≥ x.client))))) := by
  simp [seatOkAt, List.getD_eq_getElem?_getD, hx]

end Go.Proofs.Ytbfbdhjeoknjkaa
