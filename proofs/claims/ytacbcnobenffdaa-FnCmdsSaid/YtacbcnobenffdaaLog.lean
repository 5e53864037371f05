/-
  Logs: what they read as, sized, copied into the program's type, compared, marked, held.
-/
import Derived.Test.YtacbcnobenffdaaImage2
import Derived.Test.YtacbcnobenffdaaEntries
namespace Go.Proofs.Ytacbcnobenffdaa
open Go.RowKit

structure LogD where
  base : Int
  image : ImageD
  entries : List EntryD
deriving DecidableEq

/-- The value is a log that reads as l. -/
def R_Log (w : World) (B : Nat) (v : Value) (l : LogD) : Prop := ∃ u s t, v = .agg #[.int .i64 l.base, u, s, t] ∧ R_CellS w B u l.image.cells ∧ R_SeatS w B s l.image.seats ∧ R_EntryS w B t l.entries
def O_Log (w : World) (lo hi : Nat) (v : Value) (l : LogD) : Prop := ∃ u s t, v = .agg #[.int .i64 l.base, u, s, t] ∧ O_CellS w lo hi u l.image.cells ∧ O_SeatS w lo hi s l.image.seats ∧ O_EntryS w lo hi t l.entries
def NK_Log (l : LogD) : Nat := NK_Image l.image + NK_EntryS l.entries
def MK_Log (k : Int) (l : LogD) : LogD := ⟨l.base, MK_Image k l.image, MK_EntryS (k + (NK_Image l.image : Nat)) l.entries⟩
theorem R_Log.keep {w w' : World} {B : Nat} {v : Value} {l : LogD} (h : R_Log w B v l) (hk : ∀ k, k < B → w'.heap[k]? = w.heap[k]?) : R_Log w' B v l := by
  obtain ⟨u, s, t, rfl, h1, h2, h3⟩ := h
  exact ⟨u, s, t, rfl, h1.keep hk, h2.keep hk, h3.keep hk⟩
theorem O_Log.keep {w w' : World} {lo hi : Nat} {v : Value} {l : LogD} (h : O_Log w lo hi v l) (hk : ∀ k, lo ≤ k → k < hi → w'.heap[k]? = w.heap[k]?) : O_Log w' lo hi v l := by
  obtain ⟨u, s, t, rfl, h1, h2, h3⟩ := h
  exact ⟨u, s, t, rfl, h1.keep hk, h2.keep hk, h3.keep hk⟩
theorem O_Log.rd {w : World} {lo hi : Nat} {v : Value} {l : LogD} (h : O_Log w lo hi v l) : R_Log w hi v l := by
  obtain ⟨u, s, t, rfl, h1, h2, h3⟩ := h
  exact ⟨u, s, t, rfl, h1.rd, h2.rd, h3.rd⟩
theorem O_Log.wide {w : World} {lo hi lo' hi' : Nat} {v : Value} {l : LogD} (h : O_Log w lo hi v l) (h1 : lo' ≤ lo) (h2 : hi ≤ hi') : O_Log w lo' hi' v l := by
  obtain ⟨u, s, t, rfl, h3, h4, h5⟩ := h
  exact ⟨u, s, t, rfl, h3.wide h1 h2, h4.wide h1 h2, h5.wide h1 h2⟩
theorem R_Log.more {w : World} {B B' : Nat} {v : Value} {l : LogD} (h : R_Log w B v l) (hB : B ≤ B') : R_Log w B' v l := by
  obtain ⟨u, s, t, rfl, h1, h2, h3⟩ := h
  exact ⟨u, s, t, rfl, h1.more hB, h2.more hB, h3.more hB⟩
theorem R_Log.image {w : World} {B : Nat} {b : Int} {u s t : Value} {l : LogD} (h : R_Log w B (.agg #[.int .i64 b, u, s, t]) l) : R_Image w B (.agg #[u, s]) l.image ∧ R_EntryS w B t l.entries ∧ b = l.base := by
  obtain ⟨u', s', t', hv, h1, h2, h3⟩ := h
  injection hv with hv
  injection hv with hv
  simp only [List.cons.injEq, Value.int.injEq, true_and, and_true] at hv
  obtain ⟨e0, e1, e2, e3⟩ := hv
  subst e1 e2 e3
  exact ⟨⟨_, _, rfl, h1, h2⟩, h3, e0⟩



end Go.Proofs.Ytacbcnobenffdaa
