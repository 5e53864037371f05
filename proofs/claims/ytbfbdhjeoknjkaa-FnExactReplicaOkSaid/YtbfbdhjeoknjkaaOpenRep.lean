/-
  A replica as a law's argument, opened.
-/
import Derived.Test.YtbfbdhjeoknjkaaOpen
import Derived.Test.YtbfbdhjeoknjkaaReplica
namespace Go.Proofs.Ytbfbdhjeoknjkaa
open Go.ChangeShapes Go.WideShapes Go.ChangeAt Go.RowKit
open Go.Deep (open_slice)
set_option maxRecDepth 1000000
section
variable {H : Type} {enc : TypeId × Value → H} {w : World} {base b0 : Nat} {spare : Nat → Bool} {held : Bool} {r : Reach} {v : Value} {d : DataW H} {p : List MemPlace}
theorem vote_cells : Try.prog.cellsOf 149 = 10 := by kernel_rfl
theorem replica_cells : Try.prog.cellsOf 66 = 13 := by kernel_rfl
theorem open_vote {fuel : Nat} {cs : List Value} {x : DataW H × List MemPlace} (h : DataW.trod enc Try.prog w base spare held fuel 149 cs = some x) :
    ∃ m : VoteE, cs = eV m ∧ m.Good w w.heap.size := by
  obtain ⟨xs, n, _, _, hl, hlen, hf⟩ := DataW.trod_struct Try.underlying149 h
  rw [vote_cells] at hl
  have hs : ∀ j, j < 7 → (xs[j]?).isSome = true := fun j hj => by simp [hlen]; omega
  match cs, hl with
  | [c0, c1, c2, c3, c4, c5, c6, c7, c8, c9], _ =>
    obtain ⟨a0, e0, -⟩ := int_at Try.underlying3 (hf 0 _ rfl) (hs 0 (by omega))
    obtain ⟨a1, e1, -⟩ := int_at Try.underlying3 (hf 1 _ rfl) (hs 1 (by omega))
    obtain ⟨a2, e2, -⟩ := int_at Try.underlying3 (hf 2 _ rfl) (hs 2 (by omega))
    obtain ⟨a3, e3, -⟩ := int_at Try.underlying3 (hf 3 _ rfl) (hs 3 (by omega))
    obtain ⟨a4, e4, -⟩ := int_at Try.underlying3 (hf 4 _ rfl) (hs 4 (by omega))
    obtain ⟨a5, e5, -⟩ := int_at Try.underlying3 (hf 5 _ rfl) (hs 5 (by omega))
    obtain ⟨y6, hy6⟩ := Option.isSome_iff_exists.1 (hs 6 (by omega))
    obtain ⟨u, s, t, l, e6, h1, h2, h3, -⟩ := open_log ((hf 6 _ rfl).trans hy6)
    have one : Try.prog.cellsOf 3 = 1 := by kernel_rfl
    simp [one] at e0
    simp [one] at e1
    simp [one] at e2
    simp [one] at e3
    simp [one] at e4
    simp [one] at e5
    simp [one, log_cells] at e6
    obtain ⟨rfl, rfl, rfl, rfl⟩ := e6
    subst e0 e1 e2 e3 e4 e5
    exact ⟨⟨_, _, _, ⟨a0, a1, a2, a3, a4, a5, l⟩⟩, rfl, h1, h2, h3⟩
theorem open_replica {fuel : Nat} {cs : List Value} {x : DataW H × List MemPlace} (h : DataW.trod enc Try.prog w base spare held fuel 66 cs = some x) :
    ∃ (u s t q : Value) (m : ReplicaD), cs = [.int .i64 m.me, .int .i64 m.of, .int .i64 m.mode, .int .i64 m.view, .int .i64 m.normal, .int .i64 m.commit, .int .i64 m.log.base, u, s, t, q, .int .i64 m.cell, .int .i64 m.nonce] ∧ R_CellS w w.heap.size u m.log.image.cells ∧ R_SeatS w w.heap.size s m.log.image.seats ∧ R_EntryS w w.heap.size t m.log.entries ∧ R_VoteS w w.heap.size q m.votes := by
  obtain ⟨xs, n, _, _, hl, hlen, hf⟩ := DataW.trod_struct Try.underlying66 h
  rw [replica_cells] at hl
  have hs : ∀ j, j < 10 → (xs[j]?).isSome = true := fun j hj => by simp [hlen]; omega
  match cs, hl with
  | [c0, c1, c2, c3, c4, c5, c6, c7, c8, c9, c10, c11, c12], _ =>
    obtain ⟨a0, e0, -⟩ := int_at Try.underlying3 (hf 0 _ rfl) (hs 0 (by omega))
    obtain ⟨a1, e1, -⟩ := int_at Try.underlying3 (hf 1 _ rfl) (hs 1 (by omega))
    obtain ⟨a2, e2, -⟩ := int_at Try.underlying3 (hf 2 _ rfl) (hs 2 (by omega))
    obtain ⟨a3, e3, -⟩ := int_at Try.underlying3 (hf 3 _ rfl) (hs 3 (by omega))
    obtain ⟨a4, e4, -⟩ := int_at Try.underlying3 (hf 4 _ rfl) (hs 4 (by omega))
    obtain ⟨a5, e5, -⟩ := int_at Try.underlying3 (hf 5 _ rfl) (hs 5 (by omega))
    obtain ⟨a8, e8, -⟩ := int_at Try.underlying3 (hf 8 _ rfl) (hs 8 (by omega))
    obtain ⟨a9, e9, -⟩ := int_at Try.underlying3 (hf 9 _ rfl) (hs 9 (by omega))
    obtain ⟨y6, hy6⟩ := Option.isSome_iff_exists.1 (hs 6 (by omega))
    obtain ⟨y7, hy7⟩ := Option.isSome_iff_exists.1 (hs 7 (by omega))
    obtain ⟨u, s, t, l, e6, h1, h2, h3, -⟩ := open_log ((hf 6 _ rfl).trans hy6)
    obtain ⟨A, k, c, vs, e7, g1, g2, g3, g4, g5⟩ := open_rows (sz := 10) (by omega) vote_cells (fun _ _ _ => open_vote) eV_len Try.underlying64 ((hf 7 _ rfl).trans hy7)
    have one : Try.prog.cellsOf 3 = 1 := by kernel_rfl
    have one' : Try.prog.cellsOf 64 = 1 := by kernel_rfl
    simp [one] at e0
    simp [one] at e1
    simp [one] at e2
    simp [one] at e3
    simp [one] at e4
    simp [one] at e5
    simp [one, log_cells] at e6
    simp [one, one', log_cells] at e7 e8 e9
    obtain ⟨rfl, rfl, rfl, rfl⟩ := e6
    subst e0 e1 e2 e3 e4 e5 e7 e8 e9
    exact ⟨_, _, _, _, ⟨a0, a1, a2, a3, a4, a5, l, vs.map (·.d), a8, a9⟩, rfl, h1, h2, h3, vs, rfl, RdS.of g4 g3 g1 g2, g5⟩
theorem open_Replica_arg (hv : Value.okWide Try.prog w r b0 66 v) (h : DataW.Trod enc Try.prog w base spare held 66 v d p) : ∃ m : ReplicaD, R_Replica w w.heap.size v m := by
  obtain ⟨cs, rfl, hsz⟩ := okWide_struct Try.underlying66 hv
  obtain ⟨fuel, hf⟩ := h
  obtain ⟨u, s, t, q, m, hcs, h1, h2, h3, h4⟩ := open_replica hf
  obtain ⟨l⟩ := cs
  simp [Value.cells] at hcs
  subst hcs
  exact ⟨m, ⟨u, s, t, q, rfl, h1, h2, h3, h4⟩⟩
end
end Go.Proofs.Ytbfbdhjeoknjkaa
