/-
  A message as a law's argument, opened.
-/
import Derived.Test.YtbfbdhjeoknjkaaOpen
import Derived.Test.YtbfbdhjeoknjkaaMsg
namespace Go.Proofs.Ytbfbdhjeoknjkaa
open Go.ChangeShapes Go.WideShapes Go.ChangeAt Go.RowKit
open Go.Deep (open_slice)
set_option maxRecDepth 1000000
section
variable {H : Type} {enc : TypeId × Value → H} {w : World} {base b0 : Nat} {spare : Nat → Bool} {held : Bool} {r : Reach} {v : Value} {d : DataW H} {p : List MemPlace}
theorem msg_cells : Try.prog.cellsOf 32 = 17 := by kernel_rfl
theorem open_msg {fuel : Nat} {cs : List Value} {x : DataW H × List MemPlace} (h : DataW.trod enc Try.prog w base spare held fuel 32 cs = some x) :
    ∃ (u s t : Value) (m : MsgD), cs = [.int .i64 m.kind, .int .i64 m.frm, .int .i64 m.view, .int .i64 m.op, .int .i64 m.commit, .int .i64 m.normal, .int .i64 m.nonce, .int .i64 m.client, .int .i64 m.req, .int .i64 m.answer, .int .i64 m.cmd.kind, .int .i64 m.cmd.key, .int .i64 m.cmd.value, .int .i64 m.log.base, u, s, t] ∧ R_CellS w w.heap.size u m.log.image.cells ∧ R_SeatS w w.heap.size s m.log.image.seats ∧ R_EntryS w w.heap.size t m.log.entries := by
  obtain ⟨xs, n, _, _, hl, hlen, hf⟩ := DataW.trod_struct Try.underlying32 h
  rw [msg_cells] at hl
  have hs : ∀ j, j < 12 → (xs[j]?).isSome = true := fun j hj => by simp [hlen]; omega
  match cs, hl with
  | [c0, c1, c2, c3, c4, c5, c6, c7, c8, c9, c10, c11, c12, c13, c14, c15, c16], _ =>
    obtain ⟨a0, e0, -⟩ := int_at Try.underlying3 (hf 0 _ rfl) (hs 0 (by omega))
    obtain ⟨a1, e1, -⟩ := int_at Try.underlying3 (hf 1 _ rfl) (hs 1 (by omega))
    obtain ⟨a2, e2, -⟩ := int_at Try.underlying3 (hf 2 _ rfl) (hs 2 (by omega))
    obtain ⟨a3, e3, -⟩ := int_at Try.underlying3 (hf 3 _ rfl) (hs 3 (by omega))
    obtain ⟨a4, e4, -⟩ := int_at Try.underlying3 (hf 4 _ rfl) (hs 4 (by omega))
    obtain ⟨a5, e5, -⟩ := int_at Try.underlying3 (hf 5 _ rfl) (hs 5 (by omega))
    obtain ⟨a6, e6, -⟩ := int_at Try.underlying3 (hf 6 _ rfl) (hs 6 (by omega))
    obtain ⟨a7, e7, -⟩ := int_at Try.underlying3 (hf 7 _ rfl) (hs 7 (by omega))
    obtain ⟨a8, e8, -⟩ := int_at Try.underlying3 (hf 8 _ rfl) (hs 8 (by omega))
    obtain ⟨a9, e9, -⟩ := int_at Try.underlying3 (hf 9 _ rfl) (hs 9 (by omega))
    obtain ⟨y10, hy10⟩ := Option.isSome_iff_exists.1 (hs 10 (by omega))
    obtain ⟨y11, hy11⟩ := Option.isSome_iff_exists.1 (hs 11 (by omega))
    obtain ⟨k, x, y, e10, -, -, -⟩ := open_cmd ((hf 10 _ rfl).trans hy10)
    obtain ⟨u, s, t, l, e11, h1, h2, h3, -⟩ := open_log ((hf 11 _ rfl).trans hy11)
    have one : Try.prog.cellsOf 3 = 1 := by kernel_rfl
    simp [one] at e0
    simp [one] at e1
    simp [one] at e2
    simp [one] at e3
    simp [one] at e4
    simp [one] at e5
    simp [one] at e6
    simp [one] at e7
    simp [one] at e8
    simp [one] at e9
    simp [one, cmd_cells] at e10
    simp [one, cmd_cells, log_cells] at e11
    obtain ⟨rfl, rfl, rfl⟩ := e10
    obtain ⟨rfl, rfl, rfl, rfl⟩ := e11
    subst e0 e1 e2 e3 e4 e5 e6 e7 e8 e9
    exact ⟨_, _, _, ⟨a0, a1, a2, a3, a4, a5, a6, a7, a8, a9, ⟨k, x, y⟩, l⟩, rfl, h1, h2, h3⟩
theorem open_Msg_arg (hv : Value.okWide Try.prog w r b0 32 v) (h : DataW.Trod enc Try.prog w base spare held 32 v d p) : ∃ m : MsgD, R_Msg w w.heap.size v m := by
  obtain ⟨cs, rfl, hsz⟩ := okWide_struct Try.underlying32 hv
  obtain ⟨fuel, hf⟩ := h
  obtain ⟨u, s, t, m, hcs, h1, h2, h3⟩ := open_msg hf
  obtain ⟨l⟩ := cs
  simp [Value.cells] at hcs
  subst hcs
  exact ⟨m, ⟨u, s, t, rfl, h1, h2, h3⟩⟩
end
end Go.Proofs.Ytbfbdhjeoknjkaa
