/-
  What a law's arguments read as, opened: an int, a list of bytes, a list of ints, a list of structs; and the end of every law's proof.
-/
import Derived.Test.YtbfbdhjeoknjkaaBase
import Derived.Test.YtbfbdhjeoknjkaaRows
import Derived.ProofKit
import Derived.Deep.RegionHeld3
import Derived.OpenShut
import Derived.ShutString
import Derived.ChangeOld
import Derived.Deep.Slices
import Derived.Test.YtbfbdhjeoknjkaaImage
import Derived.Test.YtbfbdhjeoknjkaaEntries
import Derived.Test.YtbfbdhjeoknjkaaLog
namespace Go.Proofs.Ytbfbdhjeoknjkaa
open Go.ChangeShapes Go.WideShapes Go.ChangeAt Go.RowKit
open Go.Deep (open_slice)
set_option maxRecDepth 1000000

theorem own : ownKnob Try.prog.godebug = none := by kernel_rfl
theorem laidOut : laidOutB Try.prog = true := by kernel_rfl

/-- An int that fits. -/
def Fits (n : Int) : Prop := -9223372036854775808 ≤ n ∧ n ≤ 9223372036854775807
section
variable {H : Type} {enc : TypeId × Value → H} {P : Program} {w : World} {base : Nat} {spare : Nat → Bool} {held : Bool}

theorem wf_i64 {n : Int} (h : (Lit.int .i64 n).wf = true) : -9223372036854775808 ≤ n ∧ n ≤ 9223372036854775807 := by
  simpa [Lit.wf, IntKind.min, IntKind.max, IntKind.signed, IntKind.bits] using h
theorem wf_u8 {n : Int} (h : (Lit.int .u8 n).wf = true) : 0 ≤ n ∧ n ≤ 255 := by
  simpa [Lit.wf, IntKind.min, IntKind.max, IntKind.signed, IntKind.bits] using h

/-- A slice whose elements read as 'el a', 'a' good. -/
theorem open_rows {α : Type} {el : α → List Value} {Good : α → Prop} {sz : Nat} (h0 : 0 < sz) {t e : TypeId} {fuel : Nat} {cs : List Value} {x : DataW H × List MemPlace} (hc : P.cellsOf e = sz)
    (hel : ∀ fuel cs x, DataW.trod enc P w base spare held fuel e cs = some x → ∃ a, cs = el a ∧ Good a) (hlen : ∀ a, (el a).length = sz)
    (ht : P.underlying t = some (.slice e)) (h : DataW.trod enc P w base spare held fuel t cs = some x) :
    ∃ (A : Option Addr) (n c : Nat) (l : List α), cs = [.slice A n c] ∧ n ≤ c ∧ c ≤ maxLen ∧ l.length = n ∧ Rd w w.heap.size sz A n (l.flatMap el) ∧ ∀ a ∈ l, Good a := by
  rcases open_slice ht h with ⟨rfl, _⟩ | ⟨a, len, cap, m, n, D, Pl, rfl, _, hl, hm, hmm, _, hi⟩
  · exact ⟨none, 0, 0, [], rfl, Nat.le_refl _, by unfold maxLen; omega, rfl, by simpa using Rd.nil, by simp⟩
  · rw [hc] at hi
    have hmn : len ≤ m := by rw [hmm]; split <;> omega
    have hex : ∀ i, i < len → ∃ b, (∀ j, j < sz → w.cell? (a.add (i * sz + j)) = (el b)[j]?) ∧ Good b := by
      intro i hlt
      obtain ⟨cs', hcs, ht'⟩ := hi i (by omega)
      obtain ⟨_, hl', hat⟩ := World.cells?_some hcs
      obtain ⟨b, rfl, hg⟩ := hel _ _ _ ht'
      refine ⟨b, fun j hj => ?_, hg⟩
      rw [← hat j hj, ← Go.Deep.add_add]
    -- the elements, one by one
    have hl2 : ∀ k, k ≤ len → ∃ l : List α, l.length = k ∧ (∀ i b, l[i]? = some b → ∀ j, j < sz → w.cell? (a.add (i * sz + j)) = (el b)[j]?) ∧ ∀ b ∈ l, Good b := by
      intro k
      induction k with
      | zero => exact fun _ => ⟨[], rfl, by simp, by simp⟩
      | succ k ih =>
        intro hk
        obtain ⟨l, h1, h2, h3⟩ := ih (by omega)
        obtain ⟨b, hb, hg⟩ := hex k (by omega)
        refine ⟨l ++ [b], by simp [h1], fun i b' hb' => ?_, fun b' hb' => ?_⟩
        · rcases Nat.lt_or_ge i l.length with hlt | hge
          · rw [List.getElem?_append_left hlt] at hb'
            exact h2 i b' hb'
          · rw [List.getElem?_append_right hge] at hb'
            rcases Nat.eq_zero_or_pos (i - l.length) with he | he
            · rw [he] at hb'
              simp at hb'
              subst hb'
              obtain rfl : i = k := by omega
              exact hb
            · rw [List.getElem?_eq_none (by simp; omega)] at hb'
              cases hb'
        · rcases List.mem_append.1 hb' with hb' | hb'
          · exact h3 b' hb'
          · simp at hb'
            subst hb'
            exact hg
    obtain ⟨l, h1, h2, h3⟩ := hl2 len (Nat.le_refl _)
    refine ⟨some a, len, cap, l, rfl, hl, hm, h1, ⟨by rw [flat_length hlen, h1], fun hn => ?_⟩, h3⟩
    obtain ⟨b0, hb0⟩ := some_of_lt (l := l) (k := 0) (by omega)
    have hcell := h2 0 b0 hb0 0 h0
    have hl0 : 0 < (el b0).length := by rw [hlen]; exact h0
    rw [List.getElem?_eq_getElem hl0] at hcell
    have hspot : (a.add (0 * sz + 0)).spot = none := World.cell?_spot hcell
    obtain ⟨b, off, spot⟩ := a
    have hspot' : spot = none := by simpa [Addr.add] using hspot
    subst hspot'
    refine ⟨b, off, rfl, ?_, fun j hj => ?_⟩
    · have := World.block_lt_of_cell? _ _ hcell
      rwa [addr_add] at this
    · rw [flat_length hlen] at hj
      have hq : j / sz < l.length := Nat.div_lt_of_lt_mul (by rw [Nat.mul_comm]; exact hj)
      obtain ⟨y, hy⟩ := some_of_lt hq
      have hr := Nat.mod_lt j h0
      have := h2 _ y hy (j % sz) hr
      have he : j / sz * sz + j % sz = j := by rw [Nat.mul_comm]; exact Nat.div_add_mod j sz
      rw [he, addr_add] at this
      rw [this, ← flat_get hlen hy hr, he]

theorem open_i64 {t : TypeId} {fuel : Nat} {cs : List Value} {x : DataW H × List MemPlace} (ht : P.underlying t = some (.int .i64)) (h : DataW.trod enc P w base spare held fuel t cs = some x) :
    ∃ a : Int, cs = eI a ∧ (-9223372036854775808 ≤ a ∧ a ≤ 9223372036854775807) := by
  obtain ⟨n, rfl, _, hw⟩ := DataW.trod_int ht h
  exact ⟨n, rfl, wf_i64 hw⟩
theorem open_u8 {t : TypeId} {fuel : Nat} {cs : List Value} {x : DataW H × List MemPlace} (ht : P.underlying t = some (.int .u8)) (h : DataW.trod enc P w base spare held fuel t cs = some x) :
    ∃ a : UInt8, cs = eB a ∧ True := by
  obtain ⟨n, rfl, _, hw⟩ := DataW.trod_int ht h
  have := wf_u8 hw
  refine ⟨UInt8.ofNat n.toNat, ?_, trivial⟩
  simp only [eB, UInt8.toNat_ofNat']
  rw [show ((n.toNat % 2 ^ 8 : Nat) : Int) = n from by omega]
end

section
variable {H : Type} {enc : TypeId × Value → H} {w : World} {base b0 : Nat} {spare : Nat → Bool} {held : Bool} {r : Reach} {v : Value} {d : DataW H} {p : List MemPlace}

theorem open_int_arg (hv : Value.okWide Try.prog w r b0 3 v) (h : DataW.Trod enc Try.prog w base spare held 3 v d p) : ∃ a : Int, v = .int .i64 a ∧ Fits a := by
  obtain ⟨x, rfl, _, _, wx⟩ := open_int Try.underlying3 hv h
  exact ⟨x, rfl, wf_i64 wx⟩
theorem open_bytes_arg (hv : Value.okWide Try.prog w r b0 48 v) (h : DataW.Trod enc Try.prog w base spare held 48 v d p) :
    ∃ (A : Option Addr) (n c : Nat) (l : List UInt8), v = .slice A n c ∧ n ≤ 9223372036854775807 ∧ l.length = n ∧ Rd w w.heap.size 1 A n (l.flatMap eB) := by
  obtain ⟨a, len, cap, rfl⟩ := okWide_slice Try.underlying48 hv
  obtain ⟨fuel, hf⟩ := h
  obtain ⟨A, n, c, l, hcs, h1, h2, h3, h4, _⟩ := open_rows (sz := 1) (by omega) (by kernel_rfl) (fun _ _ _ => open_u8 Try.underlying5) eB_len Try.underlying48 hf
  simp [Value.cells] at hcs
  obtain ⟨rfl, rfl, rfl⟩ := hcs
  exact ⟨_, _, _, l, rfl, by unfold maxLen at h2; omega, h3, h4⟩
theorem int_at {t : TypeId} {fuel : Nat} {cs : List Value} {x : Option (DataW H × List MemPlace)} (ht : Try.prog.underlying t = some (.int .i64)) (h : DataW.trod enc Try.prog w base spare held fuel t cs = x) (hx : x.isSome = true) :
    ∃ n : Int, cs = [.int .i64 n] ∧ Fits n := by
  obtain ⟨y, rfl⟩ := Option.isSome_iff_exists.1 hx
  obtain ⟨a, rfl, ha⟩ := open_i64 ht h
  exact ⟨a, rfl, ha⟩
theorem open_ByteS_arg (hv : Value.okWide Try.prog w r b0 48 v) (h : DataW.Trod enc Try.prog w base spare held 48 v d p) : ∃ l : List UInt8, RdS w w.heap.size 1 eB v l := by
  obtain ⟨a, len, cap, rfl⟩ := okWide_slice Try.underlying48 hv
  obtain ⟨fuel, hf⟩ := h
  obtain ⟨A, n, c, l, hcs, h1, h2, h3, h4, _⟩ := open_rows (sz := 1) (by omega) (by kernel_rfl) (fun _ _ _ => open_u8 Try.underlying5) eB_len Try.underlying48 hf
  simp [Value.cells] at hcs
  obtain ⟨rfl, rfl, rfl⟩ := hcs
  exact ⟨l, RdS.of h4 h3 h1 h2⟩
theorem open_IntS_arg (hv : Value.okWide Try.prog w r b0 84 v) (h : DataW.Trod enc Try.prog w base spare held 84 v d p) : ∃ l : List Int, RdS w w.heap.size 1 eI v l ∧ ∀ x ∈ l, Fits x := by
  obtain ⟨a, len, cap, rfl⟩ := okWide_slice Try.underlying84 hv
  obtain ⟨fuel, hf⟩ := h
  obtain ⟨A, n, c, l, hcs, h1, h2, h3, h4, h5⟩ := open_rows (sz := 1) (by omega) (by kernel_rfl) (fun _ _ _ => open_i64 Try.underlying3) eI_len Try.underlying84 hf
  simp [Value.cells] at hcs
  obtain ⟨rfl, rfl, rfl⟩ := hcs
  exact ⟨l, RdS.of h4 h3 h1 h2, h5⟩
theorem cmd_cells : Try.prog.cellsOf 23 = 3 := by kernel_rfl
theorem open_cmd {fuel : Nat} {cs : List Value} {x : DataW H × List MemPlace} (h : DataW.trod enc Try.prog w base spare held fuel 23 cs = some x) :
    ∃ a b c : Int, cs = [.int .i64 a, .int .i64 b, .int .i64 c] ∧ Fits a ∧ Fits b ∧ Fits c := by
  obtain ⟨xs, n, _, _, hl, hlen, hf⟩ := DataW.trod_struct Try.underlying23 h
  rw [cmd_cells] at hl
  have hs : ∀ j, j < 3 → (xs[j]?).isSome = true := fun j hj => by simp [hlen]; omega
  match cs, hl with
  | [c0, c1, c2], _ =>
    obtain ⟨a, e0, ha⟩ := int_at Try.underlying3 (hf 0 _ rfl) (hs 0 (by omega))
    obtain ⟨b, e1, hb⟩ := int_at Try.underlying3 (hf 1 _ rfl) (hs 1 (by omega))
    obtain ⟨c, e2, hc⟩ := int_at Try.underlying3 (hf 2 _ rfl) (hs 2 (by omega))
    have one : Try.prog.cellsOf 3 = 1 := by kernel_rfl
    simp [one] at e0 e1 e2
    subst e0 e1 e2
    exact ⟨a, b, c, rfl, ha, hb, hc⟩
theorem open_cmd_arg (hv : Value.okWide Try.prog w r b0 23 v) (h : DataW.Trod enc Try.prog w base spare held 23 v d p) :
    ∃ a b c : Int, v = .agg #[.int .i64 a, .int .i64 b, .int .i64 c] ∧ Fits a ∧ Fits b ∧ Fits c := by
  obtain ⟨cs, rfl, hsz⟩ := okWide_struct Try.underlying23 hv
  obtain ⟨fuel, hf⟩ := h
  obtain ⟨a, b, c, hcs, h1, h2, h3⟩ := open_cmd hf
  obtain ⟨l⟩ := cs
  simp [Value.cells] at hcs
  subst hcs
  exact ⟨a, b, c, rfl, h1, h2, h3⟩
theorem entry_cells : Try.prog.cellsOf 133 = 5 := by kernel_rfl
theorem open_entry {fuel : Nat} {cs : List Value} {x : DataW H × List MemPlace} (h : DataW.trod enc Try.prog w base spare held fuel 133 cs = some x) :
    ∃ a b k x y : Int, cs = [.int .i64 a, .int .i64 b, .int .i64 k, .int .i64 x, .int .i64 y] ∧ Fits a ∧ Fits b ∧ Fits k ∧ Fits x ∧ Fits y := by
  obtain ⟨xs, n, _, _, hl, hlen, hf⟩ := DataW.trod_struct Try.underlying133 h
  rw [entry_cells] at hl
  have hs : ∀ j, j < 3 → (xs[j]?).isSome = true := fun j hj => by simp [hlen]; omega
  match cs, hl with
  | [c0, c1, c2, c3, c4], _ =>
    obtain ⟨a, e0, ha⟩ := int_at Try.underlying3 (hf 0 _ rfl) (hs 0 (by omega))
    obtain ⟨b, e1, hb⟩ := int_at Try.underlying3 (hf 1 _ rfl) (hs 1 (by omega))
    obtain ⟨y2, hy2⟩ := Option.isSome_iff_exists.1 (hs 2 (by omega))
    obtain ⟨k, x, y, e2, hk, hx, hy⟩ := open_cmd ((hf 2 _ rfl).trans hy2)
    have one : Try.prog.cellsOf 3 = 1 := by kernel_rfl
    simp [one, cmd_cells] at e0 e1 e2
    obtain ⟨rfl, rfl, rfl⟩ := e2
    subst e0 e1
    exact ⟨a, b, k, x, y, rfl, ha, hb, hk, hx, hy⟩
theorem open_entry_arg (hv : Value.okWide Try.prog w r b0 133 v) (h : DataW.Trod enc Try.prog w base spare held 133 v d p) :
    ∃ a b k x y : Int, v = .agg #[.int .i64 a, .int .i64 b, .int .i64 k, .int .i64 x, .int .i64 y] ∧ Fits a ∧ Fits b ∧ Fits k ∧ Fits x ∧ Fits y := by
  obtain ⟨cs, rfl, hsz⟩ := okWide_struct Try.underlying133 hv
  obtain ⟨fuel, hf⟩ := h
  obtain ⟨a, b, k, x, y, hcs, h1⟩ := open_entry hf
  obtain ⟨l⟩ := cs
  simp [Value.cells] at hcs
  subst hcs
  exact ⟨a, b, k, x, y, rfl, h1⟩
theorem cell_cells : Try.prog.cellsOf 155 = 2 := by kernel_rfl
theorem open_cell {fuel : Nat} {cs : List Value} {x : DataW H × List MemPlace} (h : DataW.trod enc Try.prog w base spare held fuel 155 cs = some x) :
    ∃ c : CellD, cs = eCell c ∧ (Fits c.key ∧ Fits c.value) := by
  obtain ⟨xs, n, _, _, hl, hlen, hf⟩ := DataW.trod_struct Try.underlying155 h
  rw [cell_cells] at hl
  have hs : ∀ j, j < 2 → (xs[j]?).isSome = true := fun j hj => by simp [hlen]; omega
  match cs, hl with
  | [c0, c1], _ =>
    obtain ⟨a, e0, ha⟩ := int_at Try.underlying3 (hf 0 _ rfl) (hs 0 (by omega))
    obtain ⟨b, e1, hb⟩ := int_at Try.underlying3 (hf 1 _ rfl) (hs 1 (by omega))
    have one : Try.prog.cellsOf 3 = 1 := by kernel_rfl
    simp [one] at e0 e1
    subst e0 e1
    exact ⟨⟨a, b⟩, rfl, ha, hb⟩
theorem seat_cells : Try.prog.cellsOf 157 = 3 := by kernel_rfl
theorem open_seat {fuel : Nat} {cs : List Value} {x : DataW H × List MemPlace} (h : DataW.trod enc Try.prog w base spare held fuel 157 cs = some x) :
    ∃ c : SeatD, cs = eSeat c ∧ (Fits c.client ∧ Fits c.req ∧ Fits c.answer) := by
  obtain ⟨xs, n, _, _, hl, hlen, hf⟩ := DataW.trod_struct Try.underlying157 h
  rw [seat_cells] at hl
  have hs : ∀ j, j < 3 → (xs[j]?).isSome = true := fun j hj => by simp [hlen]; omega
  match cs, hl with
  | [c0, c1, c2], _ =>
    obtain ⟨a, e0, ha⟩ := int_at Try.underlying3 (hf 0 _ rfl) (hs 0 (by omega))
    obtain ⟨b, e1, hb⟩ := int_at Try.underlying3 (hf 1 _ rfl) (hs 1 (by omega))
    obtain ⟨c, e2, hc⟩ := int_at Try.underlying3 (hf 2 _ rfl) (hs 2 (by omega))
    have one : Try.prog.cellsOf 3 = 1 := by kernel_rfl
    simp [one] at e0 e1 e2
    subst e0 e1 e2
    exact ⟨⟨a, b, c⟩, rfl, ha, hb, hc⟩
/-- The image's numbers fit. -/
def FitsI (m : ImageD) : Prop := (∀ c ∈ m.cells, Fits c.key ∧ Fits c.value) ∧ ∀ s ∈ m.seats, Fits s.client ∧ Fits s.req ∧ Fits s.answer
theorem image_cells : Try.prog.cellsOf 27 = 2 := by kernel_rfl
theorem open_image {fuel : Nat} {cs : List Value} {x : DataW H × List MemPlace} (h : DataW.trod enc Try.prog w base spare held fuel 27 cs = some x) :
    ∃ (u s : Value) (m : ImageD), cs = [u, s] ∧ R_CellS w w.heap.size u m.cells ∧ R_SeatS w w.heap.size s m.seats ∧ FitsI m := by
  obtain ⟨xs, n, _, _, hl, hlen, hf⟩ := DataW.trod_struct Try.underlying27 h
  rw [image_cells] at hl
  have hs : ∀ j, j < 2 → (xs[j]?).isSome = true := fun j hj => by simp [hlen]; omega
  match cs, hl with
  | [c0, c1], _ =>
    obtain ⟨y0, hy0⟩ := Option.isSome_iff_exists.1 (hs 0 (by omega))
    obtain ⟨y1, hy1⟩ := Option.isSome_iff_exists.1 (hs 1 (by omega))
    obtain ⟨A, n1, c, l1, e1, h1, h2, h3, h4, h5⟩ := open_rows (sz := 2) (by omega) cell_cells (fun _ _ _ => open_cell) eCell_len Try.underlying24 ((hf 0 _ rfl).trans hy0)
    obtain ⟨A', n2, c', l2, e2, h1', h2', h3', h4', h5'⟩ := open_rows (sz := 3) (by omega) seat_cells (fun _ _ _ => open_seat) eSeat_len Try.underlying25 ((hf 1 _ rfl).trans hy1)
    have one : Try.prog.cellsOf 24 = 1 := by kernel_rfl
    have one' : Try.prog.cellsOf 25 = 1 := by kernel_rfl
    simp [one] at e1
    simp [one'] at e2
    subst e1 e2
    exact ⟨_, _, ⟨l1, l2⟩, rfl, RdS.of h4 h3 h1 h2, RdS.of h4' h3' h1' h2', h5, h5'⟩
theorem open_Image_arg (hv : Value.okWide Try.prog w r b0 27 v) (h : DataW.Trod enc Try.prog w base spare held 27 v d p) : ∃ m : ImageD, R_Image w w.heap.size v m ∧ FitsI m := by
  obtain ⟨cs, rfl, hsz⟩ := okWide_struct Try.underlying27 hv
  obtain ⟨fuel, hf⟩ := h
  obtain ⟨u, s, m, hcs, h1, h2, h3⟩ := open_image hf
  obtain ⟨l⟩ := cs
  simp [Value.cells] at hcs
  subst hcs
  exact ⟨m, ⟨u, s, rfl, h1, h2⟩, h3⟩
def FitsE (e : EntryD) : Prop := Fits e.client ∧ Fits e.req ∧ Fits e.cmd.kind ∧ Fits e.cmd.key ∧ Fits e.cmd.value
theorem open_entryD {fuel : Nat} {cs : List Value} {x : DataW H × List MemPlace} (h : DataW.trod enc Try.prog w base spare held fuel 133 cs = some x) :
    ∃ c : EntryD, cs = eEntry c ∧ FitsE c := by
  obtain ⟨a, b, k, x, y, rfl, h1⟩ := open_entry h
  exact ⟨⟨a, b, ⟨k, x, y⟩⟩, rfl, h1⟩
theorem open_EntryS_arg (hv : Value.okWide Try.prog w r b0 28 v) (h : DataW.Trod enc Try.prog w base spare held 28 v d p) : ∃ l : List EntryD, R_EntryS w w.heap.size v l ∧ ∀ x ∈ l, FitsE x := by
  obtain ⟨a, len, cap, rfl⟩ := okWide_slice Try.underlying28 hv
  obtain ⟨fuel, hf⟩ := h
  obtain ⟨A, n, c, l, hcs, h1, h2, h3, h4, h5⟩ := open_rows (sz := 5) (by omega) entry_cells (fun _ _ _ => open_entryD) eEntry_len Try.underlying28 hf
  simp [Value.cells] at hcs
  obtain ⟨rfl, rfl, rfl⟩ := hcs
  exact ⟨l, RdS.of h4 h3 h1 h2, h5⟩
def FitsL (l : LogD) : Prop := Fits l.base ∧ FitsI l.image ∧ ∀ e ∈ l.entries, FitsE e
theorem log_cells : Try.prog.cellsOf 30 = 4 := by kernel_rfl
theorem open_log {fuel : Nat} {cs : List Value} {x : DataW H × List MemPlace} (h : DataW.trod enc Try.prog w base spare held fuel 30 cs = some x) :
    ∃ (u s t : Value) (l : LogD), cs = [.int .i64 l.base, u, s, t] ∧ R_CellS w w.heap.size u l.image.cells ∧ R_SeatS w w.heap.size s l.image.seats ∧ R_EntryS w w.heap.size t l.entries ∧ FitsL l := by
  obtain ⟨xs, n, _, _, hl, hlen, hf⟩ := DataW.trod_struct Try.underlying30 h
  rw [log_cells] at hl
  have hs : ∀ j, j < 3 → (xs[j]?).isSome = true := fun j hj => by simp [hlen]; omega
  match cs, hl with
  | [c0, c1, c2, c3], _ =>
    obtain ⟨a, e0, ha⟩ := int_at Try.underlying3 (hf 0 _ rfl) (hs 0 (by omega))
    obtain ⟨y1, hy1⟩ := Option.isSome_iff_exists.1 (hs 1 (by omega))
    obtain ⟨y2, hy2⟩ := Option.isSome_iff_exists.1 (hs 2 (by omega))
    obtain ⟨u, s, m, e1, h1, h2, h3⟩ := open_image ((hf 1 _ rfl).trans hy1)
    obtain ⟨A, n1, c, l1, e2, g1, g2, g3, g4, g5⟩ := open_rows (sz := 5) (by omega) entry_cells (fun _ _ _ => open_entryD) eEntry_len Try.underlying28 ((hf 2 _ rfl).trans hy2)
    have one : Try.prog.cellsOf 3 = 1 := by kernel_rfl
    have one' : Try.prog.cellsOf 28 = 1 := by kernel_rfl
    simp [one] at e0
    simp [one, image_cells] at e1
    simp [one, one', image_cells] at e2
    obtain ⟨rfl, rfl⟩ := e1
    subst e0 e2
    exact ⟨_, _, _, ⟨a, m, l1⟩, rfl, h1, h2, RdS.of g4 g3 g1 g2, ha, h3, g5⟩
theorem open_Log_arg (hv : Value.okWide Try.prog w r b0 30 v) (h : DataW.Trod enc Try.prog w base spare held 30 v d p) : ∃ l : LogD, R_Log w w.heap.size v l ∧ FitsL l := by
  obtain ⟨cs, rfl, hsz⟩ := okWide_struct Try.underlying30 hv
  obtain ⟨fuel, hf⟩ := h
  obtain ⟨u, s, t, l, hcs, h1, h2, h4, h3⟩ := open_log hf
  obtain ⟨ls⟩ := cs
  simp [Value.cells] at hcs
  subst hcs
  exact ⟨l, ⟨u, s, t, rfl, h1, h2, h4⟩, h3⟩
end
end Go.Proofs.Ytbfbdhjeoknjkaa
