/-
  Lists of the record Entry: copied, compared, marked, held.
-/
import Derived.Test.YtacbcnobenffdaaInts
import Derived.Test.YtacbcnobenffdaaSmall
import Derived.StillTailTactics
namespace Go.Proofs.Ytacbcnobenffdaa
open Go.RowKit

def eEntry (x : EntryD) : List Value := [.int .i64 x.client, .int .i64 x.req, .int .i64 x.cmd.kind, .int .i64 x.cmd.key, .int .i64 x.cmd.value]
theorem eEntry_len (x : EntryD) : (eEntry x).length = 5 := rfl
theorem oneCell_Entry (l : List EntryD) : ∀ u ∈ l.flatMap eEntry, u.oneCell' = true := by
  intro u hu
  obtain ⟨b, _, hb⟩ := List.mem_flatMap.1 hu
  simp only [eEntry, List.mem_cons, List.not_mem_nil, or_false] at hb
  rcases hb with rfl | rfl | rfl | rfl | rfl <;> rfl
theorem info_Entry : (Try.prog.info? 50).map (fun i => (i.zero, i.size, i.bytes)) = some (some (.agg #[.int .i64 0, .int .i64 0, .int .i64 0, .int .i64 0, .int .i64 0]), 5, 40) := by kernel_rfl
theorem Rd.Entry {w : World} {B n : Nat} {A : Option Addr} {l : List EntryD} (h : Rd w B 5 A n (l.flatMap eEntry)) (hn : l.length = n) {k : Nat} (hk : k < n) :
    ∃ b off x, A = some ⟨b, off, none⟩ ∧ b < B ∧ l[k]? = some x ∧ w.cell? ⟨b, off + k * 5, none⟩ = some (.int .i64 x.client) ∧ w.cell? ⟨b, off + k * 5 + 1, none⟩ = some (.int .i64 x.req) ∧ w.cell? ⟨b, off + k * 5 + 2, none⟩ = some (.int .i64 x.cmd.kind) ∧ w.cell? ⟨b, off + k * 5 + 3, none⟩ = some (.int .i64 x.cmd.key) ∧ w.cell? ⟨b, off + k * 5 + 4, none⟩ = some (.int .i64 x.cmd.value) := by
  obtain ⟨b, off, x, e, hb, hx, hc⟩ := h.elem eEntry_len hn hk
  exact ⟨b, off, x, e, hb, hx, by have := hc 0 (by omega); rw [← Nat.add_assoc] at this; simpa [eEntry] using this, by have := hc 1 (by omega); rw [← Nat.add_assoc] at this; simpa [eEntry] using this, by have := hc 2 (by omega); rw [← Nat.add_assoc] at this; simpa [eEntry] using this, by have := hc 3 (by omega); rw [← Nat.add_assoc] at this; simpa [eEntry] using this, by have := hc 4 (by omega); rw [← Nat.add_assoc] at this; simpa [eEntry] using this⟩




/-- The records from k on, as they are marked. -/
def marksEntry (k : Int) (n : Nat) : List EntryD := (List.range n).map fun i : Nat => ⟨k + 5 * (i : Int), k + 5 * (i : Int) + 1, ⟨k + 5 * (i : Int) + 1 + 1, k + 5 * (i : Int) + 1 + 1 + 1, k + 5 * (i : Int) + 1 + 1 + 1 + 1⟩⟩
theorem marksEntry_succ (k : Int) (n : Nat) : marksEntry k (n + 1) = marksEntry k n ++ [(fun i : Nat => (⟨k + 5 * (i : Int), k + 5 * (i : Int) + 1, ⟨k + 5 * (i : Int) + 1 + 1, k + 5 * (i : Int) + 1 + 1 + 1, k + 5 * (i : Int) + 1 + 1 + 1 + 1⟩⟩ : EntryD)) n] := by simp [marksEntry, List.range_succ]
theorem marksEntry_length (k : Int) (n : Nat) : (marksEntry k n).length = n := by simp [marksEntry]


/-! ### the same, for whole values -/

def R_EntryS (w : World) (B : Nat) (v : Value) (l : List EntryD) : Prop := RdS w B 5 eEntry v l
def O_EntryS (w : World) (lo hi : Nat) (v : Value) (l : List EntryD) : Prop := OwnS w lo hi 50 5 eEntry v l
def MK_EntryS (k : Int) (l : List EntryD) : List EntryD := marksEntry k l.length
def NK_EntryS (l : List EntryD) : Nat := 5 * l.length
theorem R_EntryS.keep {w w' : World} {B : Nat} {v : Value} {l : List EntryD} (h : R_EntryS w B v l) (hk : ∀ k, k < B → w'.heap[k]? = w.heap[k]?) : R_EntryS w' B v l := RdS.keep h hk
theorem O_EntryS.keep {w w' : World} {lo hi : Nat} {v : Value} {l : List EntryD} (h : O_EntryS w lo hi v l) (hk : ∀ k, lo ≤ k → k < hi → w'.heap[k]? = w.heap[k]?) : O_EntryS w' lo hi v l := OwnS.keep h hk
theorem O_EntryS.rd {w : World} {lo hi : Nat} {v : Value} {l : List EntryD} (h : O_EntryS w lo hi v l) : R_EntryS w hi v l := OwnS.rd h
theorem O_EntryS.wide {w : World} {lo hi lo' hi' : Nat} {v : Value} {l : List EntryD} (h : O_EntryS w lo hi v l) (h1 : lo' ≤ lo) (h2 : hi ≤ hi') : O_EntryS w lo' hi' v l := OwnS.wide h h1 h2
theorem R_EntryS.more {w : World} {B B' : Nat} {v : Value} {l : List EntryD} (h : R_EntryS w B v l) (hB : B ≤ B') : R_EntryS w B' v l := RdS.more h hB
theorem R_EntryS.len {w : World} {B : Nat} {v : Value} {l : List EntryD} (h : R_EntryS w B v l) : l.length ≤ 9223372036854775807 := by
  obtain ⟨A, n, c, _, rfl, h1, h2, _⟩ := h
  unfold maxLen at h2
  omega
/-- What a write to one row leaves of a row of another element type. -/
theorem O_EntryS.apart {w w' : World} {lo hi lo' hi' : Nat} {v v' : Value} {l : List EntryD} {e : TypeId} {sz : Nat} {α : Type} {enc : α → List Value} {l' : List α} (h : O_EntryS w lo hi v l) (h' : OwnS w lo' hi' e sz enc v' l') (hne : 50 ≠ e) (hb : w.grownBy w' (blk v')) : O_EntryS w' lo hi v l := by
  obtain ⟨A, n, c, rfl, hl, ho⟩ := h
  obtain ⟨A', n', c', rfl, hl', ho'⟩ := h'
  exact ⟨A, n, c, rfl, hl, ho.apart ho' hne hb⟩


end Go.Proofs.Ytacbcnobenffdaa
