/-
  Words on memory used by the walks of this seat: a slice that reads as a list of cells ('Rd'), a slice whose row the call made itself ('Own'), and how they are kept from world to world.
-/
import Derived.WalkKit
import Derived.ArgAppend
import Derived.Deep.Draws
import Derived.Deep.LoopGhost
import Derived.Lib.Hide
import Derived.Deep.QuietTactic
import Derived.BigQuiet
import Derived.Outline
namespace Go.Proofs.Ytbfbdhjeoknjkaa
open Go.RowKit

/-! ### a slice that is read -/

/-- The slice '.slice A n _' reads as the cells xs, 'sz' cells an element, in blocks below B. -/
def Rd (w : World) (B sz : Nat) (A : Option Addr) (n : Nat) (xs : List Value) : Prop :=
  xs.length = n * sz ∧ (0 < n → ∃ b off, A = some ⟨b, off, none⟩ ∧ b < B ∧ ∀ j, j < xs.length → w.cell? ⟨b, off + j, none⟩ = xs[j]?)

theorem addr_add (b off j : Nat) : (⟨b, off, none⟩ : Addr).add j = ⟨b, off + j, none⟩ := by
  unfold Addr.add
  split
  · rename_i h
    rw [h]
    rfl
  · rfl

section
variable {w w' : World} {B B' sz n : Nat} {A : Option Addr} {xs : List Value}

theorem Rd.nil : Rd w B sz A 0 [] := ⟨by simp, fun h => absurd h (by omega)⟩

theorem Rd.keep (h : Rd w B sz A n xs) (hk : ∀ p : Addr, p.block < B → w'.cell? p = w.cell? p) : Rd w' B sz A n xs :=
  ⟨h.1, fun hn => by
    obtain ⟨b, off, e, hb, hc⟩ := h.2 hn
    exact ⟨b, off, e, hb, fun j hj => (hk _ hb).trans (hc j hj)⟩⟩

theorem Rd.more (h : Rd w B sz A n xs) (hB : B ≤ B') : Rd w B' sz A n xs :=
  ⟨h.1, fun hn => by
    obtain ⟨b, off, e, hb, hc⟩ := h.2 hn
    exact ⟨b, off, e, by omega, hc⟩⟩

theorem Rd.below (h : Rd w B sz A n xs) {B2 : Nat} (hb : Below B2 w w') (hB : B ≤ B2) : Rd w' B sz A n xs :=
  h.keep fun p hp => hb.cell (by omega)

theorem Rd.at_ (h : Rd w B sz A n xs) (hn : 0 < n) : ∃ b off, A = some ⟨b, off, none⟩ ∧ b < B ∧ ∀ j, j < n * sz → w.cell? ⟨b, off + j, none⟩ = xs[j]? := by
  obtain ⟨b, off, e, hb, hc⟩ := h.2 hn
  exact ⟨b, off, e, hb, fun j hj => hc j (by rw [h.1]; exact hj)⟩

/-- The first m elements. -/
theorem Rd.take (h : Rd w B sz A n xs) {m : Nat} (hm : m ≤ n) : Rd w B sz A m (xs.take (m * sz)) := by
  have hl : m * sz ≤ n * sz := Nat.mul_le_mul_right _ hm
  refine ⟨by rw [List.length_take, h.1]; omega, fun hn => ?_⟩
  obtain ⟨b, off, e, hb, hc⟩ := h.2 (by omega)
  refine ⟨b, off, e, hb, fun j hj => ?_⟩
  rw [List.length_take, h.1] at hj
  rw [hc j (by rw [h.1]; omega), List.getElem?_take, if_pos (by omega)]

/-- What lies behind the first k elements; the address is the model's. -/
theorem Rd.cut (h : Rd w B sz A n xs) {k cap : Nat} (hk : k ≤ n) (hc : n ≤ cap) :
    Rd w B sz (if cap = k then A else A.map (·.add (k * sz))) (n - k) (xs.drop (k * sz)) := by
  refine ⟨by rw [List.length_drop, h.1, Nat.sub_mul], fun hn => ?_⟩
  obtain ⟨b, off, rfl, hb, hcell⟩ := h.2 (by omega)
  rw [if_neg (by omega)]
  refine ⟨b, off + k * sz, by simp [addr_add], hb, fun j hj => ?_⟩
  rw [List.length_drop] at hj
  rw [show off + k * sz + j = off + (k * sz + j) from by omega, hcell _ (by omega), List.getElem?_drop]
end

/-! ### a slice that the call made -/

/-- Which block a write through the slice may touch. -/
def blk : Value → Option Nat
  | .slice (some a) _ cap => if cap = 0 then none else some a.block
  | _ => none

theorem blk_row {g n cap : Nat} (h : 0 < cap) : blk (.slice (some ⟨g, 0, none⟩) n cap) = some g := by
  simp only [blk]
  rw [if_neg (by omega)]

/-- The slice value v has n elements, the cells xs, in a row of its own in a block from lo on and below hi; or it is empty without room. -/
def Own (w : World) (lo hi : Nat) (e : TypeId) (sz : Nat) (v : Value) (n : Nat) (xs : List Value) : Prop :=
  xs.length = n * sz ∧
  ((n = 0 ∧ ∃ A, v = .slice A 0 0) ∨
   ∃ g cap cur, v = .slice (some ⟨g, 0, none⟩) n cap ∧ lo ≤ g ∧ g < hi ∧ w.heap[g]? = some (.cells cur e (0, 0)) ∧ n ≤ cap ∧ cap ≤ maxLen ∧ cur.size = cap * sz ∧ cur.toList.take (n * sz) = xs)

section
variable {w w' : World} {lo hi sz n : Nat} {e : TypeId} {v : Value} {xs : List Value}

theorem Own.nil (w : World) (lo hi : Nat) (e : TypeId) (sz : Nat) (A : Option Addr) : Own w lo hi e sz (.slice A 0 0) 0 [] := ⟨by simp, .inl ⟨rfl, A, rfl⟩⟩

theorem Own.wide (h : Own w lo hi e sz v n xs) {lo' hi' : Nat} (h1 : lo' ≤ lo) (h2 : hi ≤ hi') : Own w lo' hi' e sz v n xs := by
  refine ⟨h.1, ?_⟩
  rcases h.2 with h' | ⟨g, cap, cur, h3, h4, h5, h6⟩
  · exact .inl h'
  · exact .inr ⟨g, cap, cur, h3, by omega, by omega, h6⟩

theorem Own.keep (h : Own w lo hi e sz v n xs) (hk : ∀ k, lo ≤ k → k < hi → w'.heap[k]? = w.heap[k]?) : Own w' lo hi e sz v n xs := by
  refine ⟨h.1, ?_⟩
  rcases h.2 with h' | ⟨g, cap, cur, h3, h4, h5, h6, h7⟩
  · exact .inl h'
  · exact .inr ⟨g, cap, cur, h3, h4, h5, (hk g h4 h5).trans h6, h7⟩

theorem Own.below (h : Own w lo hi e sz v n xs) {B : Nat} (hb : Below B w w') (hB : hi ≤ B) : Own w' lo hi e sz v n xs :=
  h.keep fun k _ hk => hb.block k (by omega)

theorem Own.form (h : Own w lo hi e sz v n xs) : ∃ A cap, v = .slice A n cap ∧ n ≤ cap ∧ cap ≤ maxLen ∧ Rd w hi sz A n xs := by
  rcases h.2 with ⟨rfl, A, rfl⟩ | ⟨g, cap, cur, rfl, h4, h5, h6, h7, h8, h9, rfl⟩
  · exact ⟨A, 0, rfl, Nat.le_refl _, by unfold maxLen; omega, h.1, fun h => absurd h (by omega)⟩
  · refine ⟨_, cap, rfl, h7, h8, h.1, fun _ => ⟨g, 0, rfl, h5, fun j hj => ?_⟩⟩
    rw [h.1] at hj
    rw [cell_of_row w g _ cur e (0, 0) h6, List.getElem?_take, if_pos hj, Nat.zero_add]
    simp

theorem Own.rd {A : Option Addr} {cap m : Nat} (h : Own w lo hi e sz (.slice A m cap) n xs) : m = n ∧ n ≤ cap ∧ cap ≤ maxLen ∧ Rd w hi sz A n xs := by
  obtain ⟨A', cap', hv, h1, h2, h3⟩ := h.form
  injection hv with e1 e2 e3
  subst e1 e2 e3
  exact ⟨rfl, h1, h2, h3⟩

/-- A slice with elements: its row. -/
theorem Own.row (h : Own w lo hi e sz v n xs) (hn : 0 < n) : ∃ g cap, v = .slice (some ⟨g, 0, none⟩) n cap ∧ lo ≤ g ∧ g < hi ∧ n ≤ cap ∧ cap ≤ maxLen ∧
    (∀ j, j < n * sz → w.cell? ⟨g, j, none⟩ = xs[j]?) ∧ (∀ j, w.frozen? ⟨g, j, none⟩ = false) := by
  rcases h.2 with ⟨rfl, A, rfl⟩ | ⟨g, cap, cur, rfl, h4, h5, h6, h7, h8, h9, rfl⟩
  · omega
  · refine ⟨g, cap, rfl, h4, h5, h7, h8, fun j hj => ?_, fun j => frozen_of_row w g j cur e h6⟩
    rw [cell_of_row w g _ cur e (0, 0) h6, List.getElem?_take, if_pos hj]
    simp

/-- The first m elements of it. -/
theorem Own.take (h : Own w lo hi e sz v n xs) {m : Nat} (hm : m ≤ n) : ∃ A cap, v = .slice A n cap ∧ Own w lo hi e sz (.slice A m cap) m (xs.take (m * sz)) := by
  have hl : m * sz ≤ n * sz := Nat.mul_le_mul_right _ hm
  rcases h.2 with ⟨rfl, A, rfl⟩ | ⟨g, cap, cur, rfl, h4, h5, h6, h7, h8, h9, rfl⟩
  · obtain rfl : m = 0 := by omega
    exact ⟨A, 0, rfl, by simp, .inl ⟨rfl, A, rfl⟩⟩
  · refine ⟨_, cap, rfl, by rw [List.length_take, h.1]; omega, .inr ⟨g, cap, cur, rfl, h4, h5, h6, by omega, h8, h9, ?_⟩⟩
    rw [List.take_take, Nat.min_eq_left hl]

/-- Rows of different element types lie in different blocks. -/
theorem Own.apart (h : Own w lo hi e sz v n xs) {lo' hi' sz' n' : Nat} {e' : TypeId} {v' : Value} {xs' : List Value} (h' : Own w lo' hi' e' sz' v' n' xs') (hne : e ≠ e') (hb : w.grownBy w' (blk v')) : Own w' lo hi e sz v n xs := by
  refine ⟨h.1, ?_⟩
  rcases h.2 with h1 | ⟨g, cap, cur, h3, h4, h5, h6, h7⟩
  · exact .inl h1
  · refine .inr ⟨g, cap, cur, h3, h4, h5, (hb.block g (Array.getElem?_eq_some_iff.1 h6).1 ?_).trans h6, h7⟩
    intro hg
    rcases h'.2 with ⟨_, A, rfl⟩ | ⟨g', cap', cur', rfl, _, _, h6', _⟩
    · cases A <;> simp [blk] at hg
    · simp only [blk] at hg
      split at hg
      · cases hg
      · injection hg with hg
        subst hg
        rw [h6] at h6'
        injection h6' with h6'
        injection h6' with _ ht
        exact hne ht

/-- What a write to the row of v' leaves of a row in other blocks. -/
theorem Own.other (h : Own w lo hi e sz v n xs) {row : Option Nat} (hb : w.grownBy w' row) (hr : ∀ g, row = some g → g < lo ∨ hi ≤ g) : Own w' lo hi e sz v n xs := by
  refine ⟨h.1, ?_⟩
  rcases h.2 with h1 | ⟨g, cap, cur, h3, h4, h5, h6, h7⟩
  · exact .inl h1
  · refine .inr ⟨g, cap, cur, h3, h4, h5, (hb.block g (Array.getElem?_eq_some_iff.1 h6).1 ?_).trans h6, h7⟩
    intro hg
    have := hr g hg.symm
    omega

/-- One cell of the row is written. -/
theorem Own.set {g cap : Nat} (h : Own w lo hi e sz (.slice (some ⟨g, 0, none⟩) n cap) n xs) (hn : 0 < n) (j : Nat) (u : Value) :
    Own (w.setCell ⟨g, j, none⟩ u) lo hi e sz (.slice (some ⟨g, 0, none⟩) n cap) n (xs.set j u) := by
  refine ⟨by rw [List.length_set]; exact h.1, ?_⟩
  rcases h.2 with ⟨h1, _⟩ | ⟨g', cap', cur, h3, h4, h5, h6, h7, h8, h9, rfl⟩
  · omega
  · injection h3 with h3 _ h10
    injection h3 with h3
    injection h3 with h3
    subst h3 h10
    refine .inr ⟨g, cap, cur.setIfInBounds j u, rfl, h4, h5, heap_setCell_same w g j cur e u h6, h7, h8, by simpa using h9, ?_⟩
    rw [Array.toList_setIfInBounds, List.take_set]

/-- A place of the row: it holds something and may be written. -/
theorem Own.spot {g cap : Nat} (h : Own w lo hi e sz (.slice (some ⟨g, 0, none⟩) n cap) n xs) {j : Nat} (hj : j < n * sz) : (∃ u, w.cell? ⟨g, j, none⟩ = some u) ∧ w.frozen? ⟨g, j, none⟩ = false := by
  have hn : 0 < n := by
    rcases Nat.eq_zero_or_pos n with h0 | h0
    · subst h0; simp at hj
    · exact h0
  obtain ⟨g', cap', hv, _, _, _, _, hc, hf⟩ := h.row hn
  injection hv with hv
  injection hv with hv
  injection hv with hv
  subst hv
  have hl : j < xs.length := by rw [h.1]; exact hj
  exact ⟨⟨xs[j], by rw [hc j hj, List.getElem?_eq_getElem hl]⟩, hf j⟩

/-- The next cell of a row that is being filled. -/
theorem Own.put1 {g cap m : Nat} {ds rest : List Value} (h : Own w lo hi e sz (.slice (some ⟨g, 0, none⟩) n cap) n (ds ++ rest)) (hm : ds.length = m) (hj : m < n * sz) (u : Value) :
    ∃ rest', Own (w.setCell ⟨g, m, none⟩ u) lo hi e sz (.slice (some ⟨g, 0, none⟩) n cap) n ((ds ++ [u]) ++ rest') := by
  have hn : 0 < n := by
    rcases Nat.eq_zero_or_pos n with h0 | h0
    · subst h0; simp at hj
    · exact h0
  have h1 := h.set hn m u
  have hl := h.1
  rw [List.length_append] at hl
  cases rest with
  | nil => simp at hl; omega
  | cons r rest =>
    refine ⟨rest, ?_⟩
    rw [List.set_append_right _ _ (by omega), hm, Nat.sub_self, List.set_cons_zero] at h1
    simpa using h1

theorem Own.lt (h : Own w lo hi e sz v n xs) : ∀ g, blk v = some g → lo ≤ g ∧ g < hi := by
  intro g hg
  rcases h.2 with ⟨rfl, A, rfl⟩ | ⟨g', cap', cur, rfl, h4, h5, _⟩
  · cases A <;> simp [blk] at hg
  · simp only [blk] at hg
    split at hg
    · cases hg
    · injection hg with hg
      subst hg
      exact ⟨h4, h5⟩
end

/-- 'grownBy' at a row of the call's own is 'Below'. -/
theorem below_grown {lo : Nat} {w w' : World} {row : Option Nat} (hg : w.grownBy w' row) (hlo : lo ≤ w.heap.size) (hr : ∀ g, row = some g → lo ≤ g) : Below lo w w' :=
  (Below.refl lo w).grown hg hlo hr

theorem grownBy_trans {a b c : World} {row : Option Nat} (h : a.grownBy b row) (k : b.grownBy c row) : a.grownBy c row :=
  ⟨k.os.trans h.os, k.tape.trans h.tape, k.output.trans h.output, Nat.le_trans h.size k.size, fun i hi hn => (k.block i (Nat.lt_of_lt_of_le hi h.size) hn).trans (h.block i hi hn)⟩

theorem grownBy_below {a b : World} (h : Below a.heap.size a b) (row : Option Nat) : a.grownBy b row := ⟨h.os, h.tape, h.output, h.size, fun i hi _ => h.block i hi⟩

theorem grownBy_setCell {w : World} {row : Option Nat} (g j : Nat) (u : Value) (h : row = some g) : w.grownBy (w.setCell ⟨g, j, none⟩ u) row :=
  ⟨rfl, rfl, rfl, by simp [World.setCell], fun k _ hk => Below.heap_setCell _ _ _ _ (fun e => hk (by rw [h, e]))⟩

/-! ### frames of calls that write in given memory -/

/-- Outside the blocks from lo to hi nothing that was there has turned. -/
structure Fr (lo hi : Nat) (w w' : World) : Prop where
  os : w'.os = w.os
  tape : w'.tape = w.tape
  output : w'.output = w.output
  size : w.heap.size ≤ w'.heap.size
  block : ∀ k, k < w.heap.size → (k < lo ∨ hi ≤ k) → w'.heap[k]? = w.heap[k]?

theorem Fr.below {lo hi B : Nat} {w w' : World} (h : Fr lo hi w w') (hB : B ≤ lo) (hs : B ≤ w.heap.size) : Below B w w' :=
  ⟨h.os, h.tape, h.output, h.size, fun k hk => h.block k (by omega) (.inl (by omega))⟩
theorem Fr.of_grown {lo hi : Nat} {w w' : World} {row : Option Nat} (h : w.grownBy w' row) (hr : ∀ g, row = some g → lo ≤ g ∧ g < hi) : Fr lo hi w w' :=
  ⟨h.os, h.tape, h.output, h.size, fun k hk hout => h.block k hk (fun e => by have := hr k e.symm; omega)⟩
theorem Fr.trans {lo hi : Nat} {a b c : World} (h : Fr lo hi a b) (k : Fr lo hi b c) : Fr lo hi a c :=
  ⟨k.os.trans h.os, k.tape.trans h.tape, k.output.trans h.output, Nat.le_trans h.size k.size, fun i hi hn => (k.block i (Nat.lt_of_lt_of_le hi h.size) hn).trans (h.block i hi hn)⟩
theorem Fr.of_below {lo hi : Nat} {a b : World} (h : Below a.heap.size a b) : Fr lo hi a b := ⟨h.os, h.tape, h.output, h.size, fun i hi _ => h.block i hi⟩

theorem Own.fr {w w' : World} {lo hi sz n : Nat} {e : TypeId} {v : Value} {xs : List Value} (h : Own w lo hi e sz v n xs) {l h' : Nat} (hf : Fr l h' w w') (ho : hi ≤ l ∨ h' ≤ lo) : Own w' lo hi e sz v n xs := by
  refine ⟨h.1, ?_⟩
  rcases h.2 with h1 | ⟨g, cap, cur, h3, h4, h5, h6, h7⟩
  · exact .inl h1
  · exact .inr ⟨g, cap, cur, h3, h4, h5, (hf.block g (Array.getElem?_eq_some_iff.1 h6).1 (by omega)).trans h6, h7⟩

theorem Rd.fr {w w' : World} {B sz n : Nat} {A : Option Addr} {xs : List Value} (h : Rd w B sz A n xs) {l h' : Nat} (hf : Fr l h' w w') (hB : B ≤ l) (hs : B ≤ w.heap.size) : Rd w' B sz A n xs :=
  h.below (hf.below hB hs) (Nat.le_refl _)

/-! ### make -/

theorem own_made (w : World) (cs : Array Value) (n : Nat) (e : TypeId) (sz : Nat) (hm : n ≤ maxLen) (hs : cs.size = n * sz) :
    Own (w.alloc (.cells cs e)) w.heap.size (w.heap.size + 1) e sz (.slice (some ⟨w.heap.size, 0, none⟩) n n) n cs.toList :=
  ⟨by simpa using hs, .inr ⟨w.heap.size, n, cs, rfl, Nat.le_refl _, by omega, heap_alloc_new w _, Nat.le_refl _, hm, hs, List.take_of_length_le (by simp [hs])⟩⟩

/-- A row as make lays it, to be filled. -/
theorem own_start (w : World) (cs : Array Value) (n : Nat) (e : TypeId) (sz : Nat) (hm : n ≤ maxLen) (hs : cs.size = n * sz) :
    ∃ rest, Own (w.alloc (.cells cs e)) w.heap.size (w.heap.size + 1) e sz (.slice (some ⟨w.heap.size, 0, none⟩) n n) n ([] ++ rest) :=
  ⟨_, own_made w cs n e sz hm hs⟩
/-- A row that is filled. -/
theorem Own.full {w : World} {lo hi sz n : Nat} {e : TypeId} {v : Value} {ds rest : List Value} (h : Own w lo hi e sz v n (ds ++ rest)) (hd : ds.length = n * sz) : Own w lo hi e sz v n ds := by
  have hl := h.1
  rw [List.length_append, hd] at hl
  have : rest = [] := List.eq_nil_of_length_eq_zero (by omega)
  subst this
  simpa using h

theorem run_make_rows {P : Program} (t e : TypeId) (i : TypeInfo) (z : Value) (ht : P.underlying t = some (.slice e)) (hi : P.info? e = some i) (hz : i.zero = some z)
    (kl kc : IntKind) (n : Nat) (hbytes : i.bytes * n ≤ 281474976710656) (h63 : n ≤ 9223372036854775807) (w : World) :
    (Instr.makeSlice t (.int kl (n : Int)) (.int kc (n : Int))).run P w = .ok (.slice (some ⟨w.heap.size, 0, none⟩) n n) (w.alloc (.cells (madeCells z.cells (n * i.size)) e)) := by
  have hb : (i.bytes : Int) * (n : Int) ≤ 281474976710656 := by
    have h : ((i.bytes * n : Nat) : Int) ≤ 281474976710656 := by omega
    rwa [Int.natCast_mul] at h
  have hr := run_make (P := P) w t e i z ht hi hz kl kc n n (by omega) (by omega) hb (by omega)
  simp only [Int.toNat_natCast] at hr
  exact hr

/-! ### append -/

/-- The one element that an append lays first. -/
theorem rd_one (w : World) (e : TypeId) (u : Value) : Rd (w.alloc (.cells #[u] e)) (w.heap.size + 1) 1 (some ⟨w.heap.size, 0, none⟩) 1 [u] := by
  refine ⟨rfl, fun _ => ⟨w.heap.size, 0, rfl, by omega, fun j hj => ?_⟩⟩
  have : j = 0 := by simp at hj; omega
  subst this
  simp

section
variable {P : Program} (w : World)

theorem own_of_ownsRow {w : World} {base : Nat} {e : TypeId} {sz : Nat} {v : Value} {n : Nat} {xs : List Value} (h : w.ownsRow base e sz v n xs) : Own w base w.heap.size e sz v n xs := by
  refine ⟨h.1, ?_⟩
  rcases h.2 with ⟨rfl, rfl⟩ | ⟨g, cap, cur, h1, h2, h3, h4⟩
  · exact .inl ⟨rfl, none, rfl⟩
  · exact .inr ⟨g, cap, cur, h1, h2, (Array.getElem?_eq_some_iff.1 h3).1, h3, h4⟩

theorem run_app (t ty e : TypeId) (i : TypeInfo) (z : Value) (sz bytes : Nat) (ht : P.underlying t = some (.slice e)) (hi : P.info? e = some i) (hz : i.zero = some z)
    (hsize : i.size = sz) (hby : i.bytes = bytes) (hzs : z.cells.size = sz) (hsz : 0 < sz)
    (lo hib : Nat) (v : Value) (n : Nat) (xs : List Value) (hown : Own w lo hib e sz v n xs) (hlo : lo ≤ w.heap.size) (hhi : hib ≤ w.heap.size)
    (B : Nat) (A : Option Addr) (m c : Nat) (news : List Value) (hr : Rd w B sz A m news) (h1 : ∀ u ∈ news, u.oneCell' = true)
    (h63 : n + m ≤ maxLen) (hbytes : (n + m) * bytes ≤ 140737488355328) :
    ∃ v' w', (Builtin.append_ #[t, t] ty #[v, .slice A m c]).run P w = .ok v' w' ∧ Own w' lo w'.heap.size e sz v' (n + m) (xs ++ news) ∧ w.grownBy w' (blk v) := by
  have hsmall : n + m ≤ 9223372036854775807 := by simp only [maxLen] at h63; omega
  by_cases hm : m = 0
  · subst hm
    have hn : news = [] := List.eq_nil_of_length_eq_zero (by simpa using hr.1)
    subst hn
    have hc : (Builtin.firstCells sz 0 (.slice A 0 c)).run P w = .ok #[] w := by cases A <;> simp [Builtin.firstCells, loadCells, loadCellsFrom]
    refine ⟨v, w, ?_, by simpa using hown.wide (Nat.le_refl _) hhi, World.grownBy.refl w _⟩
    obtain ⟨A', cap', rfl, hcap, _, _⟩ := hown.form
    cases A' <;> simp [Builtin.append_, run_underlying ht, sizeOf, typeInfo, hi, hsize, Builtin.lenOf, hc, hcap, storeCells]
  · obtain ⟨b, off, rfl, hb, hcell⟩ := hr.at_ (by omega)
    have hnews : ∀ j u, news[j]? = some u → w.cell? ((⟨b, off, none⟩ : Addr).add j) = some u := by
      intro j u hu
      have hj : j < news.length := by
        rcases Nat.lt_or_ge j news.length with h | h
        · exact h
        · rw [List.getElem?_eq_none h] at hu; cases hu
      rw [addr_add, hcell j (by rw [← hr.1]; exact hj), hu]
    rcases hown.2 with ⟨rfl, A', rfl⟩ | ⟨g, cap, cur, rfl, h4, h5, h6, h7, h8, h9, htake⟩
    · have hx : xs = [] := List.eq_nil_of_length_eq_zero (by simpa using hown.1)
      subst hx
      cases A' with
      | none =>
        obtain ⟨v', w', hrun, h2, h3, _⟩ := run_append_own (P := P) w lo t ty e i z sz bytes ht hi hz hsize hby hzs hsz (.slice none 0 0) 0 [] (World.ownsRow_nil w lo e sz) ⟨b, off, none⟩ m c news hr.1 hnews h1 h63 hbytes hlo
        exact ⟨v', w', hrun, own_of_ownsRow h2, h3⟩
      | some a' =>
        obtain ⟨v', w', hrun, h2, h3⟩ := run_append_arg_grows (P := P) w t ty e i z sz bytes ht hi hz hsize hby hzs hsz a' 0 0 [] (by simp) (by simp) ⟨b, off, none⟩ m c news hr.1 hnews (by omega) h63 hbytes
        refine ⟨v', w', hrun, (own_of_ownsRow h2).wide hlo (Nat.le_refl _), ?_⟩
        simpa [blk] using h3
    · obtain ⟨v', w', hrun, h2, h3, _⟩ := run_append_own (P := P) w lo t ty e i z sz bytes ht hi hz hsize hby hzs hsz (.slice (some ⟨g, 0, none⟩) n cap) n xs
        ⟨hown.1, .inr ⟨g, cap, cur, rfl, h4, h6, h7, h8, h9, htake⟩⟩ ⟨b, off, none⟩ m c news hr.1 hnews h1 h63 hbytes hlo
      refine ⟨v', w', hrun, own_of_ownsRow h2, ?_⟩
      by_cases hc0 : cap = 0
      · -- nothing lies in the row: the append lays a new block
        subst hc0
        obtain rfl : n = 0 := by omega
        have hx : xs = [] := List.eq_nil_of_length_eq_zero (by simpa using hown.1)
        subst hx
        obtain ⟨v2, w2, hrun2, _, h32⟩ := run_append_arg_grows (P := P) w t ty e i z sz bytes ht hi hz hsize hby hzs hsz ⟨g, 0, none⟩ 0 0 [] (by simp) (by simp) ⟨b, off, none⟩ m c news hr.1 hnews (by omega) h63 hbytes
        rw [hrun] at hrun2
        injection hrun2 with _ hw
        subst hw
        simpa [blk] using h32
      · simpa [blk, hc0, Value.ownBlock] using h3

theorem wpList_app {ops : Array Oper} {rest : List Oper} {o : Oper} {a : Act} {Q : Exit → Act → World → Prop} (hgd : o.guard = none) (s x : Operand) (t : TypeId)
    (ho : o.op = .call { callee := .builtin .append, args := #[s, x], argTypes := #[t, t] })
    (e : TypeId) (i : TypeInfo) (z : Value) (sz bytes : Nat) (ht : P.underlying t = some (.slice e)) (hi : P.info? e = some i) (hz : i.zero = some z)
    (hsize : i.size = sz) (hby : i.bytes = bytes) (hzs : z.cells.size = sz) (hsz : 0 < sz)
    (lo hib : Nat) (v : Value) (n : Nat) (xs : List Value) (hs : a.eval s = v) (hown : Own w lo hib e sz v n xs) (hlo : lo ≤ w.heap.size) (hhi : hib ≤ w.heap.size)
    (B : Nat) (A : Option Addr) (m c : Nat) (news : List Value) (hx : a.eval x = .slice A m c) (hr : Rd w B sz A m news) (h1 : ∀ u ∈ news, u.oneCell' = true)
    (h63 : n + m ≤ maxLen) (hbytes : (n + m) * bytes ≤ 140737488355328)
    (h : ∀ A' c' w', Own w' lo w'.heap.size e sz (.slice A' (n + m) c') (n + m) (xs ++ news) → w.grownBy w' (blk v) → wpList P ops Q rest (a.put o.dst (.slice A' (n + m) c')) w') : wpList P ops Q (o :: rest) a w :=
  wpList_plain hgd fun _ hK => by
    obtain ⟨v', w', hrun, h2, h3⟩ := run_app (P := P) w t o.type e i z sz bytes ht hi hz hsize hby hzs hsz lo hib v n xs hown hlo hhi B A m c news hr h1 h63 hbytes
    obtain ⟨A', c', rfl, _⟩ := h2.form
    unfold Oper.wp execOp
    simp only [ho, resolve, invoke, builtin, Sem.run_bind, Sem.run_pure, Result.andThen_ok, List.map_toArray, List.map_cons, List.map_nil, hs, hx, hrun]
    exact hK _ _ (h A' c' w' h2 h3)
end
/-! ### nothing that was there has turned -/

def Ext (w w' : World) : Prop := Below w.heap.size w w'
section
variable {a b c w w' : World}
theorem Ext.refl (w : World) : Ext w w := Below.refl _ _
theorem Ext.trans (h : Ext a b) (k : Ext b c) : Ext a c := Below.trans h (k.mono h.size)
theorem Ext.alloc (h : Ext a b) (o : Obj) : Ext a (b.alloc o) := Below.alloc h h.size o
theorem Ext.drew (h : Ext a b) : Ext a b.drew := Below.drew h
theorem Ext.drewN (h : Ext a b) (n : Nat) : Ext a (b.drewN n) := ⟨h.os, h.tape, h.output, h.size, h.block⟩
theorem Ext.set (h : Ext a b) {g : Nat} (hg : a.heap.size ≤ g) (j : Nat) (u : Value) : Ext a (b.setCell ⟨g, j, none⟩ u) := Below.setCell h (p := ⟨g, j, none⟩) hg u
theorem Ext.cellAt (h : Ext a b) {g j : Nat} {v : Value} (hc : a.cell? ⟨g, j, none⟩ = some v) : b.cell? ⟨g, j, none⟩ = some v :=
  (Below.cell h (World.block_lt_of_cell? _ _ hc)).trans hc
theorem Ext.look (h : Ext a b) : (∀ k o, k < a.heap.size → b.cell? ⟨k, o, none⟩ = a.cell? ⟨k, o, none⟩) ∧ (∀ k o, k < a.heap.size → b.frozen? ⟨k, o, none⟩ = a.frozen? ⟨k, o, none⟩) ∧ a.heap.size ≤ b.heap.size :=
  ⟨fun k o hk => Below.cell h (p := ⟨k, o, none⟩) hk, fun k o hk => Below.frozen h (p := ⟨k, o, none⟩) hk, h.size⟩
theorem Ext.blockAt (h : Ext a b) {g : Nat} {o : Obj} (hc : a.heap[g]? = some o) : b.heap[g]? = some o :=
  (h.block g (Array.getElem?_eq_some_iff.1 hc).1).trans hc
theorem Ext.grown (h : Ext a b) {row : Option Nat} (hg : b.grownBy c row) (hr : ∀ g, row = some g → a.heap.size ≤ g) : Ext a c := Below.grown h hg h.size hr
theorem Ext.rd {B sz n : Nat} {A : Option Addr} {xs : List Value} (h : Ext a b) (hr : Rd a B sz A n xs) (hB : B ≤ a.heap.size) : Rd b B sz A n xs := hr.below h hB
theorem Ext.own {lo hi sz n : Nat} {e : TypeId} {v : Value} {xs : List Value} (h : Ext a b) (ho : Own a lo hi e sz v n xs) (hB : hi ≤ a.heap.size) : Own b lo hi e sz v n xs := ho.below h hB
end

theorem Ext.fr {a b c : World} (h : Ext a b) {lo hi : Nat} (hf : Fr lo hi b c) (hlo : a.heap.size ≤ lo) : Ext a c :=
  Below.trans h (hf.below (by omega) h.size)

/-- A callee that leaves the world alone, inside a region that draws. -/
theorem quietL {P : Program} {f : FuncId} {args : Array Value} {w : World} {n : Nat} {v : Value}
    (h : Calls P f args (w.drewN n) fun e w' => e = .returned v ∧ w.drewN n = w') : Calls P f args (w.drewN n) fun e w'' => e = .returned v ∧ ∃ m, w'' = w.drewN m :=
  h.mono fun _ _ hh => ⟨hh.1, n, hh.2.symm⟩

/-- Only draws were made. -/
def Still (w w' : World) : Prop := ∃ q, w' = w.drewN q
theorem Still.refl (w : World) : Still w w := ⟨0, rfl⟩
theorem Still.ext {w w' : World} (h : Still w w') : Ext w w' := by
  obtain ⟨q, rfl⟩ := h
  exact (Ext.refl w).drewN q
theorem Still.trans {a b c : World} (h : Still a b) (k : Still b c) : Still a c := by
  obtain ⟨q, rfl⟩ := h
  obtain ⟨r, rfl⟩ := k
  exact ⟨q + r, by rw [World.drewN_drewN]⟩
theorem Still.drewN {a b : World} (h : Still a b) (n : Nat) : Still a (b.drewN n) := h.trans ⟨n, rfl⟩
theorem Still.drew {a b : World} (h : Still a b) : Still a b.drew := h.trans ⟨1, rfl⟩
theorem Still.rd {w w' : World} (s : Still w w') {B sz n : Nat} {A : Option Addr} {xs : List Value} (h : Rd w B sz A n xs) : Rd w' B sz A n xs := by
  obtain ⟨q, rfl⟩ := s
  exact h
theorem Still.own {w w' : World} (s : Still w w') {lo hi sz n : Nat} {e : TypeId} {v : Value} {xs : List Value} (h : Own w lo hi e sz v n xs) : Own w' lo hi e sz v n xs := by
  obtain ⟨q, rfl⟩ := s
  exact h
theorem Still.look {w w' : World} (s : Still w w') : (∀ p, w'.cell? p = w.cell? p) ∧ (∀ p, w'.frozen? p = w.frozen? p) ∧ w'.heap.size = w.heap.size := by
  obtain ⟨q, rfl⟩ := s
  exact ⟨fun _ => rfl, fun _ => rfl, rfl⟩
theorem Rd.drewN {w : World} {B sz n : Nat} {A : Option Addr} {xs : List Value} (h : Rd w B sz A n xs) (q : Nat) : Rd (w.drewN q) B sz A n xs := h

/-- The blocks from lo on and below hi are as they were. -/
def Kp (lo hi : Nat) (a b : World) : Prop := ∀ k, lo ≤ k → k < hi → b.heap[k]? = a.heap[k]?
section
variable {lo hi : Nat} {a b c : World}
theorem Kp.refl (lo hi : Nat) (a : World) : Kp lo hi a a := fun _ _ _ => rfl
theorem Kp.alloc (h : Kp lo hi a b) (hb : hi ≤ b.heap.size) (o : Obj) : Kp lo hi a (b.alloc o) := fun k h1 h2 => (Below.heap_alloc b o k (by omega)).trans (h k h1 h2)
theorem Kp.set (h : Kp lo hi a b) {g : Nat} (hg : g < lo ∨ hi ≤ g) (j : Nat) (u : Value) : Kp lo hi a (b.setCell ⟨g, j, none⟩ u) := fun k h1 h2 => (Below.heap_setCell b ⟨g, j, none⟩ u k (by show k ≠ g; omega)).trans (h k h1 h2)
theorem Kp.ext (h : Kp lo hi a b) (hb : hi ≤ b.heap.size) (e : Ext b c) : Kp lo hi a c := fun k h1 h2 => (e.block k (by omega)).trans (h k h1 h2)
theorem Kp.fr {l r : Nat} (h : Kp lo hi a b) (hb : hi ≤ b.heap.size) (ho : hi ≤ l ∨ r ≤ lo) (e : Fr l r b c) : Kp lo hi a c := fun k h1 h2 => (e.block k (by omega) (by omega)).trans (h k h1 h2)
theorem Kp.drew (h : Kp lo hi a b) : Kp lo hi a b.drew := h
theorem Kp.drewN (h : Kp lo hi a b) (n : Nat) : Kp lo hi a (b.drewN n) := h
end

theorem new_box (w : World) (g : Nat) (cs : Array Value) (e : TypeId) (j : Nat) (v : Value) (hg : w.heap.size = g) (h : cs[j]? = some v) : (w.alloc (.cells cs e)).cell? ⟨g, j, none⟩ = some v := by
  subst hg
  rw [cell_of_row (w.alloc (.cells cs e)) w.heap.size j cs e (0, 0) (heap_alloc_new w _)]
  exact h
theorem Fr.cellAt {a b : World} {lo hi g j : Nat} {v : Value} (h : Fr lo hi a b) (hc : a.cell? ⟨g, j, none⟩ = some v) (ho : g < lo ∨ hi ≤ g) : b.cell? ⟨g, j, none⟩ = some v :=
  (World.cell?_of_block (h.block g (World.block_lt_of_cell? _ _ hc) ho)).trans hc

theorem ret_bool {a b : Bool} (h : a = b) : Ending.returned (.bool a) = .returned (.bool b) := by rw [h]
theorem ret_int {k : IntKind} {a b : Int} (h : a = b) : Ending.returned (.int k a) = .returned (.int k b) := by rw [h]

/-! ### rows of elements of several cells -/

section
variable {α : Type} {enc : α → List Value} {sz : Nat}

theorem flat_length (hsz : ∀ x, (enc x).length = sz) (l : List α) : (l.flatMap enc).length = l.length * sz := by
  induction l with
  | nil => simp
  | cons a l ih => rw [List.flatMap_cons, List.length_append, ih, hsz, List.length_cons, Nat.succ_mul, Nat.add_comm]

theorem flat_take (hsz : ∀ x, (enc x).length = sz) (l : List α) : ∀ k, (l.flatMap enc).take (k * sz) = (l.take k).flatMap enc := by
  induction l with
  | nil => simp
  | cons a l ih =>
    intro k
    cases k with
    | zero => simp
    | succ k =>
      rw [List.flatMap_cons, Nat.succ_mul, List.take_succ_cons, List.flatMap_cons, List.take_append, hsz]
      rw [show k * sz + sz - sz = k * sz from by omega, ih, List.take_of_length_le (by rw [hsz]; omega)]

theorem flat_drop (hsz : ∀ x, (enc x).length = sz) (l : List α) : ∀ k, (l.flatMap enc).drop (k * sz) = (l.drop k).flatMap enc := by
  induction l with
  | nil => simp
  | cons a l ih =>
    intro k
    cases k with
    | zero => simp
    | succ k =>
      rw [List.flatMap_cons, Nat.succ_mul, List.drop_succ_cons, List.drop_append, hsz]
      rw [show k * sz + sz - sz = k * sz from by omega, ih, List.drop_of_length_le (by rw [hsz]; omega), List.nil_append]

theorem flat_get (hsz : ∀ x, (enc x).length = sz) {l : List α} {k j : Nat} {x : α} (hx : l[k]? = some x) (hj : j < sz) : (l.flatMap enc)[k * sz + j]? = (enc x)[j]? := by
  have h := flat_drop hsz l k
  have hk : k < l.length := by
    rcases Nat.lt_or_ge k l.length with h | h
    · exact h
    · rw [List.getElem?_eq_none h] at hx; cases hx
  rw [← List.getElem?_drop, h, List.drop_eq_getElem_cons hk, List.flatMap_cons, List.getElem?_append_left (by rw [hsz]; exact hj)]
  rw [List.getElem?_eq_getElem hk] at hx
  injection hx with hx
  rw [hx]

theorem some_of_lt {l : List α} {k : Nat} (h : k < l.length) : ∃ x, l[k]? = some x := ⟨l[k], List.getElem?_eq_getElem h⟩

theorem Rd.elem (hsz : ∀ x, (enc x).length = sz) {w : World} {B n : Nat} {A : Option Addr} {l : List α} (h : Rd w B sz A n (l.flatMap enc)) (hn : l.length = n) {k : Nat} (hk : k < n) :
    ∃ b off x, A = some ⟨b, off, none⟩ ∧ b < B ∧ l[k]? = some x ∧ ∀ j, j < sz → w.cell? ⟨b, off + (k * sz + j), none⟩ = (enc x)[j]? := by
  obtain ⟨b, off, e, hb, hc⟩ := h.at_ (by omega)
  obtain ⟨x, hx⟩ := some_of_lt (l := l) (k := k) (by omega)
  refine ⟨b, off, x, e, hb, hx, fun j hj => ?_⟩
  rw [← flat_get hsz hx hj]
  refine hc _ ?_
  have : (k + 1) * sz ≤ n * sz := Nat.mul_le_mul_right _ (by omega)
  rw [Nat.succ_mul] at this
  omega

theorem flat_snoc {l : List α} {k : Nat} {x : α} (hx : l[k]? = some x) : (l.take (k + 1)).flatMap enc = (l.take k).flatMap enc ++ enc x := by
  rw [List.take_add_one, hx, List.flatMap_append]
  simp
theorem flat_take_length (hsz : ∀ x, (enc x).length = sz) {l : List α} {k : Nat} (hk : k ≤ l.length) : ((l.take k).flatMap enc).length = k * sz := by
  rw [flat_length hsz, List.length_take, Nat.min_eq_left hk]

theorem take_snoc {l : List α} {k : Nat} {x : α} (hx : l[k]? = some x) : l.take (k + 1) = l.take k ++ [x] := by
  rw [List.take_add_one, hx]
  rfl

theorem drop_cons {l : List α} {k : Nat} {x : α} (hx : l[k]? = some x) : l.drop k = x :: l.drop (k + 1) := by
  have hk : k < l.length := by
    rcases Nat.lt_or_ge k l.length with h | h
    · exact h
    · rw [List.getElem?_eq_none h] at hx; cases hx
  rw [List.getElem?_eq_getElem hk] at hx
  injection hx with hx
  rw [List.drop_eq_getElem_cons hk, hx]
end

/-- One byte, one int. -/
def eB (b : UInt8) : List Value := [.int .u8 (b.toNat : Int)]
def eI (x : Int) : List Value := [.int .i64 x]
theorem eB_len (b : UInt8) : (eB b).length = 1 := rfl
theorem eB_mark (k : Int) (h : 0 ≤ k) : eB (UInt8.ofNat k.toNat) = [.int .u8 (k % 256)] := by
  simp only [eB, UInt8.toNat_ofNat']
  rw [show ((k.toNat % 2 ^ 8 : Nat) : Int) = k % 256 from by omega]
theorem eI_len (x : Int) : (eI x).length = 1 := rfl

theorem Rd.byte {w : World} {B n : Nat} {A : Option Addr} {l : List UInt8} (h : Rd w B 1 A n (l.flatMap eB)) (hn : l.length = n) {k : Nat} (hk : k < n) :
    ∃ b off x, A = some ⟨b, off, none⟩ ∧ b < B ∧ l[k]? = some x ∧ w.cell? ⟨b, off + k, none⟩ = some (.int .u8 (x.toNat : Int)) := by
  obtain ⟨b, off, x, e, hb, hx, hc⟩ := h.elem eB_len hn hk
  have := hc 0 (by omega)
  exact ⟨b, off, x, e, hb, hx, by simpa [eB] using this⟩

theorem Rd.int {w : World} {B n : Nat} {A : Option Addr} {l : List Int} (h : Rd w B 1 A n (l.flatMap eI)) (hn : l.length = n) {k : Nat} (hk : k < n) :
    ∃ b off x, A = some ⟨b, off, none⟩ ∧ b < B ∧ l[k]? = some x ∧ w.cell? ⟨b, off + k, none⟩ = some (.int .i64 x) := by
  obtain ⟨b, off, x, e, hb, hx, hc⟩ := h.elem eI_len hn hk
  have := hc 0 (by omega)
  exact ⟨b, off, x, e, hb, hx, by simpa [eI] using this⟩

/-! ### slices as whole values -/

theorem keepE {w w' : World} {lo hi : Nat} (h : Ext w w') (hB : hi ≤ w.heap.size) : ∀ k, lo ≤ k → k < hi → w'.heap[k]? = w.heap[k]? := fun k _ hk => h.block k (by omega)
theorem keepF {w w' : World} {lo hi a b : Nat} (h : Fr a b w w') (hB : hi ≤ w.heap.size) (ho : hi ≤ a ∨ b ≤ lo) : ∀ k, lo ≤ k → k < hi → w'.heap[k]? = w.heap[k]? := fun k h1 hk => h.block k (by omega) (by omega)
theorem keepE' {w w' : World} {B : Nat} (h : Ext w w') (hB : B ≤ w.heap.size) : ∀ k, k < B → w'.heap[k]? = w.heap[k]? := fun k hk => h.block k (by omega)
theorem keepF' {w w' : World} {B a b : Nat} (h : Fr a b w w') (hB : B ≤ w.heap.size) (ho : B ≤ a) : ∀ k, k < B → w'.heap[k]? = w.heap[k]? := fun k hk => h.block k (by omega) (by omega)

/-- The value is a slice that reads as the list l. -/
def RdS {α : Type} (w : World) (B sz : Nat) (enc : α → List Value) (v : Value) (l : List α) : Prop :=
  ∃ A n c, v = .slice A n c ∧ l.length = n ∧ n ≤ c ∧ c ≤ maxLen ∧ Rd w B sz A n (l.flatMap enc)
/-- The value is a slice of the call's own that holds the list l. -/
def OwnS {α : Type} (w : World) (lo hi : Nat) (e : TypeId) (sz : Nat) (enc : α → List Value) (v : Value) (l : List α) : Prop :=
  ∃ A n c, v = .slice A n c ∧ l.length = n ∧ Own w lo hi e sz v n (l.flatMap enc)
section
variable {α : Type} {w w' : World} {B sz lo hi : Nat} {e : TypeId} {enc : α → List Value} {v : Value} {l : List α}
theorem OwnS.rd (h : OwnS w lo hi e sz enc v l) : RdS w hi sz enc v l := by
  obtain ⟨A, n, c, rfl, hl, ho⟩ := h
  obtain ⟨_, h1, h2, h3⟩ := ho.rd
  exact ⟨A, n, c, rfl, hl, h1, h2, h3⟩
theorem OwnS.of {A : Option Addr} {n c : Nat} (h : Own w lo hi e sz (.slice A n c) n (l.flatMap enc)) (hl : l.length = n) : OwnS w lo hi e sz enc (.slice A n c) l := ⟨A, n, c, rfl, hl, h⟩
theorem RdS.of {A : Option Addr} {n c : Nat} (h : Rd w B sz A n (l.flatMap enc)) (hl : l.length = n) (h1 : n ≤ c) (h2 : c ≤ maxLen) : RdS w B sz enc (.slice A n c) l := ⟨A, n, c, rfl, hl, h1, h2, h⟩
theorem OwnS.wide (h : OwnS w lo hi e sz enc v l) {lo' hi' : Nat} (h1 : lo' ≤ lo) (h2 : hi ≤ hi') : OwnS w lo' hi' e sz enc v l := by
  obtain ⟨A, n, c, rfl, hl, ho⟩ := h
  exact ⟨A, n, c, rfl, hl, ho.wide h1 h2⟩
theorem RdS.more (h : RdS w B sz enc v l) {B' : Nat} (hB : B ≤ B') : RdS w B' sz enc v l := by
  obtain ⟨A, n, c, rfl, hl, h1, h2, hr⟩ := h
  exact ⟨A, n, c, rfl, hl, h1, h2, hr.more hB⟩
theorem Ext.rds (h : Ext w w') (hr : RdS w B sz enc v l) (hB : B ≤ w.heap.size) : RdS w' B sz enc v l := by
  obtain ⟨A, n, c, rfl, hl, h1, h2, hr⟩ := hr
  exact ⟨A, n, c, rfl, hl, h1, h2, h.rd hr hB⟩
theorem Ext.owns (h : Ext w w') (ho : OwnS w lo hi e sz enc v l) (hB : hi ≤ w.heap.size) : OwnS w' lo hi e sz enc v l := by
  obtain ⟨A, n, c, rfl, hl, ho⟩ := ho
  exact ⟨A, n, c, rfl, hl, h.own ho hB⟩
theorem Still.rds (h : Still w w') (hr : RdS w B sz enc v l) : RdS w' B sz enc v l := by
  obtain ⟨q, rfl⟩ := h
  exact hr
theorem Still.owns (h : Still w w') (ho : OwnS w lo hi e sz enc v l) : OwnS w' lo hi e sz enc v l := by
  obtain ⟨q, rfl⟩ := h
  exact ho
theorem Fr.owns {a b : Nat} (hf : Fr a b w w') (ho : OwnS w lo hi e sz enc v l) (h : hi ≤ a ∨ b ≤ lo) : OwnS w' lo hi e sz enc v l := by
  obtain ⟨A, n, c, rfl, hl, ho⟩ := ho
  exact ⟨A, n, c, rfl, hl, ho.fr hf h⟩
theorem Fr.rds {a b : Nat} (hf : Fr a b w w') (hr : RdS w B sz enc v l) (hB : B ≤ a) (hs : B ≤ w.heap.size) : RdS w' B sz enc v l := by
  obtain ⟨A, n, c, rfl, hl, h1, h2, hr⟩ := hr
  exact ⟨A, n, c, rfl, hl, h1, h2, hr.fr hf hB hs⟩
theorem RdS.keep (h : RdS w B sz enc v l) (hk : ∀ k, k < B → w'.heap[k]? = w.heap[k]?) : RdS w' B sz enc v l := by
  obtain ⟨A, n, c, rfl, hl, h1, h2, hr⟩ := h
  exact ⟨A, n, c, rfl, hl, h1, h2, hr.keep fun p hp => World.cell?_of_block (hk p.block hp)⟩
theorem OwnS.keep (h : OwnS w lo hi e sz enc v l) (hk : ∀ k, lo ≤ k → k < hi → w'.heap[k]? = w.heap[k]?) : OwnS w' lo hi e sz enc v l := by
  obtain ⟨A, n, c, rfl, hl, ho⟩ := h
  exact ⟨A, n, c, rfl, hl, ho.keep hk⟩
theorem RdS.nil : RdS w B sz enc (.slice none 0 0) ([] : List α) := ⟨none, 0, 0, rfl, rfl, Nat.le_refl _, by unfold maxLen; omega, Rd.nil⟩
theorem OwnS.nil (A : Option Addr) : OwnS w lo hi e sz enc (.slice A 0 0) ([] : List α) := ⟨A, 0, 0, rfl, rfl, Own.nil _ _ _ _ _ _⟩
end

end Go.Proofs.Ytbfbdhjeoknjkaa
