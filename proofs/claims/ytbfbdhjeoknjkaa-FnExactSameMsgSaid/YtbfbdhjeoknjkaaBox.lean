/-
  Boxes of a call: cells that are known and may be written, from world to world.
-/
import Derived.Test.YtbfbdhjeoknjkaaBase
namespace Go.Proofs.Ytbfbdhjeoknjkaa

/-- The cell holds v and may be written. -/
def Bx (w : World) (g j : Nat) (v : Value) : Prop := w.cell? ⟨g, j, none⟩ = some v ∧ w.frozen? ⟨g, j, none⟩ = false
section
variable {w a b : World} {g j k h : Nat} {u v : Value}
theorem Bx.new (w : World) (cs : Array Value) (e : TypeId) (j : Nat) (v : Value) (hg : w.heap.size = g) (hj : cs[j]? = some v) : Bx (w.alloc (.cells cs e)) g j v :=
  ⟨new_box w g cs e j v hg hj, by subst hg; exact frozen_of_row _ _ _ cs e (heap_alloc_new w _)⟩
theorem Bx.ext (hb : Bx a g j v) (hE : Ext a b) : Bx b g j v := ⟨hE.cellAt hb.1, (hE.look.2.1 _ _ (World.block_lt_of_cell? _ _ hb.1)).trans hb.2⟩
theorem Bx.alloc (hb : Bx a g j v) (o : Obj) : Bx (a.alloc o) g j v := hb.ext ((Ext.refl a).alloc o)
theorem Bx.same (hb : Bx w g j v) (u : Value) : Bx (w.setCell ⟨g, j, none⟩ u) g j u := ⟨World.cell?_setCell_same _ _ _ hb.1, by rw [World.frozen?_setCell]; exact hb.2⟩
theorem Bx.off (hb : Bx w g j v) (hn : k ≠ j) (u : Value) : Bx (w.setCell ⟨g, k, none⟩ u) g j v :=
  ⟨(World.cell?_setCell_other _ _ _ _ (by intro h; injection h with _ h2; exact hn h2)).trans hb.1, by rw [World.frozen?_setCell]; exact hb.2⟩
theorem Bx.far (hb : Bx w g j v) (hn : h ≠ g) (k : Nat) (u : Value) : Bx (w.setCell ⟨h, k, none⟩ u) g j v :=
  ⟨(World.cell?_setCell_other _ _ _ _ (by intro e; injection e with e1; exact hn e1)).trans hb.1, by rw [World.frozen?_setCell]; exact hb.2⟩
theorem Bx.drew (hb : Bx a g j v) : Bx a.drew g j v := hb
theorem Bx.lt (hb : Bx w g j v) : g < w.heap.size := World.block_lt_of_cell? _ _ hb.1
theorem Bx.fr {lo hi : Nat} (hb : Bx a g j v) (hF : Fr lo hi a b) (ho : g < lo ∨ hi ≤ g) : Bx b g j v := by
  have hblk := hF.block g hb.lt ho
  refine ⟨(World.cell?_of_block (a := ⟨g, j, none⟩) hblk).trans hb.1, ?_⟩
  have h2 := hb.2
  simp only [World.frozen?] at h2 ⊢
  rw [hblk]
  exact h2
end
open Go.RowKit in
/-- The block holds cells of the element type e. -/
def BT (w : World) (g : Nat) (e : TypeId) : Prop := ∃ cs, w.heap[g]? = some (.cells cs e (0, 0))
open Go.RowKit in
theorem BT.new (w : World) (g : Nat) (cs : Array Value) (e : TypeId) (hg : w.heap.size = g) : BT (w.alloc (.cells cs e)) g e := by
  subst hg
  exact ⟨cs, heap_alloc_new w _⟩
theorem BT.ext {a b : World} {g : Nat} {e : TypeId} (h : BT a g e) (hE : Ext a b) : BT b g e := by
  obtain ⟨cs, h⟩ := h
  exact ⟨cs, hE.blockAt h⟩
open Go.RowKit in
theorem BT.set {a : World} {g : Nat} {e : TypeId} (h : BT a g e) (k j : Nat) (u : Value) : BT (a.setCell ⟨k, j, none⟩ u) g e := by
  obtain ⟨cs, h⟩ := h
  by_cases hk : g = k
  · subst hk
    exact ⟨_, heap_setCell_same a g j cs e u h⟩
  · exact ⟨cs, (Below.heap_setCell _ _ _ _ hk).trans h⟩
theorem BT.fr {a b : World} {g : Nat} {e : TypeId} {lo hi : Nat} (h : BT a g e) (hF : Fr lo hi a b) (ho : g < lo ∨ hi ≤ g) : BT b g e := by
  obtain ⟨cs, h⟩ := h
  exact ⟨cs, (hF.block g (Array.getElem?_eq_some_iff.1 h).1 ho).trans h⟩
open Go.RowKit in
/-- A row stays where a cell of a block of another element type is written. -/
theorem Own.dodge {w : World} {lo hi sz n : Nat} {e e' : TypeId} {v : Value} {xs : List Value} (h : Own w lo hi e sz v n xs) {k : Nat} {cs : Array Value} {q : Nat × Nat} (hk : w.heap[k]? = some (.cells cs e' q)) (hne : e ≠ e') (j : Nat) (u : Value) : Own (w.setCell ⟨k, j, none⟩ u) lo hi e sz v n xs := by
  refine ⟨h.1, ?_⟩
  rcases h.2 with h1 | ⟨g, cap, cur, h3, h4, h5, h6, h7⟩
  · exact .inl h1
  · refine .inr ⟨g, cap, cur, h3, h4, h5, (Below.heap_setCell _ _ _ _ ?_).trans h6, h7⟩
    intro hg
    have hg' : g = k := hg
    subst hg'
    rw [h6] at hk
    injection hk with hk
    injection hk with _ ht
    exact hne ht
theorem OwnS.dodge {α : Type} {enc : α → List Value} {w : World} {lo hi sz : Nat} {e e' : TypeId} {v : Value} {l : List α} (h : OwnS w lo hi e sz enc v l) {k : Nat} (hk : BT w k e') (hne : e ≠ e') (j : Nat) (u : Value) : OwnS (w.setCell ⟨k, j, none⟩ u) lo hi e sz enc v l := by
  obtain ⟨A, n, c, rfl, hl, ho⟩ := h
  obtain ⟨cs, hk⟩ := hk
  exact ⟨A, n, c, rfl, hl, ho.dodge hk hne j u⟩
end Go.Proofs.Ytbfbdhjeoknjkaa
