/-
  Blocks by the type of their cells (where the text of the boxes has none of it).
-/
import Derived.Test.YtocmcfilldfdlaaBox
namespace Go.Proofs.Ytocmcfilldfdlaa
open Go.RowKit in
/-- The block holds cells of the element type e. -/
def BT (w : World) (g : Nat) (e : TypeId) : Prop := ∃ cs, w.heap[g]? = some (.cells cs e (0, 0))
open Go.RowKit in
theorem BT.new (w : World) (g : Nat) (cs : Array Value) (e : TypeId) (hg : w.heap.size = g) : BT (w.alloc (.cells cs e)) g e := by
  subst hg
  exact ⟨cs, heap_alloc_new w _⟩
theorem BT.ext {a b : World} {g : Nat} {e : TypeId} (h : BT a g e) (hE : Ext a b) : BT b g e := by
  obtain ⟨cs, h⟩ := h
  exact ⟨cs, hE.blockAt h⟩
open Go.RowKit in
theorem BT.set {a : World} {g : Nat} {e : TypeId} (h : BT a g e) (k j : Nat) (u : Value) : BT (a.setCell ⟨k, j, none⟩ u) g e := by
  obtain ⟨cs, h⟩ := h
  by_cases hk : g = k
  · subst hk
    exact ⟨_, heap_setCell_same a g j cs e u h⟩
  · exact ⟨cs, (Below.heap_setCell _ _ _ _ hk).trans h⟩
theorem BT.fr {a b : World} {g : Nat} {e : TypeId} {lo hi : Nat} (h : BT a g e) (hF : Fr lo hi a b) (ho : g < lo ∨ hi ≤ g) : BT b g e := by
  obtain ⟨cs, h⟩ := h
  exact ⟨cs, (hF.block g (Array.getElem?_eq_some_iff.1 h).1 ho).trans h⟩
theorem OwnS.dodge {α : Type} {enc : α → List Value} {w : World} {lo hi sz : Nat} {e e' : TypeId} {v : Value} {l : List α} (h : OwnS w lo hi e sz enc v l) {k : Nat} (hk : BT w k e') (hne : e ≠ e') (j : Nat) (u : Value) : OwnS (w.setCell ⟨k, j, none⟩ u) lo hi e sz enc v l := by
  obtain ⟨A, n, c, rfl, hl, ho⟩ := h
  obtain ⟨cs, hk⟩ := hk
  exact ⟨A, n, c, rfl, hl, ho.dodge hk hne j u⟩
end Go.Proofs.Ytocmcfilldfdlaa
