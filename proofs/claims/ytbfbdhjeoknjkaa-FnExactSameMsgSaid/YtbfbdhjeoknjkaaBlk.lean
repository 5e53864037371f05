/-
  A block of the call's own that is known whole: its cells, from world to world.
-/
import Derived.Test.YtbfbdhjeoknjkaaBox
namespace Go.Proofs.Ytbfbdhjeoknjkaa
open Go.RowKit

/-- The block g holds just the cells vs, of the element type e, and may be written. -/
def Blk (w : World) (g : Nat) (e : TypeId) (vs : List Value) : Prop := w.heap[g]? = some (.cells vs.toArray e (0, 0))
section
variable {w a b : World} {g h j k lo hi : Nat} {e : TypeId} {u v : Value} {vs : List Value}
theorem Blk.new (w : World) (cs : Array Value) (e : TypeId) (hg : w.heap.size = g) : Blk (w.alloc (.cells cs e)) g e cs.toList := by
  subst hg
  exact heap_alloc_new w _
theorem Blk.row (hb : Blk w g e vs) : w.heap[g]? = some (.cells vs.toArray e (0, 0)) := hb
theorem Blk.at (hb : Blk w g e vs) (j : Nat) (v : Value) (hj : vs[j]? = some v) : w.cell? ⟨g, j, none⟩ = some v ∧ w.frozen? ⟨g, j, none⟩ = false :=
  ⟨by rw [cell_of_row w g j _ e (0, 0) hb]; simpa using hj, frozen_of_row w g j _ e hb⟩
theorem Blk.bx (hb : Blk w g e vs) (j : Nat) (v : Value) (hj : vs[j]? = some v) : Bx w g j v := hb.at j v hj
theorem Blk.bt (hb : Blk w g e vs) : BT w g e := ⟨_, hb⟩
theorem Blk.ext (hb : Blk a g e vs) (hE : Ext a b) : Blk b g e vs := hE.blockAt hb
theorem Blk.alloc (hb : Blk a g e vs) (o : Obj) : Blk (a.alloc o) g e vs := hb.ext ((Ext.refl a).alloc o)
theorem Blk.drew (hb : Blk a g e vs) : Blk a.drew g e vs := hb
theorem Blk.drewN (hb : Blk a g e vs) (n : Nat) : Blk (a.drewN n) g e vs := hb
theorem Blk.set (hb : Blk w g e vs) (j : Nat) (u : Value) : Blk (w.setCell ⟨g, j, none⟩ u) g e (vs.set j u) := by
  have := heap_setCell_same w g j vs.toArray e u hb
  unfold Blk
  rw [this]
  simp
theorem Blk.far (hb : Blk w g e vs) (hn : h ≠ g) (k : Nat) (u : Value) : Blk (w.setCell ⟨h, k, none⟩ u) g e vs :=
  (Below.heap_setCell _ _ _ _ (fun e => hn e.symm)).trans hb
theorem Blk.lt (hb : Blk w g e vs) : g < w.heap.size := (Array.getElem?_eq_some_iff.1 hb).1
theorem Blk.fr (hb : Blk a g e vs) (hF : Fr lo hi a b) (ho : g < lo ∨ hi ≤ g) : Blk b g e vs := (hF.block g hb.lt ho).trans hb
theorem Blk.grown {row : Option Nat} (hb : Blk a g e vs) (hg : a.grownBy b row) (ho : row ≠ some g) : Blk b g e vs := (hg.block g hb.lt (fun h => ho h.symm)).trans hb
theorem Blk.kp (hb : Blk a g e vs) (hk : Kp lo hi a b) (h1 : lo ≤ g) (h2 : g < hi) : Blk b g e vs := (hk g h1 h2).trans hb
/-- As a row of one element. -/
theorem Blk.rd (hb : Blk w g e vs) : Rd w w.heap.size vs.length (some ⟨g, 0, none⟩) 1 vs :=
  ⟨by simp, fun _ => ⟨g, 0, rfl, hb.lt, fun j _ => by rw [cell_of_row w g _ _ e (0, 0) hb]; simp⟩⟩
/-- A row that the call made lies in another block when the element types differ. -/
theorem Blk.apart {e' : TypeId} {sz n : Nat} {v' : Value} {xs : List Value} (hb : Blk a g e vs) (h' : Own a lo hi e' sz v' n xs) (hne : e ≠ e') (hg : a.grownBy b (blk v')) : Blk b g e vs := by
  refine hb.grown hg (fun hr => ?_)
  rcases h'.2 with ⟨_, A, rfl⟩ | ⟨g', cap', cur', rfl, _, _, h6', _⟩
  · cases A <;> simp [blk] at hr
  · simp only [blk] at hr
    split at hr
    · cases hr
    · injection hr with hr
      subst hr
      have h6 := hb.row
      rw [h6] at h6'
      injection h6' with h6'
      injection h6' with _ ht
      exact hne ht
end
end Go.Proofs.Ytbfbdhjeoknjkaa
