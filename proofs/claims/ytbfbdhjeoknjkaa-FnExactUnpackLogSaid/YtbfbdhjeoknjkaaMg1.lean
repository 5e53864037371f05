/-
  Texts of this seat, merged: Ints, Box, BT, Blk.
-/
import Derived.Test.YtbfbdhjeoknjkaaBase
import Derived.Test.YtbfbdhjeoknjkaaMath
import Derived.Test.YtbfbdhjeoknjkaaChecked
/-
  Lists of ints: copied, compared, marked, held.
-/
namespace Go.Proofs.Ytbfbdhjeoknjkaa
open Go.RowKit

theorem info_Int : (Try.prog.info? 3).map (fun i => (i.zero, i.size, i.bytes)) = some (some (.int .i64 0), 1, 8) := by kernel_rfl



/-- The numbers from k on, as they are marked. -/
def marksInt (k : Int) (n : Nat) : List Int := (List.range n).map fun i : Nat => k + (i : Int)
theorem marksInt_succ (k : Int) (n : Nat) : marksInt k (n + 1) = marksInt k n ++ [(fun i : Nat => k + (i : Int)) n] := by simp [marksInt, List.range_succ]
theorem marksInt_length (k : Int) (n : Nat) : (marksInt k n).length = n := by simp [marksInt]



/-! ### the same, for whole values -/

def R_IntS (w : World) (B : Nat) (v : Value) (l : List Int) : Prop := RdS w B 1 eI v l
def O_IntS (w : World) (lo hi : Nat) (v : Value) (l : List Int) : Prop := OwnS w lo hi 3 1 eI v l
def MK_IntS (k : Int) (l : List Int) : List Int := marksInt k l.length
def NK_IntS (l : List Int) : Nat := l.length
theorem R_IntS.keep {w w' : World} {B : Nat} {v : Value} {l : List Int} (h : R_IntS w B v l) (hk : ∀ k, k < B → w'.heap[k]? = w.heap[k]?) : R_IntS w' B v l := RdS.keep h hk
theorem O_IntS.keep {w w' : World} {lo hi : Nat} {v : Value} {l : List Int} (h : O_IntS w lo hi v l) (hk : ∀ k, lo ≤ k → k < hi → w'.heap[k]? = w.heap[k]?) : O_IntS w' lo hi v l := OwnS.keep h hk
theorem O_IntS.rd {w : World} {lo hi : Nat} {v : Value} {l : List Int} (h : O_IntS w lo hi v l) : R_IntS w hi v l := OwnS.rd h
theorem R_IntS.more {w : World} {B B' : Nat} {v : Value} {l : List Int} (h : R_IntS w B v l) (hB : B ≤ B') : R_IntS w B' v l := RdS.more h hB
theorem R_IntS.len {w : World} {B : Nat} {v : Value} {l : List Int} (h : R_IntS w B v l) : l.length ≤ 9223372036854775807 := by
  obtain ⟨A, n, c, _, rfl, h1, h2, _⟩ := h
  unfold maxLen at h2
  omega


end Go.Proofs.Ytbfbdhjeoknjkaa

/-
  Boxes of a call: cells that are known and may be written, from world to world.
-/
namespace Go.Proofs.Ytbfbdhjeoknjkaa

/-- The cell holds v and may be written. -/
def Bx (w : World) (g j : Nat) (v : Value) : Prop := w.cell? ⟨g, j, none⟩ = some v ∧ w.frozen? ⟨g, j, none⟩ = false
section
variable {w a b : World} {g j k h : Nat} {u v : Value}
theorem Bx.new (w : World) (cs : Array Value) (e : TypeId) (j : Nat) (v : Value) (hg : w.heap.size = g) (hj : cs[j]? = some v) : Bx (w.alloc (.cells cs e)) g j v :=
  ⟨new_box w g cs e j v hg hj, by subst hg; exact frozen_of_row _ _ _ cs e (heap_alloc_new w _)⟩
theorem Bx.ext (hb : Bx a g j v) (hE : Ext a b) : Bx b g j v := ⟨hE.cellAt hb.1, (hE.look.2.1 _ _ (World.block_lt_of_cell? _ _ hb.1)).trans hb.2⟩
theorem Bx.alloc (hb : Bx a g j v) (o : Obj) : Bx (a.alloc o) g j v := hb.ext ((Ext.refl a).alloc o)
theorem Bx.same (hb : Bx w g j v) (u : Value) : Bx (w.setCell ⟨g, j, none⟩ u) g j u := ⟨World.cell?_setCell_same _ _ _ hb.1, by rw [World.frozen?_setCell]; exact hb.2⟩
theorem Bx.off (hb : Bx w g j v) (hn : k ≠ j) (u : Value) : Bx (w.setCell ⟨g, k, none⟩ u) g j v :=
  ⟨(World.cell?_setCell_other _ _ _ _ (by intro h; injection h with _ h2; exact hn h2)).trans hb.1, by rw [World.frozen?_setCell]; exact hb.2⟩
theorem Bx.far (hb : Bx w g j v) (hn : h ≠ g) (k : Nat) (u : Value) : Bx (w.setCell ⟨h, k, none⟩ u) g j v :=
  ⟨(World.cell?_setCell_other _ _ _ _ (by intro e; injection e with e1; exact hn e1)).trans hb.1, by rw [World.frozen?_setCell]; exact hb.2⟩
theorem Bx.drew (hb : Bx a g j v) : Bx a.drew g j v := hb
theorem Bx.lt (hb : Bx w g j v) : g < w.heap.size := World.block_lt_of_cell? _ _ hb.1
theorem Bx.fr {lo hi : Nat} (hb : Bx a g j v) (hF : Fr lo hi a b) (ho : g < lo ∨ hi ≤ g) : Bx b g j v := by
  have hblk := hF.block g hb.lt ho
  refine ⟨(World.cell?_of_block (a := ⟨g, j, none⟩) hblk).trans hb.1, ?_⟩
  have h2 := hb.2
  simp only [World.frozen?] at h2 ⊢
  rw [hblk]
  exact h2
end
open Go.RowKit in
/-- The block holds cells of the element type e. -/
def BT (w : World) (g : Nat) (e : TypeId) : Prop := ∃ cs, w.heap[g]? = some (.cells cs e (0, 0))
open Go.RowKit in
theorem BT.new (w : World) (g : Nat) (cs : Array Value) (e : TypeId) (hg : w.heap.size = g) : BT (w.alloc (.cells cs e)) g e := by
  subst hg
  exact ⟨cs, heap_alloc_new w _⟩
theorem BT.ext {a b : World} {g : Nat} {e : TypeId} (h : BT a g e) (hE : Ext a b) : BT b g e := by
  obtain ⟨cs, h⟩ := h
  exact ⟨cs, hE.blockAt h⟩
open Go.RowKit in
theorem BT.set {a : World} {g : Nat} {e : TypeId} (h : BT a g e) (k j : Nat) (u : Value) : BT (a.setCell ⟨k, j, none⟩ u) g e := by
  obtain ⟨cs, h⟩ := h
  by_cases hk : g = k
  · subst hk
    exact ⟨_, heap_setCell_same a g j cs e u h⟩
  · exact ⟨cs, (Below.heap_setCell _ _ _ _ hk).trans h⟩
theorem BT.fr {a b : World} {g : Nat} {e : TypeId} {lo hi : Nat} (h : BT a g e) (hF : Fr lo hi a b) (ho : g < lo ∨ hi ≤ g) : BT b g e := by
  obtain ⟨cs, h⟩ := h
  exact ⟨cs, (hF.block g (Array.getElem?_eq_some_iff.1 h).1 ho).trans h⟩
open Go.RowKit in
/-- A row stays where a cell of a block of another element type is written. -/
theorem Own.dodge {w : World} {lo hi sz n : Nat} {e e' : TypeId} {v : Value} {xs : List Value} (h : Own w lo hi e sz v n xs) {k : Nat} {cs : Array Value} {q : Nat × Nat} (hk : w.heap[k]? = some (.cells cs e' q)) (hne : e ≠ e') (j : Nat) (u : Value) : Own (w.setCell ⟨k, j, none⟩ u) lo hi e sz v n xs := by
  refine ⟨h.1, ?_⟩
  rcases h.2 with h1 | ⟨g, cap, cur, h3, h4, h5, h6, h7⟩
  · exact .inl h1
  · refine .inr ⟨g, cap, cur, h3, h4, h5, (Below.heap_setCell _ _ _ _ ?_).trans h6, h7⟩
    intro hg
    have hg' : g = k := hg
    subst hg'
    rw [h6] at hk
    injection hk with hk
    injection hk with _ ht
    exact hne ht
theorem OwnS.dodge {α : Type} {enc : α → List Value} {w : World} {lo hi sz : Nat} {e e' : TypeId} {v : Value} {l : List α} (h : OwnS w lo hi e sz enc v l) {k : Nat} (hk : BT w k e') (hne : e ≠ e') (j : Nat) (u : Value) : OwnS (w.setCell ⟨k, j, none⟩ u) lo hi e sz enc v l := by
  obtain ⟨A, n, c, rfl, hl, ho⟩ := h
  obtain ⟨cs, hk⟩ := hk
  exact ⟨A, n, c, rfl, hl, ho.dodge hk hne j u⟩
end Go.Proofs.Ytbfbdhjeoknjkaa

/-
  Blocks by the type of their cells: they lie in Box now.
-/
namespace Go.Proofs.Ytbfbdhjeoknjkaa
end Go.Proofs.Ytbfbdhjeoknjkaa

/-
  A block of the call's own that is known whole: its cells, from world to world.
-/
namespace Go.Proofs.Ytbfbdhjeoknjkaa
open Go.RowKit

/-- The block g holds just the cells vs, of the element type e, and may be written. -/
def Blk (w : World) (g : Nat) (e : TypeId) (vs : List Value) : Prop := w.heap[g]? = some (.cells vs.toArray e (0, 0))
section
variable {w a b : World} {g h j k lo hi : Nat} {e : TypeId} {u v : Value} {vs : List Value}
theorem Blk.new (w : World) (cs : Array Value) (e : TypeId) (hg : w.heap.size = g) : Blk (w.alloc (.cells cs e)) g e cs.toList := by
  subst hg
  exact heap_alloc_new w _
theorem Blk.row (hb : Blk w g e vs) : w.heap[g]? = some (.cells vs.toArray e (0, 0)) := hb
theorem Blk.at (hb : Blk w g e vs) (j : Nat) (v : Value) (hj : vs[j]? = some v) : w.cell? ⟨g, j, none⟩ = some v ∧ w.frozen? ⟨g, j, none⟩ = false :=
  ⟨by rw [cell_of_row w g j _ e (0, 0) hb]; simpa using hj, frozen_of_row w g j _ e hb⟩
theorem Blk.bx (hb : Blk w g e vs) (j : Nat) (v : Value) (hj : vs[j]? = some v) : Bx w g j v := hb.at j v hj
theorem Blk.bt (hb : Blk w g e vs) : BT w g e := ⟨_, hb⟩
theorem Blk.ext (hb : Blk a g e vs) (hE : Ext a b) : Blk b g e vs := hE.blockAt hb
theorem Blk.alloc (hb : Blk a g e vs) (o : Obj) : Blk (a.alloc o) g e vs := hb.ext ((Ext.refl a).alloc o)
theorem Blk.drew (hb : Blk a g e vs) : Blk a.drew g e vs := hb
theorem Blk.drewN (hb : Blk a g e vs) (n : Nat) : Blk (a.drewN n) g e vs := hb
theorem Blk.set (hb : Blk w g e vs) (j : Nat) (u : Value) : Blk (w.setCell ⟨g, j, none⟩ u) g e (vs.set j u) := by
  have := heap_setCell_same w g j vs.toArray e u hb
  unfold Blk
  rw [this]
  simp
theorem Blk.far (hb : Blk w g e vs) (hn : h ≠ g) (k : Nat) (u : Value) : Blk (w.setCell ⟨h, k, none⟩ u) g e vs :=
  (Below.heap_setCell _ _ _ _ (fun e => hn e.symm)).trans hb
theorem Blk.lt (hb : Blk w g e vs) : g < w.heap.size := (Array.getElem?_eq_some_iff.1 hb).1
theorem Blk.fr (hb : Blk a g e vs) (hF : Fr lo hi a b) (ho : g < lo ∨ hi ≤ g) : Blk b g e vs := (hF.block g hb.lt ho).trans hb
theorem Blk.grown {row : Option Nat} (hb : Blk a g e vs) (hg : a.grownBy b row) (ho : row ≠ some g) : Blk b g e vs := (hg.block g hb.lt (fun h => ho h.symm)).trans hb
theorem Blk.kp (hb : Blk a g e vs) (hk : Kp lo hi a b) (h1 : lo ≤ g) (h2 : g < hi) : Blk b g e vs := (hk g h1 h2).trans hb
/-- As a row of one element. -/
theorem Blk.rd (hb : Blk w g e vs) : Rd w w.heap.size vs.length (some ⟨g, 0, none⟩) 1 vs :=
  ⟨by simp, fun _ => ⟨g, 0, rfl, hb.lt, fun j _ => by rw [cell_of_row w g _ _ e (0, 0) hb]; simp⟩⟩
/-- A row that the call made lies in another block when the element types differ. -/
theorem Blk.apart {e' : TypeId} {sz n : Nat} {v' : Value} {xs : List Value} (hb : Blk a g e vs) (h' : Own a lo hi e' sz v' n xs) (hne : e ≠ e') (hg : a.grownBy b (blk v')) : Blk b g e vs := by
  refine hb.grown hg (fun hr => ?_)
  rcases h'.2 with ⟨_, A, rfl⟩ | ⟨g', cap', cur', rfl, _, _, h6', _⟩
  · cases A <;> simp [blk] at hr
  · simp only [blk] at hr
    split at hr
    · cases hr
    · injection hr with hr
      subst hr
      have h6 := hb.row
      rw [h6] at h6'
      injection h6' with h6'
      injection h6' with _ ht
      exact hne ht
end
end Go.Proofs.Ytbfbdhjeoknjkaa
