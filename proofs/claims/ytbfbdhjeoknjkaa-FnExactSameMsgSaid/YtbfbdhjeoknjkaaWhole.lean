/-
  A struct of many cells, loaded and stored whole.
-/
import Derived.Test.YtbfbdhjeoknjkaaBlk
import Derived.Deep.MidRow
namespace Go.Proofs.Ytbfbdhjeoknjkaa
open Go.RowKit

section
variable {w : World} {g : Nat} {e : TypeId} {vs : List Value}
theorem Blk.range (h : Blk w g e vs) : w.rangeAt g 0 vs := fun j v hv => by
  rw [Nat.zero_add]
  exact (h.at j v hv).1
theorem Blk.there (h : Blk w g e vs) {n : Nat} (hn : n = vs.length) : w.there g 0 n := fun j hj => by
  subst hn
  rw [Nat.zero_add]
  have := h.at j vs[j] (List.getElem?_eq_getElem hj)
  exact ⟨by rw [this.1]; rfl, this.2⟩
theorem fr_one {w : World} {g j : Nat} (u : Value) : Fr g (g + 1) w (w.setCell ⟨g, j, none⟩ u) := Fr.of_grown (grownBy_setCell g j u rfl) (fun k hk => by injection hk with hk; omega)
theorem fr_cells (g : Nat) : ∀ (cs : List Value) (o : Nat) (w : World), Fr g (g + 1) w (w.setCells g o cs) := by
  intro cs
  induction cs with
  | nil => intro o w; exact Fr.of_below (Below.refl _ _)
  | cons c cs ih =>
    intro o w
    rw [World.setCells]
    exact (Fr.of_grown (grownBy_setCell g o c rfl) (fun k hk => by injection hk with hk; omega)).trans (ih (o + 1) _)
theorem Blk.cells : ∀ (cs : List Value) (o : Nat) (w : World) (vs : List Value), Blk w g e vs → o + cs.length ≤ vs.length → Blk (w.setCells g o cs) g e (vs.take o ++ cs ++ vs.drop (o + cs.length)) := by
  intro cs
  induction cs with
  | nil =>
    intro o w vs h _
    simpa [World.setCells] using h
  | cons c cs ih =>
    intro o w vs h ho
    rw [World.setCells]
    simp only [List.length_cons] at ho
    have h1 := ih (o + 1) _ _ (h.set o c) (by rw [List.length_set]; omega)
    have e1 : (vs.set o c).take (o + 1) = vs.take o ++ [c] := by
      rw [take_snoc (x := c) (by rw [List.getElem?_set_self (by omega)]), List.take_set_of_le (Nat.le_refl _)]
    have e2 : (vs.set o c).drop (o + 1 + cs.length) = vs.drop (o + (c :: cs).length) := by
      rw [List.drop_set_of_lt (by omega), List.length_cons]
      congr 1
      omega
    rw [e1, e2] at h1
    simpa using h1
/-- A whole struct is written. -/
theorem Blk.whole (h : Blk w g e vs) (cs : List Value) (hl : cs.length = vs.length) : Blk (w.setCells g 0 cs) g e cs := by
  have h1 := Blk.cells cs 0 w vs h (by omega)
  rw [List.take_zero, List.nil_append, Nat.zero_add, List.drop_of_length_le (by omega), List.append_nil] at h1
  exact h1
end
/-- A region that loads a struct whole and stores it whole elsewhere. -/
theorem region_copy {P : Program} {Q : Exit → Act → World → Prop} {a : Act} {w : World} {id : Nat} {o1 o2 : Oper} {ty : TypeId} {x y z : Operand} {b c : Nat} {e : TypeId} {cs vs : List Value} {d : TypeDesc}
    (h1 : o1.op = .load ty x) (g1 : o1.guard = none) (h2 : o2.op = .store ty y z) (g2 : o2.guard = none)
    (hx : a.eval x = .pointer (some ⟨b, 0, none⟩)) (hb : Blk w b e cs) (hy : (a.put o1.dst (.agg cs.toArray)).eval y = .pointer (some ⟨c, 0, none⟩)) (hz : (a.put o1.dst (.agg cs.toArray)).eval z = .agg cs.toArray)
    (hc : Blk w c e vs) (hl : cs.length = vs.length) (hu : P.underlying ty = some d) (hd : d.isRow = true) (hi : (P.info? ty).map (·.size) = some cs.length) (hone : ∀ v ∈ cs, v.oneCell' = true)
    (h : Q .normal ((a.put o1.dst (.agg cs.toArray)).put o2.dst undef) (w.setCells c 0 cs)) : (Code.region id #[o1, o2] false).wp P Q a w := by
  refine wp_region_list ?_
  refine wpList_load_mid g1 ty x h1 b 0 hx cs d hb.range hu hd hi ?_
  refine wpList_store_mid g2 ty y z h2 c 0 cs.toArray hy hz (hc.there (by simpa using hl)) (by simpa using hi) (all_oneCell_toArray hone) ?_
  refine wpList_nil ?_
  simpa using h
end Go.Proofs.Ytbfbdhjeoknjkaa
