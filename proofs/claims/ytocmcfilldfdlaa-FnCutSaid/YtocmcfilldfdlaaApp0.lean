/-
  An append to an empty row as a step of a drawn region; a cell of a row turned. (As in the text Put, for seats without images.)
-/
import Derived.Test.YtocmcfilldfdlaaRowC
import Derived.Deep.RegionHeld3
namespace Go.Proofs.Ytocmcfilldfdlaa
open Go.RowKit

theorem flat_set {α : Type} {enc : α → List Value} {sz : Nat} (hsz : ∀ x, (enc x).length = sz) (h0 : 0 < sz) {l : List α} {i j : Nat} {x y : α} {u : Value} (hx : l[i]? = some x) (hj : j < sz) (he : enc y = (enc x).set j u) :
    (l.flatMap enc).set (i * sz + j) u = (l.set i y).flatMap enc := by
  apply List.ext_getElem?
  intro k
  have hi := (List.getElem?_eq_some_iff.1 hx).1
  have hlt : i * sz + j < (l.flatMap enc).length := by
    rw [flat_length hsz]
    have : (i + 1) * sz ≤ l.length * sz := Nat.mul_le_mul_right _ hi
    rw [Nat.succ_mul] at this
    omega
  have hq : k / sz = i ∧ k % sz = j ↔ k = i * sz + j := by
    have h1 := Nat.div_add_mod k sz
    constructor
    · rintro ⟨rfl, rfl⟩
      rw [Nat.mul_comm] at h1
      omega
    · rintro rfl
      rw [Nat.mul_comm, Nat.mul_add_div h0, Nat.mul_add_mod, Nat.div_eq_of_lt hj, Nat.mod_eq_of_lt hj]
      simp
  rw [flat_at hsz h0 (l.set i y), List.getElem?_set, List.getElem?_set]
  by_cases hk : k = i * sz + j
  · obtain ⟨h1, h2⟩ := hq.2 hk
    rw [if_pos hk.symm, if_pos hlt, h1, if_pos rfl, if_pos hi, h2]
    simp [he, hsz, hj]
  · rw [if_neg (fun h => hk h.symm), flat_at hsz h0]
    by_cases h1 : i = k / sz
    · rw [if_pos h1, if_pos hi, ← h1, hx]
      simp only [Option.bind_some, he, List.getElem?_set]
      rw [if_neg (fun h => hk (hq.1 ⟨h1.symm, h.symm⟩))]
    · rw [if_neg h1]

section
variable {P : Program} {w : World} {o : Oper} {a : Act} {d s : Operand} {t : TypeId}
def emptyB : Value → Bool
  | .slice _ 0 0 => true
  | _ => false
/-- An append to an empty slice without room, as a step of a region that draws. -/
theorem step_app0 {ops : Array Oper} {K : Act → World → Prop} {Q : Exit → Act → World → Prop} {E : Prop} (hg : o.guard = none) (ho : o.op = Op.call { callee := Callee.builtin Builtin.append, args := #[d, s], argTypes := #[t, t] })
    (e : TypeId) (i : TypeInfo) (z : Value) (sz bytes : Nat) (ht : P.underlying t = some (.slice e)) (hi : P.info? e = some i) (hz : i.zero = some z)
    (hsize : i.size = sz) (hby : i.bytes = bytes) (hzs : z.cells.size = sz) (hsz : 0 < sz) (hd : emptyB (a.eval d) = true)
    (B : Nat) (A : Option Addr) (m c : Nat) (news : List Value) (hx : a.eval s = .slice A m c) (hr : Rd w B sz A m news) (h1 : ∀ u ∈ news, u.oneCell' = true)
    (h63 : m ≤ maxLen) (hbytes : m * bytes ≤ 140737488355328)
    (h : ∀ A' c' w', Own w' w.heap.size w'.heap.size e sz (.slice A' m c') m news → Ext w w' → K (a.put o.dst (.slice A' m c')) w') : if Region.wanted o (yielded ops a.tmps) = true then Oper.wp P o a w K Q else E := by
  rw [if_pos (by simp [Region.wanted, hg])]
  obtain ⟨A0, hA0⟩ : ∃ A0, a.eval d = .slice A0 0 0 := by
    revert hd
    generalize a.eval d = v
    intro hd
    unfold emptyB at hd
    split at hd
    · exact ⟨_, rfl⟩
    · cases hd
  obtain ⟨v', w', hrun, h2, h3⟩ := run_app (P := P) w t o.type e i z sz bytes ht hi hz hsize hby hzs hsz w.heap.size w.heap.size (.slice A0 0 0) 0 [] (Own.nil _ _ _ _ _ _) (Nat.le_refl _) (Nat.le_refl _) B A m c news hr h1 (by omega) (by rw [Nat.zero_add]; exact hbytes)
  simp only [Nat.zero_add, List.nil_append] at h2
  obtain ⟨A', c', rfl, _⟩ := h2.form
  unfold Oper.wp execOp
  simp only [ho, resolve, invoke, builtin, Sem.run_bind, Sem.run_pure, Result.andThen_ok, List.map_toArray, List.map_cons, List.map_nil, hA0, hx, hrun]
  exact h A' c' w' h2 ((Ext.refl w).grown h3 (fun g h => by cases A0 <;> simp [blk] at h))
end

theorem cell_set_ne (w : World) (g j : Nat) (u : Value) (b o : Nat) (h : b ≠ g) : (w.setCell ⟨g, j, none⟩ u).cell? ⟨b, o, none⟩ = w.cell? ⟨b, o, none⟩ :=
  World.cell?_of_block (a := ⟨b, o, none⟩) (Below.heap_setCell w ⟨g, j, none⟩ u b h)

end Go.Proofs.Ytocmcfilldfdlaa
