/-
  An append to a row of the call's own as a step of a drawn region.
-/
import Derived.Test.YtocmcfilldfdlaaApp0
namespace Go.Proofs.Ytocmcfilldfdlaa
open Go.RowKit

section
variable {P : Program} {w : World} {o : Oper} {a : Act} {d s : Operand} {t : TypeId}
theorem step_app1 {ops : Array Oper} {K : Act → World → Prop} {Q : Exit → Act → World → Prop} {E : Prop} (hg : o.guard = none) (ho : o.op = Op.call { callee := Callee.builtin Builtin.append, args := #[d, s], argTypes := #[t, t] })
    (e : TypeId) (i : TypeInfo) (z : Value) (sz bytes : Nat) (ht : P.underlying t = some (.slice e)) (hi : P.info? e = some i) (hz : i.zero = some z)
    (hsize : i.size = sz) (hby : i.bytes = bytes) (hzs : z.cells.size = sz) (hsz : 0 < sz)
    (lo hib : Nat) (v : Value) (n : Nat) (xs : List Value) (hd : a.eval d = v) (hown : Own w lo hib e sz v n xs) (hlo : lo ≤ w.heap.size) (hhi : hib ≤ w.heap.size)
    (B : Nat) (A : Option Addr) (m c : Nat) (news : List Value) (hx : a.eval s = .slice A m c) (hr : Rd w B sz A m news) (h1 : ∀ u ∈ news, u.oneCell' = true)
    (h63 : n + m ≤ maxLen) (hbytes : (n + m) * bytes ≤ 140737488355328)
    (h : ∀ A' c' w', Own w' lo w'.heap.size e sz (.slice A' (n + m) c') (n + m) (xs ++ news) → w.grownBy w' (blk v) → K (a.put o.dst (.slice A' (n + m) c')) w') : if Region.wanted o (yielded ops a.tmps) = true then Oper.wp P o a w K Q else E := by
  rw [if_pos (by simp [Region.wanted, hg])]
  obtain ⟨v', w', hrun, h2, h3⟩ := run_app (P := P) w t o.type e i z sz bytes ht hi hz hsize hby hzs hsz lo hib v n xs hown hlo hhi B A m c news hr h1 h63 hbytes
  obtain ⟨A', c', rfl, _⟩ := h2.form
  unfold Oper.wp execOp
  simp only [ho, resolve, invoke, builtin, Sem.run_bind, Sem.run_pure, Result.andThen_ok, List.map_toArray, List.map_cons, List.map_nil, hd, hx, hrun]
  exact h A' c' w' h2 h3
end
/-- The one element of a block that has just been laid. -/
theorem rd_new (w : World) (cs : List Value) (e : TypeId) (sz : Nat) (h : cs.length = sz) : Rd (w.alloc (.cells cs.toArray e)) (w.heap.size + 1) sz (some ⟨w.heap.size, 0, none⟩) 1 cs :=
  ⟨by simp [h], fun _ => ⟨w.heap.size, 0, rfl, by omega, fun j _ => by rw [cell_of_row _ _ _ cs.toArray e (0, 0) (heap_alloc_new w _)]; simp⟩⟩

theorem cell_drew (w : World) (p : Addr) : w.drew.cell? p = w.cell? p := rfl

end Go.Proofs.Ytocmcfilldfdlaa
