/-
  Texts of this seat, merged: App0, App1, HeldX.
-/
import Derived.Test.YtbfbdhjeoknjkaaRowC
import Derived.Deep.RegionHeld3
import Derived.StillTail
/-
  An append to an empty row as a step of a drawn region; a cell of a row turned. (As in the text Put, for seats without images.)
-/
namespace Go.Proofs.Ytbfbdhjeoknjkaa
open Go.RowKit

theorem flat_set {α : Type} {enc : α → List Value} {sz : Nat} (hsz : ∀ x, (enc x).length = sz) (h0 : 0 < sz) {l : List α} {i j : Nat} {x y : α} {u : Value} (hx : l[i]? = some x) (hj : j < sz) (he : enc y = (enc x).set j u) :
    (l.flatMap enc).set (i * sz + j) u = (l.set i y).flatMap enc := by
  apply List.ext_getElem?
  intro k
  have hi := (List.getElem?_eq_some_iff.1 hx).1
  have hlt : i * sz + j < (l.flatMap enc).length := by
    rw [flat_length hsz]
    have : (i + 1) * sz ≤ l.length * sz := Nat.mul_le_mul_right _ hi
    rw [Nat.succ_mul] at this
    omega
  have hq : k / sz = i ∧ k % sz = j ↔ k = i * sz + j := by
    have h1 := Nat.div_add_mod k sz
    constructor
    · rintro ⟨rfl, rfl⟩
      rw [Nat.mul_comm] at h1
      omega
    · rintro rfl
      rw [Nat.mul_comm, Nat.mul_add_div h0, Nat.mul_add_mod, Nat.div_eq_of_lt hj, Nat.mod_eq_of_lt hj]
      simp
  rw [flat_at hsz h0 (l.set i y), List.getElem?_set, List.getElem?_set]
  by_cases hk : k = i * sz + j
  · obtain ⟨h1, h2⟩ := hq.2 hk
    rw [if_pos hk.symm, if_pos hlt, h1, if_pos rfl, if_pos hi, h2]
    simp [he, hsz, hj]
  · rw [if_neg (fun h => hk h.symm), flat_at hsz h0]
    by_cases h1 : i = k / sz
    · rw [if_pos h1, if_pos hi, ← h1, hx]
      simp only [Option.bind_some, he, List.getElem?_set]
      rw [if_neg (fun h => hk (hq.1 ⟨h1.symm, h.symm⟩))]
    · rw [if_neg h1]

section
variable {P : Program} {w : World} {o : Oper} {a : Act} {d s : Operand} {t : TypeId}
def emptyB : Value → Bool
  | .slice _ 0 0 => true
  | _ => false
/-- An append to an empty slice without room, as a step of a region that draws. -/
theorem step_app0 {ops : Array Oper} {K : Act → World → Prop} {Q : Exit → Act → World → Prop} {E : Prop} (hg : o.guard = none) (ho : o.op = Op.call { callee := Callee.builtin Builtin.append, args := #[d, s], argTypes := #[t, t] })
    (e : TypeId) (i : TypeInfo) (z : Value) (sz bytes : Nat) (ht : P.underlying t = some (.slice e)) (hi : P.info? e = some i) (hz : i.zero = some z)
    (hsize : i.size = sz) (hby : i.bytes = bytes) (hzs : z.cells.size = sz) (hsz : 0 < sz) (hd : emptyB (a.eval d) = true)
    (B : Nat) (A : Option Addr) (m c : Nat) (news : List Value) (hx : a.eval s = .slice A m c) (hr : Rd w B sz A m news) (h1 : ∀ u ∈ news, u.oneCell' = true)
    (h63 : m ≤ maxLen) (hbytes : m * bytes ≤ 140737488355328)
    (h : ∀ A' c' w', Own w' w.heap.size w'.heap.size e sz (.slice A' m c') m news → Ext w w' → K (a.put o.dst (.slice A' m c')) w') : if Region.wanted o (yielded ops a.tmps) = true then Oper.wp P o a w K Q else E := by
  rw [if_pos (by simp [Region.wanted, hg])]
  obtain ⟨A0, hA0⟩ : ∃ A0, a.eval d = .slice A0 0 0 := by
    revert hd
    generalize a.eval d = v
    intro hd
    unfold emptyB at hd
    split at hd
    · exact ⟨_, rfl⟩
    · cases hd
  obtain ⟨v', w', hrun, h2, h3⟩ := run_app (P := P) w t o.type e i z sz bytes ht hi hz hsize hby hzs hsz w.heap.size w.heap.size (.slice A0 0 0) 0 [] (Own.nil _ _ _ _ _ _) (Nat.le_refl _) (Nat.le_refl _) B A m c news hr h1 (by omega) (by rw [Nat.zero_add]; exact hbytes)
  simp only [Nat.zero_add, List.nil_append] at h2
  obtain ⟨A', c', rfl, _⟩ := h2.form
  unfold Oper.wp execOp
  simp only [ho, resolve, invoke, builtin, Sem.run_bind, Sem.run_pure, Result.andThen_ok, List.map_toArray, List.map_cons, List.map_nil, hA0, hx, hrun]
  exact h A' c' w' h2 ((Ext.refl w).grown h3 (fun g h => by cases A0 <;> simp [blk] at h))
end

theorem cell_set_ne (w : World) (g j : Nat) (u : Value) (b o : Nat) (h : b ≠ g) : (w.setCell ⟨g, j, none⟩ u).cell? ⟨b, o, none⟩ = w.cell? ⟨b, o, none⟩ :=
  World.cell?_of_block (a := ⟨b, o, none⟩) (Below.heap_setCell w ⟨g, j, none⟩ u b h)

end Go.Proofs.Ytbfbdhjeoknjkaa

/-
  An append to a row of the call's own as a step of a drawn region.
-/
namespace Go.Proofs.Ytbfbdhjeoknjkaa
open Go.RowKit

section
variable {P : Program} {w : World} {o : Oper} {a : Act} {d s : Operand} {t : TypeId}
theorem step_app1 {ops : Array Oper} {K : Act → World → Prop} {Q : Exit → Act → World → Prop} {E : Prop} (hg : o.guard = none) (ho : o.op = Op.call { callee := Callee.builtin Builtin.append, args := #[d, s], argTypes := #[t, t] })
    (e : TypeId) (i : TypeInfo) (z : Value) (sz bytes : Nat) (ht : P.underlying t = some (.slice e)) (hi : P.info? e = some i) (hz : i.zero = some z)
    (hsize : i.size = sz) (hby : i.bytes = bytes) (hzs : z.cells.size = sz) (hsz : 0 < sz)
    (lo hib : Nat) (v : Value) (n : Nat) (xs : List Value) (hd : a.eval d = v) (hown : Own w lo hib e sz v n xs) (hlo : lo ≤ w.heap.size) (hhi : hib ≤ w.heap.size)
    (B : Nat) (A : Option Addr) (m c : Nat) (news : List Value) (hx : a.eval s = .slice A m c) (hr : Rd w B sz A m news) (h1 : ∀ u ∈ news, u.oneCell' = true)
    (h63 : n + m ≤ maxLen) (hbytes : (n + m) * bytes ≤ 140737488355328)
    (h : ∀ A' c' w', Own w' lo w'.heap.size e sz (.slice A' (n + m) c') (n + m) (xs ++ news) → w.grownBy w' (blk v) → K (a.put o.dst (.slice A' (n + m) c')) w') : if Region.wanted o (yielded ops a.tmps) = true then Oper.wp P o a w K Q else E := by
  rw [if_pos (by simp [Region.wanted, hg])]
  obtain ⟨v', w', hrun, h2, h3⟩ := run_app (P := P) w t o.type e i z sz bytes ht hi hz hsize hby hzs hsz lo hib v n xs hown hlo hhi B A m c news hr h1 h63 hbytes
  obtain ⟨A', c', rfl, _⟩ := h2.form
  unfold Oper.wp execOp
  simp only [ho, resolve, invoke, builtin, Sem.run_bind, Sem.run_pure, Result.andThen_ok, List.map_toArray, List.map_cons, List.map_nil, hd, hx, hrun]
  exact h A' c' w' h2 h3
end
/-- The one element of a block that has just been laid. -/
theorem rd_new (w : World) (cs : List Value) (e : TypeId) (sz : Nat) (h : cs.length = sz) : Rd (w.alloc (.cells cs.toArray e)) (w.heap.size + 1) sz (some ⟨w.heap.size, 0, none⟩) 1 cs :=
  ⟨by simp [h], fun _ => ⟨w.heap.size, 0, rfl, by omega, fun j _ => by rw [cell_of_row _ _ _ cs.toArray e (0, 0) (heap_alloc_new w _)]; simp⟩⟩

theorem cell_drew (w : World) (p : Addr) : w.drew.cell? p = w.cell? p := rfl

end Go.Proofs.Ytbfbdhjeoknjkaa

/-
  A drawn region walked with one condition on the world, where ONE operation (the last store) may break that condition: it waits for all others.
-/
namespace Go.Proofs.Ytbfbdhjeoknjkaa
open Go Go.RowKit

section
variable {P : Program} {ops : Array Oper} {Q : Exit → Act → World → Prop} {md : Region.Mode} {S : World → Prop} {x : Nat}
/-- Whatever order comes, from here on; behind each operation but number x the condition holds. -/
def anyX (P : Program) (md : Region.Mode) (ops : Array Oper) (Q : Exit → Act → World → Prop) (S : World → Prop) (x : Nat) : Nat → Array Bool → Act → World → Prop
  | 0, listed, a, w => Region.ready md ops listed = [] ∧ Q .normal a w
  | fuel + 1, listed, a, w => (Region.ready md ops listed = [] → Q .normal a w) ∧
      ∀ i ∈ Region.ready md ops listed, wpOp P ops Q i (fun a' w' => (i ≠ x → S w') ∧ anyX P md ops Q S x fuel (listed.setIfInBounds i true) a' w') a w
theorem any_of_anyX : ∀ (fuel : Nat) (listed : Array Bool) (a : Act) (w : World), anyX P md ops Q S x fuel listed a w → wpAny P md ops Q fuel listed a w
  | 0, _, _, _, h => h
  | fuel + 1, _, _, _, h => ⟨h.1, fun i hi => wpOp_mono (fun a' w' h' => any_of_anyX fuel _ a' w' h'.2) (h.2 i hi)⟩
/-- Number i, for which x waits, is taken first. -/
theorem anyX_first {i : Nat} {oi : Oper} {v : Value} (hi : ops[i]? = some oi) (hsel : ∀ (j : Nat) (o : Oper) cs b, ops[j]? = some o → o.op ≠ .select cs b)
    (hQ : ∀ c a w, Q (.panic c) (a.put oi.dst v) w → Q (.panic c) a w) (hw : Region.waitsFor md ops x i = true) :
    ∀ (fuel : Nat) (listed : Array Bool) (a : Act) (w : World),
      (∀ j oj, ops[j]? = some oj → j ≠ i → listed.getD j true = false → (∀ e ∈ oj.after, Region.binds md e = true → e.on ≠ i) → oi.apart ops oj = true) →
      i ∈ Region.ready md ops listed → YieldsIf P ops S oi v a → S w →
      anyX P md ops Q S x fuel (listed.setIfInBounds i true) (a.put oi.dst v) w → anyX P md ops Q S x (fuel + 1) listed a w := by
  obtain ⟨ox, hox, e0, he0, hb0, ho0⟩ := Region.waitsFor_spec hw
  intro fuel
  induction fuel with
  | zero =>
    intro listed a w _ hr hy hS H
    refine ⟨fun h => (by rw [h] at hr; cases hr), fun j hj => ?_⟩
    by_cases hji : j = i
    · subst hji
      exact hy.wpOp hi hS ⟨fun _ => hS, H⟩
    · have hm := ready_mono hj hji
      rw [H.1] at hm
      cases hm
  | succ fuel ih =>
    intro listed a w hfree hr hy hS H
    refine ⟨fun h => (by rw [h] at hr; cases hr), fun j hj => ?_⟩
    by_cases hji : j = i
    · subst hji
      exact hy.wpOp hi hS ⟨fun _ => hS, H⟩
    · have h1 := H.2 j (ready_mono hj hji)
      obtain ⟨hjun, oj, hoj, hall⟩ := mem_ready.1 hj
      have hnot : ∀ e ∈ oj.after, Region.binds md e = true → e.on ≠ i := fun e he hb heq => by
        have g1 := hall e he hb
        have g0 := (mem_ready.1 hr).1
        rw [heq] at g1
        rcases Nat.lt_or_ge i listed.size with h' | h'
        · simp [h'] at g0 g1
          rw [g0] at g1
          cases g1
        · simp [Array.getElem?_eq_none h'] at g1
      have hjx : j ≠ x := fun h => by
        subst h
        rw [hox] at hoj
        injection hoj with hoj
        subst hoj
        exact hnot e0 he0 hb0 ho0
      have h2 := wpOp_putIf hoj (hfree j oj hoj hji hjun hnot) (fun cs b => hsel i oi cs b hi) (fun cs b => hsel j oj cs b hoj) hQ hy h1
      have hfree' : ∀ k ok, ops[k]? = some ok → k ≠ i → (listed.setIfInBounds j true).getD k true = false →
          (∀ e ∈ ok.after, Region.binds md e = true → e.on ≠ i) → oi.apart ops ok = true := fun k ok hk hki hun hno => by
        refine hfree k ok hk hki ?_ hno
        by_cases hjk : j = k
        · subst hjk
          exact hjun
        · rw [getD_set_ne true hjk] at hun
          exact hun
      refine wpOp_mono (fun a' w' h3 => ⟨fun _ => h3.2.1 hjx, ih (listed.setIfInBounds j true) a' w' hfree' (ready_mono hr (Ne.symm hji)) h3.1 (h3.2.1 hjx) ?_⟩) h2
      rw [Array.setIfInBounds_comm _ _ hji]
      exact h3.2.2
theorem anyX_take {i : Nat} {oi : Oper} {v : Value} {fuel : Nat} {listed : Array Bool} {a : Act} {w : World} (hi : ops[i]? = some oi)
    (hs : Region.noSelect ops = true) (hw : Region.waitsFor md ops x i = true) (hf : Region.free md ops listed i = true) (hr : (Region.ready md ops listed).contains i = true)
    (hQ : ∀ c a w, Q (.panic c) (a.put oi.dst v) w → Q (.panic c) a w) (hy : YieldsIf P ops S oi v a) (hS : S w)
    (h : anyX P md ops Q S x fuel (listed.setIfInBounds i true) (a.put oi.dst v) w) : anyX P md ops Q S x (fuel + 1) listed a w :=
  anyX_first hi (Region.noSelect_spec hs) hQ hw fuel listed a w (Region.free_spec hi hf) (by simpa using hr) hy hS h
theorem anyX_done {listed : Array Bool} {a : Act} {w : World} (hr : Region.ready md ops listed = []) (h : Q .normal a w) : ∀ fuel, anyX P md ops Q S x fuel listed a w
  | 0 => ⟨hr, h⟩
  | _ + 1 => ⟨fun _ => h, by rw [hr]; simp⟩
theorem region_anyX {id : Nat} {a : Act} {w : World} (hm : P.follows .mixedOrders = true) (hS : S w.drew)
    (h : S w.drew → anyX P .any ops Q S x ops.size (Array.replicate ops.size false) a w.drew) : (Code.region id ops true).wp P Q a w :=
  wp_region_any hm (any_of_anyX _ _ _ _ (h hS))
/-- One operation alone may come up, and is not x. -/
theorem anyX_one {i : Nat} {o : Oper} {fuel : Nat} {listed : Array Bool} {a : Act} {w : World} (hr : Region.ready md ops listed = [i]) (ho : ops[i]? = some o)
    (h : ∀ K' : Act → World → Prop, Shut (∀ a w, S w → (S w → anyX P md ops Q S x fuel (listed.setIfInBounds i true) a w) → K' a w) → if Region.wanted o (yielded ops a.tmps) = true then Oper.wp P o a w K' Q else K' (a.put o.dst undef) w) :
    anyX P md ops Q S x (fuel + 1) listed a w := by
  refine ⟨fun h0 => absurd (hr ▸ h0) (by simp), fun j hj => ?_⟩
  rw [hr] at hj
  obtain rfl := List.mem_singleton.1 hj
  exact wpOp_step ho (fun K' hK => h K' (fun a w hS hW => hK a w ⟨fun _ => hS, hW hS⟩))
/-- Number x comes up, alone. -/
theorem anyX_last {o : Oper} {fuel : Nat} {listed : Array Bool} {a : Act} {w : World} (hr : Region.ready md ops listed = [x]) (ho : ops[x]? = some o)
    (h : ∀ K' : Act → World → Prop, Shut (∀ a w, anyX P md ops Q S x fuel (listed.setIfInBounds x true) a w → K' a w) → if Region.wanted o (yielded ops a.tmps) = true then Oper.wp P o a w K' Q else K' (a.put o.dst undef) w) :
    anyX P md ops Q S x (fuel + 1) listed a w := by
  refine ⟨fun h0 => absurd (hr ▸ h0) (by simp), fun j hj => ?_⟩
  rw [hr] at hj
  obtain rfl := List.mem_singleton.1 hj
  exact wpOp_step ho (fun K' hK => h K' (fun a w hW => hK a w ⟨fun h => absurd rfl h, hW⟩))
end
end Go.Proofs.Ytbfbdhjeoknjkaa
