/-
  A drawn region walked with one condition on the world, where SOME operations (late ones) are let off: behind them the condition need not hold; they come, over others, behind whatever reads by that condition.
-/
import Derived.Test.YtbfbdhjeoknjkaaRowC
import Derived.Deep.RegionHeld3
import Derived.StillTail
namespace Go.Proofs.Ytbfbdhjeoknjkaa
open Go Go.RowKit

section
variable {P : Program} {ops : Array Oper} {Q : Exit → Act → World → Prop} {md : Region.Mode} {S : World → Prop} {X : List Nat}
/-- Whatever order comes, from here on; behind each operation that is not let off the condition holds. -/
def anyY (P : Program) (md : Region.Mode) (ops : Array Oper) (Q : Exit → Act → World → Prop) (S : World → Prop) (X : List Nat) : Nat → Array Bool → Act → World → Prop
  | 0, listed, a, w => Region.ready md ops listed = [] ∧ Q .normal a w
  | fuel + 1, listed, a, w => (Region.ready md ops listed = [] → Q .normal a w) ∧
      ∀ i ∈ Region.ready md ops listed, wpOp P ops Q i (fun a' w' => (X.contains i = false → S w') ∧ anyY P md ops Q S X fuel (listed.setIfInBounds i true) a' w') a w
theorem any_of_anyY : ∀ (fuel : Nat) (listed : Array Bool) (a : Act) (w : World), anyY P md ops Q S X fuel listed a w → wpAny P md ops Q fuel listed a w
  | 0, _, _, _, h => h
  | fuel + 1, _, _, _, h => ⟨h.1, fun i hi => wpOp_mono (fun a' w' h' => any_of_anyY fuel _ a' w' h'.2) (h.2 i hi)⟩
/-- j waits for i, or for one of Z. -/
def waitsZ (md : Region.Mode) (ops : Array Oper) (i : Nat) (Z : List Nat) (j : Nat) : Bool :=
  match ops[j]? with
  | some o => o.after.any (fun e => Region.binds md e && (e.on == i || Z.contains e.on))
  | none => false
def growZ (md : Region.Mode) (ops : Array Oper) (listed : Array Bool) (i : Nat) : Nat → List Nat → List Nat
  | 0, Z => Z
  | n + 1, Z => growZ md ops listed i n (Z ++ (List.range ops.size).filter (fun j => !Z.contains j && !listed.getD j true && waitsZ md ops i Z j))
/-- Each that is let off comes behind i. -/
def laterZ (md : Region.Mode) (ops : Array Oper) (listed : Array Bool) (i : Nat) (X Z : List Nat) : Bool :=
  Z.all (fun j => waitsZ md ops i Z j && !listed.getD j true) && X.all (fun j => Z.contains j)
def later (md : Region.Mode) (ops : Array Oper) (listed : Array Bool) (i : Nat) (X : List Nat) : Bool := laterZ md ops listed i X (growZ md ops listed i ops.size [])

theorem waitsZ_not {i j : Nat} {Z : List Nat} {listed : Array Bool} (hw : waitsZ md ops i Z j = true) (hi : listed.getD i true = false) (hZ : ∀ z ∈ Z, listed.getD z true = false) : j ∉ Region.ready md ops listed := by
  intro hj
  obtain ⟨-, oj, hoj, hall⟩ := mem_ready.1 hj
  unfold waitsZ at hw
  rw [hoj] at hw
  simp only [Array.any_eq_true] at hw
  obtain ⟨n, hn, hb⟩ := hw
  simp only [Bool.and_eq_true, Bool.or_eq_true, beq_iff_eq] at hb
  have h1 := hall _ (Array.getElem_mem hn) hb.1
  have key : ∀ k, listed.getD k true = false → listed.getD k false = true → False := by
    intro k h2 h3
    rcases Nat.lt_or_ge k listed.size with h' | h'
    · simp [h'] at h2 h3
      rw [h2] at h3
      cases h3
    · simp [Array.getElem?_eq_none h'] at h2
  rcases hb.2 with h2 | h2
  · rw [h2] at h1
    exact key _ hi h1
  · exact key _ (hZ _ (by simpa using h2)) h1
/-- Number i, for which all that are let off wait, is taken first. -/
theorem anyY_first {i : Nat} {oi : Oper} {v : Value} {Z : List Nat} (hi : ops[i]? = some oi) (hsel : ∀ (j : Nat) (o : Oper) cs b, ops[j]? = some o → o.op ≠ .select cs b)
    (hQ : ∀ c a w, Q (.panic c) (a.put oi.dst v) w → Q (.panic c) a w) (hZ1 : ∀ z ∈ Z, waitsZ md ops i Z z = true) (hX : ∀ j ∈ X, j ∈ Z) :
    ∀ (fuel : Nat) (listed : Array Bool) (a : Act) (w : World), (∀ z ∈ Z, listed.getD z true = false) →
      (∀ j oj, ops[j]? = some oj → j ≠ i → listed.getD j true = false → (∀ e ∈ oj.after, Region.binds md e = true → e.on ≠ i) → oi.apart ops oj = true) →
      i ∈ Region.ready md ops listed → YieldsIf P ops S oi v a → S w →
      anyY P md ops Q S X fuel (listed.setIfInBounds i true) (a.put oi.dst v) w → anyY P md ops Q S X (fuel + 1) listed a w := by
  intro fuel
  induction fuel with
  | zero =>
    intro listed a w hZ hfree hr hy hS H
    refine ⟨fun h => (by rw [h] at hr; cases hr), fun j hj => ?_⟩
    by_cases hji : j = i
    · subst hji
      exact hy.wpOp hi hS ⟨fun _ => hS, H⟩
    · have hm := ready_mono hj hji
      rw [H.1] at hm
      cases hm
  | succ fuel ih =>
    intro listed a w hZ hfree hr hy hS H
    refine ⟨fun h => (by rw [h] at hr; cases hr), fun j hj => ?_⟩
    by_cases hji : j = i
    · subst hji
      exact hy.wpOp hi hS ⟨fun _ => hS, H⟩
    · have h1 := H.2 j (ready_mono hj hji)
      obtain ⟨hjun, oj, hoj, hall⟩ := mem_ready.1 hj
      have hjZ : j ∉ Z := fun hz => waitsZ_not (hZ1 j hz) (mem_ready.1 hr).1 hZ hj
      have hnot : ∀ e ∈ oj.after, Region.binds md e = true → e.on ≠ i := fun e he hb heq => by
        have g1 := hall e he hb
        have g0 := (mem_ready.1 hr).1
        rw [heq] at g1
        rcases Nat.lt_or_ge i listed.size with h' | h'
        · simp [h'] at g0 g1
          rw [g0] at g1
          cases g1
        · simp [Array.getElem?_eq_none h'] at g1
      have hjx : X.contains j = false := by
        cases hc : X.contains j with
        | false => rfl
        | true => exact absurd (hX j (by simpa using hc)) hjZ
      have h2 := wpOp_putIf hoj (hfree j oj hoj hji hjun hnot) (fun cs b => hsel i oi cs b hi) (fun cs b => hsel j oj cs b hoj) hQ hy h1
      have hZ' : ∀ z ∈ Z, (listed.setIfInBounds j true).getD z true = false := fun z hz => by
        have hne : j ≠ z := fun h => hjZ (by rw [h]; exact hz)
        rw [getD_set_ne true hne]
        exact hZ z hz
      have hfree' : ∀ k ok, ops[k]? = some ok → k ≠ i → (listed.setIfInBounds j true).getD k true = false →
          (∀ e ∈ ok.after, Region.binds md e = true → e.on ≠ i) → oi.apart ops ok = true := fun k ok hk hki hun hno => by
        refine hfree k ok hk hki ?_ hno
        by_cases hjk : j = k
        · subst hjk
          exact hjun
        · rw [getD_set_ne true hjk] at hun
          exact hun
      refine wpOp_mono (fun a' w' h3 => ⟨fun _ => h3.2.1 hjx, ih (listed.setIfInBounds j true) a' w' hZ' hfree' (ready_mono hr (Ne.symm hji)) h3.1 (h3.2.1 hjx) ?_⟩) h2
      rw [Array.setIfInBounds_comm _ _ hji]
      exact h3.2.2
theorem anyY_take {i : Nat} {oi : Oper} {v : Value} {fuel : Nat} {listed : Array Bool} {a : Act} {w : World} (hi : ops[i]? = some oi)
    (hs : Region.noSelect ops = true) (hl : later md ops listed i X = true) (hf : Region.free md ops listed i = true) (hr : (Region.ready md ops listed).contains i = true)
    (hQ : ∀ c a w, Q (.panic c) (a.put oi.dst v) w → Q (.panic c) a w) (hy : YieldsIf P ops S oi v a) (hS : S w)
    (h : anyY P md ops Q S X fuel (listed.setIfInBounds i true) (a.put oi.dst v) w) : anyY P md ops Q S X (fuel + 1) listed a w := by
  unfold later laterZ at hl
  simp only [Bool.and_eq_true, List.all_eq_true, Bool.not_eq_true'] at hl
  exact anyY_first hi (Region.noSelect_spec hs) hQ (fun z hz => (hl.1 z hz).1) (fun j hj => by simpa using hl.2 j hj) fuel listed a w (fun z hz => (hl.1 z hz).2) (Region.free_spec hi hf) (by simpa using hr) hy hS h
/-- A number that is let off and yields in whatever world is taken first. -/
theorem anyY_first0 {i : Nat} {oi : Oper} {v : Value} (hi : ops[i]? = some oi) (hsel : ∀ (j : Nat) (o : Oper) cs b, ops[j]? = some o → o.op ≠ .select cs b)
    (hQ : ∀ c a w, Q (.panic c) (a.put oi.dst v) w → Q (.panic c) a w) (hX : X.contains i = true) :
    ∀ (fuel : Nat) (listed : Array Bool) (a : Act) (w : World),
      (∀ j oj, ops[j]? = some oj → j ≠ i → listed.getD j true = false → (∀ e ∈ oj.after, Region.binds md e = true → e.on ≠ i) → oi.apart ops oj = true) →
      i ∈ Region.ready md ops listed → YieldsIf P ops (fun _ => True) oi v a →
      anyY P md ops Q S X fuel (listed.setIfInBounds i true) (a.put oi.dst v) w → anyY P md ops Q S X (fuel + 1) listed a w := by
  intro fuel
  induction fuel with
  | zero =>
    intro listed a w hfree hr hy H
    refine ⟨fun h => (by rw [h] at hr; cases hr), fun j hj => ?_⟩
    by_cases hji : j = i
    · subst hji
      exact hy.wpOp hi trivial ⟨fun h => (by rw [hX] at h; cases h), H⟩
    · have hm := ready_mono hj hji
      rw [H.1] at hm
      cases hm
  | succ fuel ih =>
    intro listed a w hfree hr hy H
    refine ⟨fun h => (by rw [h] at hr; cases hr), fun j hj => ?_⟩
    by_cases hji : j = i
    · subst hji
      exact hy.wpOp hi trivial ⟨fun h => (by rw [hX] at h; cases h), H⟩
    · have h1 := H.2 j (ready_mono hj hji)
      obtain ⟨hjun, oj, hoj, hall⟩ := mem_ready.1 hj
      have hnot : ∀ e ∈ oj.after, Region.binds md e = true → e.on ≠ i := fun e he hb heq => by
        have g1 := hall e he hb
        have g0 := (mem_ready.1 hr).1
        rw [heq] at g1
        rcases Nat.lt_or_ge i listed.size with h' | h'
        · simp [h'] at g0 g1
          rw [g0] at g1
          cases g1
        · simp [Array.getElem?_eq_none h'] at g1
      have h2 := wpOp_putIf hoj (hfree j oj hoj hji hjun hnot) (fun cs b => hsel i oi cs b hi) (fun cs b => hsel j oj cs b hoj) hQ hy h1
      have hfree' : ∀ k ok, ops[k]? = some ok → k ≠ i → (listed.setIfInBounds j true).getD k true = false →
          (∀ e ∈ ok.after, Region.binds md e = true → e.on ≠ i) → oi.apart ops ok = true := fun k ok hk hki hun hno => by
        refine hfree k ok hk hki ?_ hno
        by_cases hjk : j = k
        · subst hjk
          exact hjun
        · rw [getD_set_ne true hjk] at hun
          exact hun
      refine wpOp_mono (fun a' w' h3 => ⟨h3.2.1, ih (listed.setIfInBounds j true) a' w' hfree' (ready_mono hr (Ne.symm hji)) h3.1 ?_⟩) h2
      rw [Array.setIfInBounds_comm _ _ hji]
      exact h3.2.2
theorem anyY_take0 {i : Nat} {oi : Oper} {v : Value} {fuel : Nat} {listed : Array Bool} {a : Act} {w : World} (hi : ops[i]? = some oi)
    (hs : Region.noSelect ops = true) (hl : X.contains i = true) (hf : Region.free md ops listed i = true) (hr : (Region.ready md ops listed).contains i = true)
    (hQ : ∀ c a w, Q (.panic c) (a.put oi.dst v) w → Q (.panic c) a w) (hy : YieldsIf P ops (fun _ => True) oi v a)
    (h : anyY P md ops Q S X fuel (listed.setIfInBounds i true) (a.put oi.dst v) w) : anyY P md ops Q S X (fuel + 1) listed a w :=
  anyY_first0 hi (Region.noSelect_spec hs) hQ hl fuel listed a w (Region.free_spec hi hf) (by simpa using hr) hy h
theorem anyY_done {listed : Array Bool} {a : Act} {w : World} (hr : Region.ready md ops listed = []) (h : Q .normal a w) : ∀ fuel, anyY P md ops Q S X fuel listed a w
  | 0 => ⟨hr, h⟩
  | _ + 1 => ⟨fun _ => h, by rw [hr]; simp⟩
theorem region_anyY {id : Nat} {a : Act} {w : World} (hm : P.follows .mixedOrders = true) (hS : S w.drew)
    (h : S w.drew → anyY P .any ops Q S X ops.size (Array.replicate ops.size false) a w.drew) : (Code.region id ops true).wp P Q a w :=
  wp_region_any hm (any_of_anyY _ _ _ _ (h hS))
/-- One operation alone may come up, and is not let off. -/
theorem anyY_one {i : Nat} {o : Oper} {fuel : Nat} {listed : Array Bool} {a : Act} {w : World} (hr : Region.ready md ops listed = [i]) (ho : ops[i]? = some o)
    (h : ∀ K' : Act → World → Prop, Shut (∀ a w, S w → (S w → anyY P md ops Q S X fuel (listed.setIfInBounds i true) a w) → K' a w) → if Region.wanted o (yielded ops a.tmps) = true then Oper.wp P o a w K' Q else K' (a.put o.dst undef) w) :
    anyY P md ops Q S X (fuel + 1) listed a w := by
  refine ⟨fun h0 => absurd (hr ▸ h0) (by simp), fun j hj => ?_⟩
  rw [hr] at hj
  obtain rfl := List.mem_singleton.1 hj
  exact wpOp_step ho (fun K' hK => h K' (fun a w hS hW => hK a w ⟨fun _ => hS, hW hS⟩))
/-- One operation alone may come up, and is let off. -/
theorem anyY_last {x : Nat} {o : Oper} {fuel : Nat} {listed : Array Bool} {a : Act} {w : World} (hx : X.contains x = true) (hr : Region.ready md ops listed = [x]) (ho : ops[x]? = some o)
    (h : ∀ K' : Act → World → Prop, Shut (∀ a w, anyY P md ops Q S X fuel (listed.setIfInBounds x true) a w → K' a w) → if Region.wanted o (yielded ops a.tmps) = true then Oper.wp P o a w K' Q else K' (a.put o.dst undef) w) :
    anyY P md ops Q S X (fuel + 1) listed a w := by
  refine ⟨fun h0 => absurd (hr ▸ h0) (by simp), fun j hj => ?_⟩
  rw [hr] at hj
  obtain rfl := List.mem_singleton.1 hj
  exact wpOp_step ho (fun K' hK => h K' (fun a w hW => hK a w ⟨fun h => (by rw [hx] at h; cases h), hW⟩))
end
end Go.Proofs.Ytbfbdhjeoknjkaa
