/-
  Rows of cells written in place: copy, clear and append in the row of a slice.
-/
import Derived.Test.YtbfbdhjeoknjkaaBase
import Derived.Laws.IdiomCopy
import Derived.Lib.AppendZerosOnto
import Derived.Lib.Overlaps
import Derived.Deep.RegionLaw
namespace Go.Proofs.Ytbfbdhjeoknjkaa
open Go.RowKit

/-- A row whose cells from o on were written. -/
theorem setCells_row {g : Nat} {e : TypeId} : ∀ (vs : List Value) (o : Nat) (w : World) (cur : Array Value), w.heap[g]? = some (.cells cur e (0, 0)) →
    ∃ cur', (w.setCells g o vs).heap[g]? = some (.cells cur' e (0, 0)) ∧ cur'.size = cur.size ∧ (∀ j, cur'[j]? = if o ≤ j ∧ j < o + vs.length ∧ j < cur.size then vs[j - o]? else cur[j]?) ∧ w.grownBy (w.setCells g o vs) (some g)
  | [], o, w, cur, h => ⟨cur, h, rfl, fun j => by rw [if_neg (by simp; omega)], World.grownBy.refl w _⟩
  | v :: r, o, w, cur, h => by
    have h1 := Go.heap_setCell_same w g o cur e v h
    obtain ⟨cur', h2, h3, h4, h5⟩ := setCells_row r (o + 1) _ _ h1
    refine ⟨cur', h2, by rw [h3, Array.size_setIfInBounds], fun j => ?_, grownBy_trans (grownBy_setCell g o v rfl) h5⟩
    rw [h4 j, Array.size_setIfInBounds, Array.getElem?_setIfInBounds]
    by_cases hj : j = o
    · subst hj
      by_cases hs : j < cur.size
      · rw [if_neg (by omega), if_pos rfl, if_pos hs, if_pos ⟨by omega, by simp, hs⟩]
        simp
      · rw [if_neg (by omega), if_pos rfl, if_neg hs, if_neg (by omega), Array.getElem?_eq_none (by omega)]
    · by_cases hin : o + 1 ≤ j ∧ j < o + 1 + r.length ∧ j < cur.size
      · rw [if_pos hin, if_pos (by simp only [List.length_cons]; omega)]
        rw [show j - o = (j - (o + 1)) + 1 from by omega, List.getElem?_cons_succ]
      · rw [if_neg hin, if_neg (by omega), if_neg (by simp only [List.length_cons]; omega)]

theorem drew_sets (g : Nat) : ∀ (vs : List Value) (o : Nat) (w : World), w.drew.setCells g o vs = (w.setCells g o vs).drew
  | [], _, _ => rfl
  | v :: r, o, w => drew_sets g r (o + 1) (w.setCell ⟨g, o, none⟩ v)
theorem sets_cell (g : Nat) (vs : List Value) (o : Nat) (w : World) (cur : Array Value) {e : TypeId} (h : w.heap[g]? = some (.cells cur e (0, 0))) (j : Nat) (hj : j < cur.size) : ((w.setCells g o vs).cell? ⟨g, j, none⟩).isSome = true := by
  obtain ⟨c1, b1, z1, -, -⟩ := setCells_row vs o w cur h
  rw [cell_of_row _ g j c1 _ (0, 0) b1, Array.getElem?_eq_getElem (by omega)]
  rfl
theorem sets_frozen (g : Nat) (vs : List Value) (o : Nat) (w : World) (cur : Array Value) {e : TypeId} (h : w.heap[g]? = some (.cells cur e (0, 0))) (j : Nat) : (w.setCells g o vs).frozen? ⟨g, j, none⟩ = false := by
  obtain ⟨c1, b1, z1, -, -⟩ := setCells_row vs o w cur h
  exact frozen_of_row _ g j c1 _ b1
theorem sets_other (g : Nat) (vs : List Value) (o : Nat) (w : World) (cur : Array Value) {e : TypeId} (h : w.heap[g]? = some (.cells cur e (0, 0))) {b : Nat} (hb : b < w.heap.size) (hne : b ≠ g) : (w.setCells g o vs).heap[b]? = w.heap[b]? := by
  obtain ⟨_, _, _, _, f⟩ := setCells_row vs o w cur h
  exact f.block b hb (fun e => hne (Option.some.inj e))

theorem own_row {w : World} {lo hi sz n cap g : Nat} {e : TypeId} {xs : List Value} {cur : Array Value} (h : w.heap[g]? = some (.cells cur e (0, 0))) (h1 : lo ≤ g) (h2 : g < hi) (h3 : n ≤ cap) (h4 : cap ≤ maxLen) (hs : cur.size = cap * sz)
    (hx : xs.length = n * sz) (hg : ∀ j, j < n * sz → cur[j]? = xs[j]?) : Own w lo hi e sz (.slice (some ⟨g, 0, none⟩) n cap) n xs := by
  refine ⟨hx, .inr ⟨g, cap, cur, rfl, h1, h2, h, h3, h4, hs, ?_⟩⟩
  apply List.ext_getElem?
  intro j
  have hl : n * sz ≤ cap * sz := Nat.mul_le_mul_right _ h3
  rw [List.getElem?_take]
  split
  · rename_i hj
    rw [← hg j hj]
    simp
  · rw [List.getElem?_eq_none (by omega)]

theorem Own.block {w : World} {lo hi sz n : Nat} {e : TypeId} {v : Value} {xs : List Value} (h : Own w lo hi e sz v n xs) (hn : 0 < n) :
    ∃ g cap cur, v = .slice (some ⟨g, 0, none⟩) n cap ∧ w.heap[g]? = some (.cells cur e (0, 0)) ∧ lo ≤ g ∧ g < hi ∧ n ≤ cap ∧ cap ≤ maxLen ∧ cur.size = cap * sz ∧ xs.length = n * sz ∧ ∀ j, j < n * sz → cur[j]? = xs[j]? := by
  rcases h.2 with ⟨rfl, A, rfl⟩ | ⟨g, cap, cur, rfl, h4, h5, h6, h7, h8, h9, rfl⟩
  · omega
  · refine ⟨g, cap, cur, rfl, h6, h4, h5, h7, h8, h9, h.1, fun j hj => ?_⟩
    rw [List.getElem?_take, if_pos hj]
    simp

section
variable {P : Program} (w : World)
theorem run_copy_rows (dT sT ty elem : TypeId) (i : TypeInfo) (sz : Nat) (b o dLen dCap : Nat) (a : Addr) (sLen sCap : Nat) (cs : List Value)
    (hu : P.underlying dT = some (.slice elem)) (hi : P.info? elem = some i) (hs : i.size = sz) (hn : cs.length = Nat.min sLen dLen * sz)
    (hsrc : ∀ j v, cs[j]? = some v → w.cell? (a.add j) = some v) (hc : ∀ j, j < cs.length → (w.cell? ⟨b, o + j, none⟩).isSome = true) (hf : ∀ j, j < cs.length → w.frozen? ⟨b, o + j, none⟩ = false) (h1 : ∀ v ∈ cs, v.oneCell' = true) :
    (Builtin.copy_ #[dT, sT] ty #[.slice (some ⟨b, o, none⟩) dLen dCap, .slice (some a) sLen sCap]).run P w = .ok (goInt (Nat.min sLen dLen)) (w.setCells b o cs) := by
  have hl := run_loadCells_list (P := P) w a cs hsrc
  have hst := run_storeCells_cells (P := P) b o cs 0 w (by simpa using hc) (by simpa using hf) h1
  simp only [Nat.add_zero] at hst
  rw [hn] at hl
  simp [Builtin.copy_, run_underlying hu, Builtin.lenOf, Builtin.firstCells, sizeOf, typeInfo, hi, hs, hl, hst]

theorem run_clear_rows (t e ty : TypeId) (z : Value) (ht : P.underlying t = some (.slice e)) (hv : ∀ w, (zeroValue e).run P w = .ok z w) (h1 : ∀ u ∈ z.cells.toList, u.oneCell' = true) (h0 : 0 < z.cells.size) (b o n c : Nat) (hn : 0 < n)
    (hc : ∀ j, j < n * z.cells.size → (w.cell? ⟨b, o + j, none⟩).isSome = true) (hf : ∀ j, j < n * z.cells.size → w.frozen? ⟨b, o + j, none⟩ = false) :
    (Builtin.clear_ #[t] ty #[.slice (some ⟨b, o, none⟩) n c]).run P w = .ok (.tuple #[]) (w.setCells b o (Builtin.zeroCells z.cells n).toList) := by
  have hsz : (Builtin.zeroCells z.cells n).toList.length = n * z.cells.size := by simp [Builtin.zeroCells]
  have hst := run_storeCells_cells (P := P) b o (Builtin.zeroCells z.cells n).toList 0 w (by rw [hsz]; simpa using hc) (by rw [hsz]; simpa using hf) (by
    intro v hv'
    simp only [Builtin.zeroCells, Array.toList_map, Array.toList_range, List.mem_map, List.mem_range] at hv'
    obtain ⟨k, hk, rfl⟩ := hv'
    refine h1 _ ?_
    have hlt := Nat.mod_lt k h0
    rw [getElem!_pos z.cells _ hlt]
    exact Array.getElem_mem_toList hlt)
  simp only [Nat.add_zero] at hst
  obtain ⟨m, rfl⟩ : ∃ m, n = m + 1 := ⟨n - 1, by omega⟩
  simp [Builtin.clear_, run_underlying ht, hv, hst]
end

section
variable {P : Program} {w w' : World} {o : Oper} {a : Act} {u v r : Value} {d s : Operand} {t : TypeId}
theorem wp_cp {K : Act → World → Prop} {Q : Exit → Act → World → Prop} (ho : o.op = .call { callee := .builtin .copy, args := #[d, s], argTypes := #[t, t] }) (hd : a.eval d = v) (hs : a.eval s = u)
    (hr : (Builtin.copy_ #[t, t] o.type #[v, u]).run P w = .ok r w') (h : K (a.put o.dst r) w') : o.wp P a w K Q := by
  unfold Oper.wp execOp
  simp only [ho, resolve, invoke, builtin, Sem.run_bind, Sem.run_pure, Result.andThen_ok, List.map_toArray, List.map_cons, List.map_nil, hd, hs, hr]
  exact h
/-- A copy whose run is known, in a plain region. -/
theorem wpList_cp {ops : Array Oper} {rest : List Oper} {Q : Exit → Act → World → Prop} (hg : o.guard = none) (ho : o.op = .call { callee := .builtin .copy, args := #[d, s], argTypes := #[t, t] }) (hd : a.eval d = v) (hs : a.eval s = u)
    (hr : (Builtin.copy_ #[t, t] o.type #[v, u]).run P w = .ok r w') (h : wpList P ops Q rest (a.put o.dst r) w') : wpList P ops Q (o :: rest) a w :=
  wpList_plain hg fun _ hK => wp_cp ho hd hs hr (hK _ _ h)
/-- The same, as a step of a region that draws. -/
theorem step_cp {ops : Array Oper} {K : Act → World → Prop} {Q : Exit → Act → World → Prop} {E : Prop} (hg : o.guard = none) (ho : o.op = Op.call { callee := Callee.builtin Builtin.copy, args := #[d, s], argTypes := #[t, t] }) (hd : a.eval d = v) (hs : a.eval s = u)
    (hr : (Builtin.copy_ #[t, t] o.type #[v, u]).run P w = .ok r w') (h : K (a.put o.dst r) w') : if Region.wanted o (yielded ops a.tmps) = true then Oper.wp P o a w K Q else E := by
  rw [if_pos (by simp [Region.wanted, hg])]
  exact wp_cp ho hd hs hr h
/-- An append whose run is known. -/
theorem wpList_ap {ops : Array Oper} {rest : List Oper} {Q : Exit → Act → World → Prop} {t' : TypeId} (hg : o.guard = none) (ho : o.op = .call { callee := .builtin .append, args := #[d, s], argTypes := #[t, t'] }) (hd : a.eval d = v) (hs : a.eval s = u)
    (hr : (Builtin.append_ #[t, t'] o.type #[v, u]).run P w = .ok r w') (h : wpList P ops Q rest (a.put o.dst r) w') : wpList P ops Q (o :: rest) a w :=
  wpList_plain hg fun _ hK => by
    unfold Oper.wp execOp
    simp only [ho, resolve, invoke, builtin, Sem.run_bind, Sem.run_pure, Result.andThen_ok, List.map_toArray, List.map_cons, List.map_nil, hd, hs, hr]
    exact hK _ _ h
end

/-! ### elements taken out and put in, in the row itself -/

section
variable {α : Type} {enc : α → List Value} {sz : Nat} {l : List α}

theorem flat_at (hsz : ∀ x, (enc x).length = sz) (h0 : 0 < sz) (l : List α) (j : Nat) : (l.flatMap enc)[j]? = (l[j / sz]?).bind (fun x => (enc x)[j % sz]?) := by
  have hr := Nat.mod_lt j h0
  have he : j / sz * sz + j % sz = j := by rw [Nat.mul_comm]; exact Nat.div_add_mod j sz
  cases hx : l[j / sz]? with
  | some x =>
    conv => lhs; rw [← he]
    rw [flat_get hsz hx hr]
    rfl
  | none =>
    rw [List.getElem?_eq_none_iff] at hx
    rw [List.getElem?_eq_none]
    · rfl
    · rw [flat_length hsz]
      calc l.length * sz ≤ j / sz * sz := Nat.mul_le_mul_right _ hx
        _ ≤ j := Nat.div_mul_le_self j sz

theorem div_lt_sz {j k sz : Nat} (h0 : 0 < sz) : j / sz < k ↔ j < k * sz := Nat.div_lt_iff_lt_mul h0
/-- The row behind a delete. -/
theorem del_row (hsz : ∀ x, (enc x).length = sz) (h0 : 0 < sz) {n i : Nat} (hl : l.length = n) (hi : i < n) {w : World} {lo hi' g cap : Nat} {e : TypeId} (ho : Own w lo hi' e sz (.slice (some ⟨g, 0, none⟩) n cap) n (l.flatMap enc)) (zs : List Value) (_ : zs.length = sz) :
    Own ((w.setCells g (i * sz) ((l.drop (i + 1)).flatMap enc)).setCells g ((n - 1) * sz) zs) lo hi' e sz (.slice (some ⟨g, 0, none⟩) (n - 1) cap) (n - 1) ((l.take i ++ l.drop (i + 1)).flatMap enc) ∧
    w.grownBy ((w.setCells g (i * sz) ((l.drop (i + 1)).flatMap enc)).setCells g ((n - 1) * sz) zs) (some g) := by
  obtain ⟨g', cap', cur, hv, hb, h1, h2, h3, h4, h5, h6, h7⟩ := ho.block (by omega)
  injection hv with hv _ hv3
  injection hv with hv
  injection hv with hv
  subst hv hv3
  obtain ⟨c1, b1, s1, g1, f1⟩ := setCells_row ((l.drop (i + 1)).flatMap enc) (i * sz) w cur hb
  obtain ⟨c2, b2, s2, g2, f2⟩ := setCells_row zs ((n - 1) * sz) _ c1 b1
  refine ⟨own_row b2 h1 h2 (by omega) h4 (by rw [s2, s1, h5]) ?_ ?_, grownBy_trans f1 f2⟩
  · rw [flat_length hsz, List.length_append, List.length_take, List.length_drop, hl]
    congr 1
    omega
  · intro j hj
    have hq := (div_lt_sz h0).2 hj
    have hjn : j < n * sz := Nat.lt_of_lt_of_le hj (Nat.mul_le_mul_right _ (by omega))
    have hjc : j < cur.size := by rw [h5]; exact Nat.lt_of_lt_of_le hjn (Nat.mul_le_mul_right _ h3)
    rw [g2 j, if_neg (by omega), g1 j, flat_at hsz h0 (l.take i ++ l.drop (i + 1))]
    have hdl : ((l.drop (i + 1)).flatMap enc).length = (n - 1 - i) * sz := by rw [flat_length hsz, List.length_drop, hl]; congr 1; omega
    have hsum : i * sz + (n - 1 - i) * sz = (n - 1) * sz := by rw [← Nat.add_mul]; congr 1; omega
    by_cases hji : j < i * sz
    · have hqi := (div_lt_sz h0).2 hji
      rw [if_neg (by omega), h7 j hjn, flat_at hsz h0, List.getElem?_append_left (by rw [List.length_take]; omega), List.getElem?_take, if_pos hqi]
    · have hqi : i ≤ j / sz := by
        rcases Nat.lt_or_ge (j / sz) i with h | h
        · exact absurd ((div_lt_sz h0).1 h) hji
        · exact h
      have e1 : (j - i * sz) / sz = j / sz - i := by rw [Nat.mul_comm, Nat.sub_mul_div]
      have e2 : (j - i * sz) % sz = j % sz := by rw [Nat.mul_comm]; exact Nat.sub_mul_mod (by rw [Nat.mul_comm]; omega)
      rw [if_pos ⟨by omega, by omega, hjc⟩, flat_at hsz h0, e1, e2, List.getElem?_append_right (by rw [List.length_take]; omega), List.length_take, Nat.min_eq_left (by omega)]

theorem ins_cells (hsz : ∀ x, (enc x).length = sz) (h0 : 0 < sz) {n i : Nat} (hl : l.length = n) (hi : i < n) {x : α} {c2 : Array Value}
    (hx : ∀ j, i * sz ≤ j → j < (i + 1) * sz → c2[j]? = (enc x)[j - i * sz]?) (hd : ∀ j, (i + 1) * sz ≤ j → j < (n + 1) * sz → c2[j]? = ((l.drop i).flatMap enc)[j - (i + 1) * sz]?) (ht : ∀ j, j < i * sz → c2[j]? = (l.flatMap enc)[j]?) :
    ∀ j, j < (n + 1) * sz → c2[j]? = ((l.take i ++ x :: l.drop i).flatMap enc)[j]? := by
  intro j hj
  rw [flat_at hsz h0 (l.take i ++ x :: l.drop i)]
  have hm : (i + 1) * sz = i * sz + sz := Nat.succ_mul i sz
  have hlen : (l.take i).length = i := by rw [List.length_take]; omega
  by_cases h1 : j < i * sz
  · have hq := (div_lt_sz h0).2 h1
    rw [ht j h1, flat_at hsz h0, List.getElem?_append_left (by omega), List.getElem?_take, if_pos hq]
  · have hge : i ≤ j / sz := by
      rcases Nat.lt_or_ge (j / sz) i with h | h
      · exact absurd ((div_lt_sz h0).1 h) h1
      · exact h
    rw [List.getElem?_append_right (by omega), hlen]
    by_cases h2 : j < (i + 1) * sz
    · have hq := (div_lt_sz h0).2 h2
      have he : j / sz = i := by omega
      rw [hx j (by omega) h2, he, Nat.sub_self]
      have : j % sz = j - i * sz := by
        have := Nat.div_add_mod j sz
        rw [he, Nat.mul_comm] at this
        omega
      rw [this]
      rfl
    · have hge2 : i + 1 ≤ j / sz := by
        rcases Nat.lt_or_ge (j / sz) (i + 1) with h | h
        · exact absurd ((div_lt_sz h0).1 h) h2
        · exact h
      have e1 : (j - (i + 1) * sz) / sz = j / sz - (i + 1) := by rw [Nat.mul_comm, Nat.sub_mul_div]
      have e2 : (j - (i + 1) * sz) % sz = j % sz := by rw [Nat.mul_comm]; exact Nat.sub_mul_mod (by rw [Nat.mul_comm]; omega)
      rw [hd j (by omega) hj, flat_at hsz h0, e1, e2, show j / sz - i = (j / sz - (i + 1)) + 1 from by omega, List.getElem?_cons_succ]

/-- The row behind an insert where there is room. -/
theorem ins_row (hsz : ∀ x, (enc x).length = sz) (h0 : 0 < sz) {n i : Nat} (hl : l.length = n) (hi : i < n) (x : α) {w : World} {lo hi' g cap : Nat} {e : TypeId} (ho : Own w lo hi' e sz (.slice (some ⟨g, 0, none⟩) n cap) n (l.flatMap enc)) (hroom : n + 1 ≤ cap) :
    Own ((w.setCells g ((i + 1) * sz) ((l.drop i).flatMap enc)).setCells g (i * sz) (enc x)) lo hi' e sz (.slice (some ⟨g, 0, none⟩) (n + 1) cap) (n + 1) ((l.take i ++ x :: l.drop i).flatMap enc) ∧
    w.grownBy ((w.setCells g ((i + 1) * sz) ((l.drop i).flatMap enc)).setCells g (i * sz) (enc x)) (some g) := by
  obtain ⟨g', cap', cur, hv, hb, h1, h2, h3, h4, h5, h6, h7⟩ := ho.block (by omega)
  injection hv with hv _ hv3
  injection hv with hv
  injection hv with hv
  subst hv hv3
  obtain ⟨c1, b1, s1, g1, f1⟩ := setCells_row ((l.drop i).flatMap enc) ((i + 1) * sz) w cur hb
  obtain ⟨c2, b2, s2, g2, f2⟩ := setCells_row (enc x) (i * sz) _ c1 b1
  have hm : (i + 1) * sz = i * sz + sz := Nat.succ_mul i sz
  have hc : (n + 1) * sz ≤ cap * sz := Nat.mul_le_mul_right _ hroom
  have hin : i * sz ≤ n * sz := Nat.mul_le_mul_right _ (by omega)
  have hdl : ((l.drop i).flatMap enc).length = (n - i) * sz := by rw [flat_length hsz, List.length_drop, hl]
  have hsum : (i + 1) * sz + (n - i) * sz = (n + 1) * sz := by rw [← Nat.add_mul]; congr 1; omega
  refine ⟨own_row b2 h1 h2 hroom h4 (by rw [s2, s1, h5]) ?_ (ins_cells hsz h0 hl hi ?_ ?_ ?_), grownBy_trans f1 f2⟩
  · rw [flat_length hsz, List.length_append, List.length_take, List.length_cons, List.length_drop, hl]
    congr 1
    omega
  · intro j ha hb'
    rw [g2 j, if_pos ⟨ha, by rw [hsz]; omega, by rw [s1, h5]; have : (i + 1) * sz ≤ (n + 1) * sz := Nat.mul_le_mul_right _ (by omega); omega⟩]
  · intro j ha hb'
    rw [g2 j, if_neg (by rw [hsz]; omega), g1 j, if_pos ⟨ha, by omega, by omega⟩]
  · intro j ha
    rw [g2 j, if_neg (by omega), g1 j, if_neg (by omega), h7 j (by omega)]

/-- The row behind an insert into a new row. -/
theorem ins_new (hsz : ∀ x, (enc x).length = sz) (h0 : 0 < sz) {n i : Nat} (hl : l.length = n) (hi : i < n) (x : α) {w : World} {g cap : Nat} {e : TypeId} {cur : Array Value} (hb : w.heap[g]? = some (.cells cur e (0, 0))) (hs : cur.size = cap * sz) (hroom : n + 1 ≤ cap) (hcm : cap ≤ maxLen)
    (h7 : ∀ j, j < i * sz → cur[j]? = (l.flatMap enc)[j]?) :
    Own ((w.setCells g (i * sz) (enc x)).setCells g ((i + 1) * sz) ((l.drop i).flatMap enc)) g (g + 1) e sz (.slice (some ⟨g, 0, none⟩) (n + 1) cap) (n + 1) ((l.take i ++ x :: l.drop i).flatMap enc) ∧
    w.grownBy ((w.setCells g (i * sz) (enc x)).setCells g ((i + 1) * sz) ((l.drop i).flatMap enc)) (some g) := by
  obtain ⟨c1, b1, s1, g1, f1⟩ := setCells_row (enc x) (i * sz) w cur hb
  obtain ⟨c2, b2, s2, g2, f2⟩ := setCells_row ((l.drop i).flatMap enc) ((i + 1) * sz) _ c1 b1
  have hm : (i + 1) * sz = i * sz + sz := Nat.succ_mul i sz
  have hc : (n + 1) * sz ≤ cap * sz := Nat.mul_le_mul_right _ hroom
  have hdl : ((l.drop i).flatMap enc).length = (n - i) * sz := by rw [flat_length hsz, List.length_drop, hl]
  have hsum : (i + 1) * sz + (n - i) * sz = (n + 1) * sz := by rw [← Nat.add_mul]; congr 1; omega
  refine ⟨own_row b2 (Nat.le_refl _) (Nat.lt_succ_self _) hroom hcm (by rw [s2, s1, hs]) ?_ (ins_cells hsz h0 hl hi ?_ ?_ ?_), grownBy_trans f1 f2⟩
  · rw [flat_length hsz, List.length_append, List.length_take, List.length_cons, List.length_drop, hl]
    congr 1
    omega
  · intro j ha hb'
    rw [g2 j, if_neg (by omega), g1 j, if_pos ⟨ha, by rw [hsz]; omega, by rw [hs]; have : (i + 1) * sz ≤ (n + 1) * sz := Nat.mul_le_mul_right _ (by omega); omega⟩]
  · intro j ha hb'
    rw [g2 j, if_pos ⟨ha, by omega, by rw [s1, hs]; omega⟩]
  · intro j ha
    rw [g2 j, if_neg (by omega), g1 j, if_neg (by omega), h7 j ha]
end

end Go.Proofs.Ytbfbdhjeoknjkaa
