/-
  Rows that ascend by a key: places, what stands there, one put in, one taken out. No program in sight.
-/
import Derived.RowKit
namespace Go.Proofs.Ytbfbdhjeoknjkaa
open Go.RowKit (wrap64)

/-- Keys that ascend, each from 0 to 10^9. -/
def Asc (ks : List Int) : Prop := ks.Pairwise (· < ·) ∧ ∀ k ∈ ks, 0 ≤ k ∧ k ≤ 1000000000
def lessAt (ks : List Int) (k : Int) (i : Nat) : Bool := decide (wrap64 (ks.getD i 0 - k) < 0)
def foundAt (ks : List Int) (k : Int) (i : Nat) : Bool := decide (ks[i]? = some k)
/-- What a search by halves leaves. -/
structure BS (ks : List Int) (k : Int) (i : Nat) : Prop where
  le : i ≤ ks.length
  lo : 0 < i → lessAt ks k (i - 1) = true
  hi : i < ks.length → lessAt ks k i = false
def posOf (ks : List Int) (k : Int) : Nat := (ks.takeWhile (fun x => decide (x < k))).length

theorem wrap64_zero {a k : Int} (h1 : -9223372036854775808 ≤ a) (h2 : a ≤ 9223372036854775807) (h3 : -9223372036854775808 ≤ k) (h4 : k ≤ 9223372036854775807) : wrap64 (a - k) = 0 ↔ a = k := by
  unfold wrap64
  omega

theorem takeWhile_pos {α : Type} {p : α → Bool} : ∀ {l : List α} {i : Nat}, (∀ j x, j < i → l[j]? = some x → p x = true) → (∀ x, l[i]? = some x → p x = false) → i ≤ l.length → (l.takeWhile p).length = i := by
  intro l
  induction l with
  | nil => intro i _ _ hi; simp at hi; simp [hi]
  | cons a l ih =>
    intro i h1 h2 hi
    cases i with
    | zero =>
      have := h2 a rfl
      simp [this]
    | succ i =>
      have ha := h1 0 a (by omega) rfl
      rw [List.takeWhile_cons, if_pos ha, List.length_cons]
      rw [ih (i := i) (fun j x hj hx => h1 (j + 1) x (by omega) (by simpa using hx)) (fun x hx => h2 x (by simpa using hx)) (by simp at hi; omega)]

theorem asc_lt {ks : List Int} (h : ks.Pairwise (· < ·)) {i j : Nat} {x y : Int} (hx : ks[i]? = some x) (hy : ks[j]? = some y) (hij : i < j) : x < y := by
  obtain ⟨h1, rfl⟩ := List.getElem?_eq_some_iff.1 hx
  obtain ⟨h2, rfl⟩ := List.getElem?_eq_some_iff.1 hy
  exact List.pairwise_iff_getElem.1 h i j h1 h2 hij

theorem lessAt_eq {ks : List Int} {k : Int} {i : Nat} {x : Int} (hx : ks[i]? = some x) : lessAt ks k i = decide (wrap64 (x - k) < 0) := by
  simp [lessAt, List.getD_eq_getElem?_getD, hx]
theorem lessAt_in {ks : List Int} {k : Int} {i : Nat} {x : Int} (ha : Asc ks) (hk : 0 ≤ k ∧ k ≤ 1000000000) (hx : ks[i]? = some x) : lessAt ks k i = decide (x < k) := by
  have := ha.2 x (List.mem_of_getElem? hx)
  rw [lessAt_eq hx]
  unfold wrap64
  rw [decide_eq_decide]
  omega

theorem BS.pos {ks : List Int} {k : Int} {i : Nat} (h : BS ks k i) (ha : Asc ks) (hk : 0 ≤ k ∧ k ≤ 1000000000) : posOf ks k = i := by
  refine takeWhile_pos ?_ ?_ h.le
  · intro j x hj hx
    have hl := h.lo (by omega)
    have hlen := h.le
    obtain ⟨y, hy⟩ : ∃ y, ks[i - 1]? = some y := ⟨ks[i - 1], List.getElem?_eq_getElem (by omega)⟩
    rw [lessAt_in ha hk hy] at hl
    have hy' : y < k := by simpa using hl
    have : x ≤ y := by
      rcases Nat.lt_or_ge j (i - 1) with h1 | h1
      · exact Int.le_of_lt (asc_lt ha.1 hx hy h1)
      · obtain rfl : j = i - 1 := by omega
        rw [hx] at hy
        injection hy with hy
        omega
    simp
    omega
  · intro x hx
    have hi := (List.getElem?_eq_some_iff.1 hx).1
    have := h.hi hi
    rwa [lessAt_in ha hk hx] at this

theorem pos_at {ks : List Int} {k : Int} {i : Nat} (ha : ks.Pairwise (· < ·)) (hx : ks[i]? = some k) : posOf ks k = i := by
  refine takeWhile_pos ?_ ?_ (Nat.le_of_lt (List.getElem?_eq_some_iff.1 hx).1)
  · intro j x hj hx'
    simpa using asc_lt ha hx' hx hj
  · intro x hx'
    rw [hx] at hx'
    injection hx' with hx'
    subst hx'
    simp

theorem BS.found {ks : List Int} {k : Int} {i : Nat} (h : BS ks k i) (ha : Asc ks) : foundAt ks k i = decide (k ∈ ks) := by
  unfold foundAt
  rw [decide_eq_decide]
  constructor
  · exact fun hx => List.mem_of_getElem? hx
  · intro hm
    have hk := ha.2 k hm
    obtain ⟨j, hj⟩ := List.mem_iff_getElem?.1 hm
    have h1 := pos_at ha.1 hj
    have h2 := h.pos ha hk
    obtain rfl : i = j := by omega
    exact hj

section
variable {α : Type} {key : α → Int} {l : List α}

/-- The one of a key. -/
def findK (key : α → Int) (l : List α) (k : Int) : Option α := l.find? (fun c => decide (key c = k))
theorem findK_at {i : Nat} {c : α} {k : Int} (ha : (l.map key).Pairwise (· < ·)) (hc : l[i]? = some c) (hk : key c = k) : findK key l k = some c := by
  unfold findK
  rw [List.find?_eq_some_iff_getElem]
  obtain ⟨hi, hci⟩ := List.getElem?_eq_some_iff.1 hc
  refine ⟨by simpa using hk, i, hi, hci, fun j hj => ?_⟩
  have hj' : j < l.length := by omega
  have := List.pairwise_iff_getElem.1 ha j i (by simpa using hj') (by simpa using hi) hj
  simp only [List.getElem_map, hci, hk] at this
  simp
  omega
theorem findK_none {k : Int} (h : k ∉ l.map key) : findK key l k = none := by
  unfold findK
  rw [List.find?_eq_none]
  intro x hx
  simp only [decide_eq_true_eq]
  intro e
  exact h (List.mem_map.2 ⟨x, hx, e⟩)
theorem findK_key {k : Int} {c : α} (h : findK key l k = some c) : key c = k := by
  unfold findK at h
  have := List.find?_some h
  simpa using this
theorem findK_mem {k : Int} {c : α} (h : findK key l k = some c) : c ∈ l := List.mem_of_find?_eq_some h
theorem findK_isSome {k : Int} : (findK key l k).isSome = decide (k ∈ l.map key) := by
  unfold findK
  rw [Bool.eq_iff_iff, List.find?_isSome, decide_eq_true_eq, List.mem_map]
  simp

/-- With c in its place. -/
def putK (key : α → Int) (l : List α) (c : α) : List α := l.filter (fun x => decide (key x < key c)) ++ c :: l.filter (fun x => decide (key c < key x))
def dropK (key : α → Int) (l : List α) (k : Int) : List α := l.filter (fun x => decide (key x ≠ k))

/-- The reference's loop. -/
def l2K (key : α → Int) (c : α) : Bool → List α → List α
  | put, [] => if put then [] else [c]
  | put, x :: l => (if !put && decide (key c ≤ key x) then [c] else []) ++ ((if key x ≠ key c then [x] else []) ++ l2K key c (put || decide (key c ≤ key x)) l)

theorem l2K_true (c : α) : ∀ l : List α, l2K key c true l = dropK key l (key c) := by
  intro l
  induction l with
  | nil => rfl
  | cons x l ih =>
    rw [l2K, Bool.true_or, ih]
    unfold dropK
    rw [List.filter_cons]
    by_cases h : key x = key c <;> simp [h]

theorem filter_all {p : α → Bool} (h : ∀ x ∈ l, p x = true) : l.filter p = l := List.filter_eq_self.2 h
theorem filter_no {p : α → Bool} (h : ∀ x ∈ l, p x = false) : l.filter p = [] := List.filter_eq_nil_iff.2 (fun x hx => by simp [h x hx])

theorem l2K_false (c : α) : ∀ l : List α, (l.map key).Pairwise (· < ·) → l2K key c false l = putK key l c := by
  intro l
  induction l with
  | nil => intro _; rfl
  | cons x l ih =>
    intro h
    rw [List.map_cons, List.pairwise_cons] at h
    obtain ⟨h1, h2⟩ := h
    have h1' : ∀ y ∈ l, key x < key y := fun y hy => h1 _ (List.mem_map.2 ⟨y, hy, rfl⟩)
    rw [l2K, Bool.false_or]
    unfold putK
    by_cases hlt : key x < key c
    · have d1 : decide (key c ≤ key x) = false := by simp; omega
      have d2 : decide (key x < key c) = true := by simpa using hlt
      have d3 : decide (key c < key x) = false := by simp; omega
      have d4 : key x ≠ key c := by omega
      have i1 := ih h2
      unfold putK at i1
      simp only [d1, List.filter_cons, d2, d3, d4, ne_eq, not_false_eq_true, if_true, i1]
      simp
    · have e1 : l.filter (fun y => decide (key y < key c)) = [] := filter_no fun y hy => by have := h1' y hy; simp; omega
      have e2 : l.filter (fun y => decide (key c < key y)) = l := filter_all fun y hy => by have := h1' y hy; simp; omega
      have e3 : dropK key l (key c) = l := filter_all fun y hy => by have := h1' y hy; simp; omega
      have d1 : decide (key c ≤ key x) = true := by simp; omega
      have d2 : decide (key x < key c) = false := by simp; omega
      rw [d1, l2K_true, e3]
      simp only [List.filter_cons, d2, e1, e2]
      by_cases he : key x = key c
      · have d3 : decide (key c < key x) = false := by simp; omega
        simp [he]
      · have d3 : decide (key c < key x) = true := by simp; omega
        simp [he, d3]

theorem posOf_le (ks : List Int) (k : Int) : posOf ks k ≤ ks.length := by
  unfold posOf
  have := congrArg List.length (List.takeWhile_append_dropWhile (p := fun x => decide (x < k)) (l := ks))
  rw [List.length_append] at this
  omega

theorem pos_cons_lt {x : α} {k : Int} (h : key x < k) : posOf ((x :: l).map key) k = posOf (l.map key) k + 1 := by
  simp [posOf, h]
theorem pos_cons_ge {x : α} {k : Int} (h : ¬ key x < k) : posOf ((x :: l).map key) k = 0 := by
  simp [posOf, h]

theorem take_pos (k : Int) : ∀ {l : List α}, (l.map key).Pairwise (· < ·) → l.take (posOf (l.map key) k) = l.filter (fun x => decide (key x < k)) := by
  intro l
  induction l with
  | nil => intro _; rfl
  | cons x l ih =>
    intro h
    rw [List.map_cons, List.pairwise_cons] at h
    obtain ⟨h1, h2⟩ := h
    have h1' : ∀ y ∈ l, key x < key y := fun y hy => h1 _ (List.mem_map.2 ⟨y, hy, rfl⟩)
    by_cases hlt : key x < k
    · rw [pos_cons_lt hlt, List.take_succ_cons, ih h2, List.filter_cons, if_pos (by simpa using hlt)]
    · rw [pos_cons_ge hlt, List.take_zero, List.filter_cons, if_neg (by simpa using hlt)]
      exact (filter_no fun y hy => by have := h1' y hy; simp; omega).symm
theorem drop_pos (k : Int) : ∀ {l : List α}, (l.map key).Pairwise (· < ·) → l.drop (posOf (l.map key) k) = l.filter (fun x => decide (k ≤ key x)) := by
  intro l
  induction l with
  | nil => intro _; rfl
  | cons x l ih =>
    intro h
    rw [List.map_cons, List.pairwise_cons] at h
    obtain ⟨h1, h2⟩ := h
    have h1' : ∀ y ∈ l, key x < key y := fun y hy => h1 _ (List.mem_map.2 ⟨y, hy, rfl⟩)
    by_cases hlt : key x < k
    · rw [pos_cons_lt hlt, List.drop_succ_cons, ih h2, List.filter_cons, if_neg (by simp; omega)]
    · rw [pos_cons_ge hlt, List.drop_zero]
      exact (filter_all fun y hy => by
        rcases List.mem_cons.1 hy with rfl | hy
        · simp; omega
        · have := h1' y hy; simp; omega).symm
theorem drop_pos1 {k : Int} (ha : (l.map key).Pairwise (· < ·)) {c : α} (hc : l[posOf (l.map key) k]? = some c) (hk : key c = k) : l.drop (posOf (l.map key) k + 1) = l.filter (fun x => decide (k < key x)) := by
  have h := drop_pos (key := key) k ha
  have hi := (List.getElem?_eq_some_iff.1 hc).1
  rw [List.drop_eq_getElem_cons hi] at h
  have h2 : (l.filter (fun x => decide (k ≤ key x))).filter (fun x => decide (k < key x)) = l.filter (fun x => decide (k < key x)) := by
    rw [List.filter_filter]
    congr 1
    funext x
    simp
    omega
  rw [← h2, ← h, List.filter_cons]
  have e : l[posOf (l.map key) k] = c := by
    have := List.getElem?_eq_getElem hi
    rw [hc] at this
    injection this with this
    exact this.symm
  rw [e, if_neg (by simp; omega)]
  refine (filter_all fun y hy => ?_).symm
  obtain ⟨j, hj⟩ := List.mem_iff_getElem?.1 hy
  rw [List.getElem?_drop] at hj
  have := asc_lt ha (i := posOf (l.map key) k) (j := posOf (l.map key) k + 1 + j) (x := key c) (y := key y) (by rw [List.getElem?_map, hc]; rfl) (by rw [List.getElem?_map, hj]; rfl) (by omega)
  simp
  omega

/-- The program's ways to put and to take out. -/
theorem put_set {k : Int} (ha : (l.map key).Pairwise (· < ·)) {c d : α} (hc : l[posOf (l.map key) k]? = some c) (hk : key c = k) (hd : key d = k) : l.set (posOf (l.map key) k) d = putK key l d := by
  have hi := (List.getElem?_eq_some_iff.1 hc).1
  rw [List.set_eq_take_append_cons_drop, if_pos hi, take_pos k ha, drop_pos1 ha hc hk, putK, hd]
theorem put_insert {k : Int} (ha : (l.map key).Pairwise (· < ·)) {d : α} (hn : k ∉ l.map key) (hd : key d = k) : l.take (posOf (l.map key) k) ++ d :: l.drop (posOf (l.map key) k) = putK key l d := by
  rw [take_pos k ha, drop_pos k ha, putK, hd]
  congr 2
  refine List.filter_congr fun x hx => ?_
  have : key x ≠ k := fun e => hn (List.mem_map.2 ⟨x, hx, e⟩)
  rw [decide_eq_decide]
  omega
theorem drop_delete {k : Int} (ha : (l.map key).Pairwise (· < ·)) {c : α} (hc : l[posOf (l.map key) k]? = some c) (hk : key c = k) : l.take (posOf (l.map key) k) ++ l.drop (posOf (l.map key) k + 1) = dropK key l k := by
  have h := List.take_append_drop (posOf (l.map key) k) l
  have hi := (List.getElem?_eq_some_iff.1 hc).1
  have e : l[posOf (l.map key) k] = c := by
    have := List.getElem?_eq_getElem hi
    rw [hc] at this
    injection this with this
    exact this.symm
  unfold dropK
  conv => rhs; rw [← h]
  rw [List.filter_append, List.drop_eq_getElem_cons hi, List.filter_cons, e, if_neg (by simp [hk])]
  congr 1
  · refine (filter_all fun x hx => ?_).symm
    rw [take_pos k ha] at hx
    have := (List.mem_filter.1 hx).2
    simp at this ⊢
    omega
  · refine (filter_all fun x hx => ?_).symm
    rw [drop_pos1 ha hc hk] at hx
    have := (List.mem_filter.1 hx).2
    simp at this ⊢
    omega
theorem dropK_not {k : Int} (hn : k ∉ l.map key) : dropK key l k = l := filter_all fun x hx => by
  have : key x ≠ k := fun e => hn (List.mem_map.2 ⟨x, hx, e⟩)
  simpa using this

/-! ### they ascend again -/

theorem pairwise_map {l : List α} : (l.map key).Pairwise (· < ·) ↔ l.Pairwise (fun x y => key x < key y) := List.pairwise_map
theorem putK_asc (ha : (l.map key).Pairwise (· < ·)) (c : α) : ((putK key l c).map key).Pairwise (· < ·) := by
  rw [pairwise_map] at ha ⊢
  unfold putK
  rw [List.pairwise_append]
  refine ⟨ha.filter _, List.pairwise_cons.2 ⟨fun y hy => by simpa using (List.mem_filter.1 hy).2, ha.filter _⟩, ?_⟩
  intro x hx y hy
  have h1 := (List.mem_filter.1 hx).2
  simp at h1
  rcases List.mem_cons.1 hy with rfl | hy
  · exact h1
  · have h2 := (List.mem_filter.1 hy).2
    simp at h2
    omega
theorem dropK_asc (ha : (l.map key).Pairwise (· < ·)) (k : Int) : ((dropK key l k).map key).Pairwise (· < ·) := by
  rw [pairwise_map] at ha ⊢
  exact ha.filter _
theorem mem_putK {c x : α} : x ∈ putK key l c → x = c ∨ x ∈ l := by
  intro h
  rcases List.mem_append.1 h with h | h
  · exact .inr ((List.mem_filter.1 h).1)
  · rcases List.mem_cons.1 h with h | h
    · exact .inl h
    · exact .inr ((List.mem_filter.1 h).1)
theorem mem_dropK {k : Int} {x : α} (h : x ∈ dropK key l k) : x ∈ l := (List.mem_filter.1 h).1
theorem putK_self (ha : (l.map key).Pairwise (· < ·)) (c : α) : findK key (putK key l c) (key c) = some c := by
  have h := putK_asc ha c
  have hc : c ∈ putK key l c := by unfold putK; simp
  obtain ⟨i, hi⟩ := List.mem_iff_getElem?.1 hc
  exact findK_at h hi rfl
theorem find_filter {p : α → Bool} {k : Int} (hp : ∀ x, key x = k → p x = true) (l : List α) : findK key (l.filter p) k = findK key l k := by
  unfold findK
  rw [List.find?_filter]
  congr 1
  funext x
  by_cases h : key x = k
  · simp [h, hp x h]
  · simp [h]
theorem find_app (a b : List α) (k : Int) : findK key (a ++ b) k = (findK key a k).or (findK key b k) := by
  unfold findK
  rw [List.find?_append]
theorem putK_other {k : Int} {c : α} (hk : k ≠ key c) : findK key (putK key l c) k = findK key l k := by
  unfold putK
  rw [find_app]
  have e : findK key (c :: l.filter (fun x => decide (key c < key x))) k = findK key (l.filter (fun x => decide (key c < key x))) k := by
    unfold findK
    rw [List.find?_cons_of_neg (by simp; omega)]
  rw [e]
  rcases Int.lt_or_gt_of_ne hk with h | h
  · rw [find_filter (fun x hx => by simp; omega), findK_none (l := l.filter _) (by
      intro hm
      obtain ⟨x, hx, rfl⟩ := List.mem_map.1 hm
      have := (List.mem_filter.1 hx).2
      simp at this
      omega), Option.or_none]
  · rw [findK_none (l := l.filter _) (by
      intro hm
      obtain ⟨x, hx, rfl⟩ := List.mem_map.1 hm
      have := (List.mem_filter.1 hx).2
      simp at this
      omega), find_filter (fun x hx => by simp; omega)]
    rfl
theorem dropK_self (k : Int) : findK key (dropK key l k) k = none := findK_none (by
  intro hm
  obtain ⟨x, hx, rfl⟩ := List.mem_map.1 hm
  have := (List.mem_filter.1 hx).2
  simp at this)
theorem dropK_other {k j : Int} (hk : j ≠ k) : findK key (dropK key l k) j = findK key l j := find_filter (fun x hx => by simp; omega) l
theorem putK_length_le (l : List α) (c : α) (ha : (l.map key).Pairwise (· < ·)) : (putK key l c).length = if key c ∈ l.map key then l.length else l.length + 1 := by
  have hle := posOf_le (l.map key) (key c)
  rw [List.length_map] at hle
  by_cases h : key c ∈ l.map key
  · rw [if_pos h]
    obtain ⟨j, hj⟩ := List.mem_iff_getElem?.1 h
    have hp := pos_at ha hj
    rw [List.getElem?_map, Option.map_eq_some_iff] at hj
    obtain ⟨d, hd, he⟩ := hj
    rw [← put_set (k := key c) ha (c := d) (d := c) (by rw [hp]; exact hd) he rfl, List.length_set]
  · rw [if_neg h, ← put_insert ha h rfl]
    simp only [List.length_append, List.length_take, List.length_cons, List.length_drop]
    omega
theorem dropK_length_le (l : List α) (k : Int) : (dropK key l k).length ≤ l.length := List.length_filter_le _ _
end

end Go.Proofs.Ytbfbdhjeoknjkaa
