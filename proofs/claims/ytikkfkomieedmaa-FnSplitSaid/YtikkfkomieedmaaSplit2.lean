/-
  Cut bytes, split: the plain law. No program in sight.
-/
import Derived.Test.YtikkfkomieedmaaSplit
namespace Go.Proofs.Ytikkfkomieedmaa

theorem unframe_parts {l : List UInt8} {a : Nat} {y : List UInt8} {nx : Nat} (h : unframe l (a : Int) = (y, nx, 0)) :
    y.length ≤ 4000 ∧ nx = a + (frame y).length ∧ a ≤ l.length ∧ (l.drop a).take (nx - a) = frame y := by
  unfold unframe at h
  split at h
  · simp at h
  · rename_i n e hg
    obtain ⟨h0, h1, h2, h3⟩ := getNum_lt hg
    split at h
    · simp at h
    · rename_i h4
      split at h
      · simp at h
      · rename_i h5
        split at h
        · rename_i hc
          simp only [Prod.mk.injEq] at h
          obtain ⟨rfl, rfl, _⟩ := h
          have hf := (unframe_iff hg (by omega)).1 hc
          rw [Int.toNat_natCast] at hf
          have hl : ((l.drop e).take n).length = n := by rw [List.length_take, List.length_drop]; omega
          have hlen := congrArg List.length hf
          rw [List.length_take, List.length_drop] at hlen
          exact ⟨by omega, by omega, by omega, hf.symm⟩
        · simp at h

/-- What was read well is read so whatever stands behind. -/
theorem unframe_more {l : List UInt8} {a : Nat} {y : List UInt8} {nx : Nat} (r : List UInt8) (h : unframe l (a : Int) = (y, nx, 0)) : unframe (l ++ r) (a : Int) = (y, nx, 0) := by
  obtain ⟨h1, h2, h3, h4⟩ := unframe_parts h
  have hl : l ++ r = l.take a ++ frame y ++ ((l.drop a).drop (nx - a) ++ r) := by
    rw [← h4, List.append_assoc, ← List.append_assoc ((l.drop a).take (nx - a)), List.take_append_drop, ← List.append_assoc, List.take_append_drop]
  have hlen : (l.take a).length = a := by rw [List.length_take]; omega
  have := unframe_frame (l.take a) y ((l.drop a).drop (nx - a) ++ r) h1
  rw [← hl, hlen, ← h2] at this
  exact this

theorem splitGo_frames (tail : List UInt8) : ∀ (ls : List (List UInt8)) (pre : List UInt8) (out : List (List UInt8)) (f : Nat), (∀ l ∈ ls, l.length ≤ 4000) → out.length + ls.length ≤ 100 →
    splitGo (pre ++ ls.flatMap frame ++ tail) (f + ls.length) pre.length out = splitGo (pre ++ ls.flatMap frame ++ tail) f (pre.length + (ls.flatMap frame).length) (out ++ ls)
  | [], pre, out, f, _, _ => by simp
  | x :: ls, pre, out, f, h, ho => by
    have hx := h x (by simp)
    have hu := unframe_frame pre x (ls.flatMap frame ++ tail) hx
    have hp := frame_pos x
    have he : pre ++ (x :: ls).flatMap frame ++ tail = pre ++ frame x ++ (ls.flatMap frame ++ tail) := by simp
    have he2 : pre ++ frame x ++ (ls.flatMap frame ++ tail) = (pre ++ frame x) ++ ls.flatMap frame ++ tail := by simp
    rw [List.length_cons] at ho ⊢
    rw [he, ← Nat.add_assoc, splitGo_more (by simp only [List.length_append]; omega) (by omega) hu, he2]
    have ih := splitGo_frames tail ls (pre ++ frame x) (out ++ [x]) f (fun l hl => h l (by simp [hl])) (by simp; omega)
    rw [List.length_append] at ih
    rw [ih]
    congr 1
    · simp; omega
    · simp

/-- Joined frames are split into themselves. -/
theorem splitL_join {ls : List (List UInt8)} (h1 : ls.length ≤ 100) (h2 : ∀ l ∈ ls, l.length ≤ 4000) : splitL (ls.flatMap frame) = (ls, (ls.flatMap frame).length, 0) := by
  have h := splitGo_frames [] ls [] [] (101 - ls.length) h2 (by simpa using h1)
  rw [List.append_nil, List.nil_append, List.nil_append, show 101 - ls.length + ls.length = 101 from by omega, List.length_nil, Nat.zero_add] at h
  unfold splitL
  rw [h]
  exact splitGo_end' h1 (by omega)

/-- Where bytes are cut: the lists ahead of the cut. -/
theorem cut_parts : ∀ (ls : List (List UInt8)) (cut : Nat), cut ≤ (ls.flatMap frame).length →
    ∃ l1 l2, ls = l1 ++ l2 ∧ (l1.flatMap frame).length ≤ cut ∧ (l2 = [] ∨ ∃ x l3, l2 = x :: l3 ∧ cut < (l1.flatMap frame).length + (frame x).length)
  | [], cut, _ => ⟨[], [], rfl, by simp, .inl rfl⟩
  | a :: ls, cut, h => by
    by_cases hc : cut < (frame a).length
    · exact ⟨[], a :: ls, rfl, by simp, .inr ⟨a, ls, rfl, by simpa using hc⟩⟩
    · rw [List.flatMap_cons, List.length_append] at h
      obtain ⟨l1, l2, rfl, h1, h2⟩ := cut_parts ls (cut - (frame a).length) (by omega)
      refine ⟨a :: l1, l2, rfl, by rw [List.flatMap_cons, List.length_append]; omega, ?_⟩
      rcases h2 with h2 | ⟨x, l3, h2, h3⟩
      · exact .inl h2
      · exact .inr ⟨x, l3, h2, by rw [List.flatMap_cons, List.length_append]; omega⟩

theorem split_cut {ls : List (List UInt8)} (h1 : ls.length ≤ 100) (h2 : ∀ l ∈ ls, l.length ≤ 4000) {cut : Nat} (hc : cut ≤ (ls.flatMap frame).length) :
    ∃ s p cd r, splitL ((ls.flatMap frame).take cut) = (s, p, cd) ∧ p ≤ cut ∧ splitL ((ls.flatMap frame).drop p) = (r, (ls.flatMap frame).length - p, 0) ∧ s.length + r.length = ls.length := by
  obtain ⟨l1, l2, rfl, h3, h4⟩ := cut_parts ls cut hc
  have ha : ∀ l ∈ l1, l.length ≤ 4000 := fun l hl => h2 l (by simp [hl])
  have hb : ∀ l ∈ l2, l.length ≤ 4000 := fun l hl => h2 l (by simp [hl])
  rw [List.length_append] at h1
  rw [List.flatMap_append] at hc ⊢
  rw [List.length_append] at hc ⊢
  have hr := splitL_join (ls := l2) (by omega) hb
  have hg := splitGo_frames ((l2.flatMap frame).take (cut - (l1.flatMap frame).length)) l1 [] [] (101 - l1.length) ha (by simpa using (by omega : l1.length ≤ 100))
  rw [List.nil_append, List.nil_append, show 101 - l1.length + l1.length = 101 from by omega, List.length_nil, Nat.zero_add] at hg
  have ht : (l1.flatMap frame ++ l2.flatMap frame).take cut = l1.flatMap frame ++ (l2.flatMap frame).take (cut - (l1.flatMap frame).length) := by
    rw [List.take_append, List.take_of_length_le h3]
  have hkey : ∃ cd, splitL ((l1.flatMap frame ++ l2.flatMap frame).take cut) = (l1, (l1.flatMap frame).length, cd) := by
    unfold splitL
    rw [ht, hg]
    generalize hL : l1.flatMap frame ++ (l2.flatMap frame).take (cut - (l1.flatMap frame).length) = L at ht
    have hLl : L.length = cut := by rw [← ht, List.length_take, List.length_append]; omega
    by_cases hend : (l1.flatMap frame).length < L.length
    · rcases h4 with rfl | ⟨x, l3, rfl, h5⟩
      · rw [List.flatMap_nil, List.length_nil] at hc
        omega
      · obtain ⟨y, nx, cd, hu⟩ : ∃ y nx cd, unframe L ((l1.flatMap frame).length : Int) = (y, nx, cd) := ⟨_, _, _, rfl⟩
        rw [List.length_cons] at h1
        have hcd : ¬ cd = 0 := by
          rintro rfl
          have hn := (unframe_next hu).2.1
          have hm := unframe_more ((l1.flatMap frame ++ (x :: l3).flatMap frame).drop cut) hu
          rw [← ht, List.take_append_drop, List.flatMap_cons, ← List.append_assoc, unframe_frame _ _ _ (hb x (by simp))] at hm
          simp only [Prod.mk.injEq] at hm
          obtain ⟨-, hm2, -⟩ := hm
          rw [hLl] at hn
          omega
        refine ⟨cd, ?_⟩
        rw [show 101 - l1.length = 100 - l1.length + 1 from by omega]
        exact splitGo_bad hend (by omega) hu hcd
    · exact ⟨0, splitGo_end' (by omega) hend⟩
  obtain ⟨cd, hk⟩ := hkey
  refine ⟨l1, _, cd, l2, hk, h3, ?_, by rw [List.length_append]⟩
  rw [List.drop_left, hr]
  congr 2
  omega

end Go.Proofs.Ytikkfkomieedmaa
