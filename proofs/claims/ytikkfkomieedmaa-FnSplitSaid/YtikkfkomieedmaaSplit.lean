/-
  Joined frames and split bytes: the plain functions and the laws on them. No program in sight.
-/
import Derived.Test.YtikkfkomieedmaaMath2
namespace Go.Proofs.Ytikkfkomieedmaa

/-- 'JoinFrames'. -/
def joinL (ls : List (List UInt8)) : List UInt8 × Bool := if ls.length ≤ 100 ∧ (∀ l ∈ ls, l.length ≤ 4000) then (ls.flatMap frame, true) else ([], false)
theorem joinL_yes {ls : List (List UInt8)} (h : ls.length ≤ 100 ∧ (∀ l ∈ ls, l.length ≤ 4000)) : joinL ls = (ls.flatMap frame, true) := if_pos h
theorem joinL_no {ls : List (List UInt8)} (h : ¬ (ls.length ≤ 100 ∧ (∀ l ∈ ls, l.length ≤ 4000))) : joinL ls = ([], false) := if_neg h
theorem frames_len (ls : List (List UInt8)) (h : ∀ l ∈ ls, l.length ≤ 4000) : (ls.flatMap frame).length ≤ 4006 * ls.length := by
  induction ls with
  | nil => simp
  | cons a ls ih =>
    have h1 := frame_length_le (h a (by simp))
    have h2 := ih (fun l hl => h l (by simp [hl]))
    simp only [List.flatMap_cons, List.length_append, List.length_cons]
    omega
theorem joinL_len (ls : List (List UInt8)) : (joinL ls).1.length ≤ 400600 := by
  unfold joinL
  split
  · rename_i h
    have := frames_len ls h.2
    have := h.1
    dsimp only
    omega
  · simp

/-- 'SplitFrames', from a place on, with the lists that were read. -/
def splitGo (l : List UInt8) : Nat → Nat → List (List UInt8) → List (List UInt8) × Nat × Nat
  | 0, a, out => (out, a, 4)
  | f + 1, a, out => if a < l.length then (if out.length = 100 then (out, a, 4) else if (unframe l (a : Int)).2.2 = 0 then splitGo l f (unframe l (a : Int)).2.1 (out ++ [(unframe l (a : Int)).1]) else (out, a, (unframe l (a : Int)).2.2)) else (out, a, 0)
def splitL (l : List UInt8) : List (List UInt8) × Nat × Nat := splitGo l 101 0 []

section
variable {l : List UInt8} {f a : Nat} {out : List (List UInt8)}
theorem splitGo_end (h : ¬ a < l.length) : splitGo l (f + 1) a out = (out, a, 0) := by rw [splitGo, if_neg h]
theorem splitGo_full (h : a < l.length) (ho : out.length = 100) : splitGo l (f + 1) a out = (out, a, 4) := by rw [splitGo, if_pos h, if_pos ho]
theorem splitGo_bad {x : List UInt8} {nx cd : Nat} (h : a < l.length) (ho : ¬ out.length = 100) (hu : unframe l (a : Int) = (x, nx, cd)) (hc : ¬ cd = 0) : splitGo l (f + 1) a out = (out, a, cd) := by
  rw [splitGo, if_pos h, if_neg ho, hu, if_neg hc]
theorem splitGo_more {x : List UInt8} {nx : Nat} (h : a < l.length) (ho : ¬ out.length = 100) (hu : unframe l (a : Int) = (x, nx, 0)) : splitGo l (f + 1) a out = splitGo l f nx (out ++ [x]) := by
  rw [splitGo, if_pos h, if_neg ho, hu, if_pos rfl]
theorem splitGo_end' {k : Nat} (hk : k ≤ 100) (h : ¬ a < l.length) : splitGo l (101 - k) a out = (out, a, 0) := by
  rw [show 101 - k = 100 - k + 1 from by omega]
  exact splitGo_end h
theorem splitGo_full' {k : Nat} (hk : k ≤ 100) (h : a < l.length) (ho : out.length = 100) : splitGo l (101 - k) a out = (out, a, 4) := by
  rw [show 101 - k = 100 - k + 1 from by omega]
  exact splitGo_full h ho
end

theorem unframe_next {l : List UInt8} {a : Nat} {x : List UInt8} {nx : Nat} (h : unframe l (a : Int) = (x, nx, 0)) : a < nx ∧ nx ≤ l.length ∧ x.length + a + 4 < nx := by
  unfold unframe at h
  split at h
  · simp at h
  · rename_i n e hg
    obtain ⟨h0, h1, h2, h3⟩ := getNum_lt hg
    split at h
    · simp at h
    · split at h
      · simp at h
      · split at h
        · simp only [Prod.mk.injEq] at h
          obtain ⟨rfl, rfl, _⟩ := h
          simp only [List.length_take, List.length_drop]
          omega
        · simp at h

theorem sum_snoc (out : List (List UInt8)) (x : List UInt8) : ((out ++ [x]).map List.length).sum = (out.map List.length).sum + x.length := by simp
/-- What is read is no more than what lies there. -/
theorem splitGo_tot (l : List UInt8) : ∀ (f a : Nat) (out : List (List UInt8)), a ≤ l.length → (out.map List.length).sum + out.length ≤ a → ((splitGo l f a out).1.map List.length).sum + (splitGo l f a out).1.length ≤ l.length := by
  intro f
  induction f with
  | zero => intro a out h1 h2; simp only [splitGo]; omega
  | succ f ih =>
    intro a out h1 h2
    rw [splitGo]
    split
    · split
      · dsimp only; omega
      · split
        · rename_i hc
          obtain ⟨x, nx, cd, hu⟩ : ∃ x nx cd, unframe l (a : Int) = (x, nx, cd) := ⟨_, _, _, rfl⟩
          rw [hu] at hc ⊢
          dsimp only at hc ⊢
          subst hc
          obtain ⟨h3, h4, h5⟩ := unframe_next hu
          refine ih nx _ h4 ?_
          rw [sum_snoc, List.length_append, List.length_singleton]
          omega
        · dsimp only; omega
    · dsimp only; omega
theorem splitL_tot (l : List UInt8) : ((splitL l).1.map List.length).sum + (splitL l).1.length ≤ l.length := splitGo_tot l 101 0 [] (by omega) (by simp)

end Go.Proofs.Ytikkfkomieedmaa
