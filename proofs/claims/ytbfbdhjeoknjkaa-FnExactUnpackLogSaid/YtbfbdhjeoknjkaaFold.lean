/-
  Folding a log, in plain words. No program in sight.
-/
import Derived.Test.YtbfbdhjeoknjkaaMg4
import Derived.Test.YtbfbdhjeoknjkaaMg6
namespace Go.Proofs.Ytbfbdhjeoknjkaa
open Go.RowKit

theorem runGo_good : ∀ (l : List EntryD) (m : ImageD) (ans : List Int), GoodI m → GoodI (runGo m ans l).1 := by
  intro l
  induction l with
  | nil => intro m ans h; exact h
  | cons e l ih =>
    intro m ans h
    rw [runGo]
    refine ih _ _ ?_
    split
    · exact h
    · rename_i hc
      cases hk : imageOk m && entryOk e with
      | false => rw [runE_bad hk] at hc; exact absurd rfl hc
      | true =>
        simp only [Bool.and_eq_true] at hk
        exact runEntry_good h hk.2
theorem runAll_good {m : ImageD} {l : List EntryD} (h : GoodI m) : GoodI (runAll m l).1 := by
  unfold runAll
  split
  · exact runGo_good l m [] h
  · exact h
theorem runGo_ans : ∀ (l : List EntryD) (m : ImageD) (a b : List Int), (runGo m a l).1 = (runGo m b l).1 := by
  intro l
  induction l with
  | nil => intro m a b; rfl
  | cons e l ih => intro m a b; rw [runGo, runGo]; exact ih _ _ _
theorem runGo_app : ∀ (x y : List EntryD) (m : ImageD) (a : List Int), (runGo m a (x ++ y)).1 = (runGo (runGo m a x).1 [] y).1 := by
  intro x
  induction x with
  | nil => intro y m a; exact runGo_ans _ _ _ _
  | cons e x ih => intro y m a; rw [List.cons_append, runGo, runGo]; exact ih _ _ _
theorem runAll_app {m : ImageD} {x y : List EntryD} (h : (x ++ y).length ≤ 60) : (runAll m (x ++ y)).1 = (runAll (runAll m x).1 y).1 := by
  rw [List.length_append] at h
  rw [runAll_ok (by rw [List.length_append]; exact h), runAll_ok (l := x) (by omega), runAll_ok (l := y) (by omega)]
  exact runGo_app x y m []

def logFold (l : LogD) (n : Int) : LogD × Bool := if hasNum l n then (⟨n, (runAll l.image (l.entries.take (n - l.base).toNat)).1, l.entries.drop (n - l.base).toNat⟩, true) else (zeroL, false)
theorem logFold_no {l : LogD} {n : Int} (h : hasNum l n = false) : logFold l n = (zeroL, false) := by simp [logFold, h]
theorem logFold_in {l : LogD} {k : Nat} (h : hasNum l (l.base + k) = true) : logFold l (l.base + k) = (⟨l.base + k, (runAll l.image (l.entries.take k)).1, l.entries.drop k⟩, true) := by
  unfold logFold
  rw [if_pos h, show (l.base + (k : Int) - l.base).toNat = k by omega]
section
variable {l : LogD} {k : Nat} (hg : GoodL l) (hk : k ≤ l.entries.length)
include hg hk
/-- What folding leaves is right. -/
theorem fold_good : GoodL ⟨l.base + k, (runAll l.image (l.entries.take k)).1, l.entries.drop k⟩ := by
  refine ⟨?_, imageOk_iff.2 (runAll_good (imageOk_iff.1 hg.image)), ?_, ?_, ?_⟩
  · have := hg.base
    dsimp only
    omega
  · have := hg.many
    simp only [List.length_drop]
    omega
  · refine List.all_eq_true.2 fun x hx => ?_
    exact List.all_eq_true.1 hg.all x (List.mem_of_mem_drop hx)
  · have := hg.last
    simp only [List.length_drop]
    omega
theorem fold_image {j : Nat} (hj : j ≤ l.entries.length - k) : (logImage ⟨l.base + k, (runAll l.image (l.entries.take k)).1, l.entries.drop k⟩ (l.base + (k + j : Nat))) = ((runAll l.image (l.entries.take (k + j))).1, true) := by
  have hh : hasNum (⟨l.base + k, (runAll l.image (l.entries.take k)).1, l.entries.drop k⟩ : LogD) ((⟨l.base + k, (runAll l.image (l.entries.take k)).1, l.entries.drop k⟩ : LogD).base + (j : Nat)) = true := by
    rw [hasNum_in (logOk_iff.2 (fold_good hg hk))]
    unfold inB
    simp only [List.length_drop, Bool.and_eq_true, decide_eq_true_eq]
    omega
  have h := logImage_in hh
  rw [show l.base + ((k + j : Nat) : Int) = (⟨l.base + k, (runAll l.image (l.entries.take k)).1, l.entries.drop k⟩ : LogD).base + (j : Nat) by dsimp only; omega, h]
  dsimp only
  have hm := hg.many
  rw [← runAll_app (by rw [List.length_append, List.length_take, List.length_take, List.length_drop]; omega), ← List.take_add]
theorem fold_at {j : Nat} : logAt (⟨l.base + k, (runAll l.image (l.entries.take k)).1, l.entries.drop k⟩ : LogD) (l.base + (k + j : Nat) + 1) = logAt l (l.base + (k + j : Nat) + 1) := by
  by_cases hj : k + j < l.entries.length
  · obtain ⟨x, hx⟩ : ∃ x, l.entries[k + j]? = some x := ⟨_, List.getElem?_eq_getElem hj⟩
    have h1 := logAt_in (logOk_iff.2 hg) hx
    have h2 := logAt_in (l := ⟨l.base + k, (runAll l.image (l.entries.take k)).1, l.entries.drop k⟩) (k := j) (x := x) (logOk_iff.2 (fold_good hg hk)) (by dsimp only; rw [List.getElem?_drop]; exact hx)
    dsimp only at h2
    rw [show l.base + ((k + j : Nat) : Int) + 1 = l.base + 1 + ((k + j : Nat) : Int) by omega, h1, show l.base + 1 + ((k + j : Nat) : Int) = l.base + (k : Int) + 1 + (j : Nat) by omega, h2]
  · rw [logAt_out (l := l), logAt_out]
    · simp only [List.length_drop, inB]
      simp
      omega
    · simp only [inB]
      simp
      omega
theorem fold_end : logEnd (⟨l.base + k, (runAll l.image (l.entries.take k)).1, l.entries.drop k⟩ : LogD) = logEnd l := by
  rw [logEnd_ok (logOk_iff.2 hg), logEnd_ok (logOk_iff.2 (fold_good hg hk))]
  simp only [List.length_drop]
  omega
end
theorem fold_num {l : LogD} {k j : Nat} (hg : GoodL l) (hj : k + j ≤ l.entries.length) : hasNum l (l.base + (k + j : Nat)) = true := by
  rw [hasNum_in (logOk_iff.2 hg)]
  unfold inB
  simp only [Bool.and_eq_true, decide_eq_true_eq]
  omega

/-! ### a log that is cut and put again -/

theorem cut_put {l : LogD} (hg : GoodL l) {k : Nat} {x : EntryD} (hx : l.entries[k]? = some x) : logPut ⟨l.base, l.image, l.entries.take k⟩ x = (⟨l.base, l.image, l.entries.take (k + 1)⟩, true) := by
  have hk := (List.getElem?_eq_some_iff.1 hx).1
  have h1 : logOk (⟨l.base, l.image, l.entries.take k⟩ : LogD) = true := by
    refine logOk_iff.2 ⟨hg.base, hg.image, ?_, ?_, ?_⟩
    · have := hg.many
      simp only [List.length_take]
      omega
    · exact List.all_eq_true.2 fun x hx => List.all_eq_true.1 hg.all x (List.mem_of_mem_take hx)
    · have := hg.last
      simp only [List.length_take]
      omega
  rw [logPut_in h1]
  · dsimp only
    rw [take_snoc hx]
  · have h2 := hg.many
    have h3 := hg.last
    have h4 := List.all_eq_true.1 hg.all x (List.mem_of_getElem? hx)
    simp only [List.length_take]
    rintro (h | h | h)
    · rw [h4] at h; cases h
    · omega
    · omega

end Go.Proofs.Ytbfbdhjeoknjkaa
