/-
  Texts of this seat, merged: LogCopy, LogPut.
-/
import Derived.Test.YtbfbdhjeoknjkaaLogAt
import Derived.Test.YtbfbdhjeoknjkaaPut
import Derived.Test.YtbfbdhjeoknjkaaLogNum
import Derived.Test.YtbfbdhjeoknjkaaMg1
import Derived.Deep.DeepCutAuto
/-
  copyLog, l3Copy, walked.
-/
namespace Go.Proofs.Ytbfbdhjeoknjkaa
open Go.RowKit



end Go.Proofs.Ytbfbdhjeoknjkaa

/-
  LogUpto, LogPut, walked.
-/
namespace Go.Proofs.Ytbfbdhjeoknjkaa
open Go.RowKit

def zeroL : LogD := ⟨0, ⟨[], []⟩, []⟩
def logUpto (l : LogD) (n : Int) : LogD × Bool := if hasNum l n then (⟨l.base, l.image, l.entries.take (n - l.base).toNat⟩, true) else (zeroL, false)
def logPut (l : LogD) (e : EntryD) : LogD × Bool :=
  if logOk l then (if entryOk e = false ∨ l.entries.length = 60 ∨ l.base + l.entries.length = 1000000000 then (l, false) else (⟨l.base, l.image, l.entries ++ [e]⟩, true)) else (zeroL, false)
theorem logUpto_no {l : LogD} {n : Int} (h : hasNum l n = false) : logUpto l n = (zeroL, false) := by simp [logUpto, h]
theorem logUpto_in {l : LogD} {k : Nat} (h : hasNum l (l.base + k) = true) : logUpto l (l.base + k) = (⟨l.base, l.image, l.entries.take k⟩, true) := by
  unfold logUpto
  rw [if_pos h, show (l.base + (k : Int) - l.base).toNat = k by omega]
theorem logPut_no {l : LogD} {e : EntryD} (h : logOk l = false) : logPut l e = (zeroL, false) := by simp [logPut, h]
theorem logPut_full {l : LogD} {e : EntryD} (h : logOk l = true) (hf : entryOk e = false ∨ l.entries.length = 60 ∨ l.base + l.entries.length = 1000000000) : logPut l e = (l, false) := by
  unfold logPut
  rw [if_pos h, if_pos hf]
theorem logPut_in {l : LogD} {e : EntryD} (h : logOk l = true) (hf : ¬ (entryOk e = false ∨ l.entries.length = 60 ∨ l.base + l.entries.length = 1000000000)) : logPut l e = (⟨l.base, l.image, l.entries ++ [e]⟩, true) := by
  unfold logPut
  rw [if_pos h, if_neg hf]
theorem szL_ok {l : LogD} (h : logOk l = true) : szL l ≤ 200 := by
  have hg := logOk_iff.1 h
  have hm := hg.many
  have hi := hg.image
  unfold imageOk at hi
  simp only [Bool.and_eq_true, decide_eq_true_eq] at hi
  unfold szL szI
  omega
theorem NK_ok {l : LogD} (h : szL l ≤ 200) : NK_Log l ≤ 1000 := by
  unfold szL szI at h
  unfold NK_Log NK_Image NK_CellS NK_SeatS NK_EntryS
  omega
theorem logUpto_nk (l : LogD) (n : Int) : NK_Log (logUpto l n).1 ≤ 4194304 := by
  cases h : hasNum l n with
  | false => rw [logUpto_no h]; simp [zeroL, NK_Log, NK_Image, NK_CellS, NK_SeatS, NK_EntryS]
  | true =>
    obtain ⟨hg, k, rfl, hk⟩ := hasNum_parts h
    rw [logUpto_in h]
    refine Nat.le_trans (NK_ok (l := ⟨l.base, l.image, l.entries.take k⟩) ?_) (by omega)
    have := szL_ok (logOk_iff.2 hg)
    unfold szL at *
    simp only [List.length_take]
    omega
theorem logPut_nk (l : LogD) (e : EntryD) : NK_Log (logPut l e).1 ≤ 4194304 := by
  cases h : logOk l with
  | false => rw [logPut_no h]; simp [zeroL, NK_Log, NK_Image, NK_CellS, NK_SeatS, NK_EntryS]
  | true =>
    have h0 := szL_ok h
    have h1 := NK_ok h0
    by_cases hf : entryOk e = false ∨ l.entries.length = 60 ∨ l.base + l.entries.length = 1000000000
    · rw [logPut_full h hf]
      dsimp only
      omega
    · rw [logPut_in h hf]
      unfold NK_Log NK_EntryS at *
      simp only [List.length_append, List.length_singleton]
      omega





end Go.Proofs.Ytbfbdhjeoknjkaa
