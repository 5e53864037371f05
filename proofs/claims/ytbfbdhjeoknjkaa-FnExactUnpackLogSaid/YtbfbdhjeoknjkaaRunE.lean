/-
  RunEntry: how great what it returns is; what it leaves is right.
-/
import Derived.Test.YtbfbdhjeoknjkaaRunES
import Derived.Test.YtbfbdhjeoknjkaaRunEI
namespace Go.Proofs.Ytbfbdhjeoknjkaa

theorem GoodI.nk {m : ImageD} (h : GoodI m) : NK_Image m ≤ 110 := by
  have h1 := h.nc
  have h2 := h.ns
  unfold NK_Image NK_CellS NK_SeatS
  omega
theorem runEntry_good {m : ImageD} {e : EntryD} (hm : GoodI m) (he : entryOk e = true) : GoodI (runEntry m e).1 := by
  have h : (imageOk m && entryOk e) = true := by rw [imageOk_iff.2 hm, he]; rfl
  cases hf : findK SeatD.client m.seats e.client with
  | some s =>
    have hmem : e.client ∈ m.seats.map SeatD.client := List.mem_map.2 ⟨s, findK_mem hf, findK_key hf⟩
    rcases Int.lt_trichotomy s.req e.req with h1 | h1 | h1
    · rw [runE_new h hf h1]
      exact runNew_good hm he (.inl hmem)
    · rw [runE_same h hf h1]
      exact hm
    · rw [runE_old h hf h1]
      exact hm
  | none =>
    by_cases h10 : m.seats.length = 10
    · rw [runE_full h hf h10]
      exact hm
    · rw [runE_first h hf h10]
      exact runNew_good hm he (.inr h10)
theorem runEntry_nk (m : ImageD) (e : EntryD) : NK_Image (runEntry m e).1 ≤ 4194304 := by
  cases h : imageOk m && entryOk e with
  | false =>
    rw [runE_bad h]
    simp [NK_Image, NK_CellS, NK_SeatS]
  | true =>
    simp only [Bool.and_eq_true] at h
    exact Nat.le_trans (runEntry_good (imageOk_iff.1 h.1) h.2).nk (by omega)

end Go.Proofs.Ytbfbdhjeoknjkaa
