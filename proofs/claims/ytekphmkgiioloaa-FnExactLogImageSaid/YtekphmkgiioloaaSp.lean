/-
  What a marking leaves of rows of other element types.
-/
import Derived.Test.YtekphmkgiioloaaImage2
import Derived.Test.YtekphmkgiioloaaInts
namespace Go.Proofs.Ytekphmkgiioloaa
theorem O_IntS.sp {E : List TypeId} {w w' : World} {lo hi : Nat} {v : Value} {l : List Int} (h : O_IntS w lo hi v l) (hs : Sp E w w') (hne : 3 ∉ E) : O_IntS w' lo hi v l := Sp.owns hs hne h
theorem markIntS_sp (v : Value) (l : List Int) (k0 : Int) (lo hi : Nat) (w : World) (ho : O_IntS w lo hi v l) (_ : hi ≤ w.heap.size) (h0 : 0 ≤ k0) (hn : k0 + (NK_IntS l : Nat) ≤ 4611686018427387904) :
    Calls Try.prog 26 #[v, .int .i64 k0] w fun e w' => e = .returned (.int .i64 (k0 + (NK_IntS l : Nat))) ∧ O_IntS w' lo hi v (MK_IntS k0 l) ∧ Fr lo hi w w' ∧ Sp [3] w w' := by
  obtain ⟨A, n, c, rfl, hl, ho⟩ := ho
  unfold NK_IntS MK_IntS at *
  subst hl
  refine (markIntS_any A _ c l k0 lo hi w ho h0 hn).mono ?_
  rintro e w' ⟨rfl, ho', hf, hg⟩
  exact ⟨rfl, OwnS.of ho' (marksInt_length _ _), hf, Sp.mark ho hg⟩
theorem O_Image.sp {E : List TypeId} {w w' : World} {lo hi : Nat} {v : Value} {m : ImageD} (h : O_Image w lo hi v m) (hs : Sp E w w') (h1 : 77 ∉ E) (h2 : 80 ∉ E) : O_Image w' lo hi v m := by
  obtain ⟨u, s, rfl, k1, k2⟩ := h
  exact ⟨u, s, rfl, Sp.owns hs h1 k1, Sp.owns hs h2 k2⟩
theorem szEntryS_okE (v : Value) (l : List EntryD) (left : Int) (w : World) (B : Nat) (h : R_EntryS w B v l) (h1 : (l.length : Int) ≤ left) (h2 : left ≤ 1048576) :
    Calls Try.prog 16 #[v, .int .i64 left] w fun e w' => e = .returned (.int .i64 (left - l.length)) ∧ Ext w w' :=
  (szEntryS_ok v l left w B h h1 h2).mono fun _ _ h => ⟨h.1, by rw [← h.2]; exact Ext.refl _⟩
theorem szEntryS_noE (v : Value) (l : List EntryD) (left : Int) (w : World) (B : Nat) (h : R_EntryS w B v l) (h1 : left < (l.length : Int)) (h0 : 0 ≤ left) (h2 : left ≤ 1048576) :
    Calls Try.prog 16 #[v, .int .i64 left] w fun e w' => e = .returned (.int .i64 (-1)) ∧ Ext w w' :=
  (szEntryS_no v l left w B h h1 h0 h2).mono fun _ _ h => ⟨h.1, by rw [← h.2]; exact Ext.refl _⟩
end Go.Proofs.Ytekphmkgiioloaa
