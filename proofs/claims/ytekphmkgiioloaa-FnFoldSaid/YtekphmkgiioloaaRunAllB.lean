/-
  RunAll over an image and a list that lie apart.
-/
import Derived.Test.YtekphmkgiioloaaRunAll
namespace Go.Proofs.Ytekphmkgiioloaa
theorem runAll_i2 (v t : Value) (m : ImageD) (l : List EntryD) (w : World) (X Y : Nat) (hr : R_Image w X v m) (hX : X ≤ w.heap.size) (ht : R_EntryS w Y t l) (hY : Y ≤ w.heap.size) (hm : szI m ≤ 2097152) (hn : l.length ≤ 2097152) :
    Calls Try.prog 20 #[v, t] w fun e w' => ∃ v' a', e = .returned (.tuple #[v', a']) ∧ O_Image w' w.heap.size w'.heap.size v' (runAll m l).1 ∧ O_IntS w' w.heap.size w'.heap.size a' (runAll m l).2 ∧ Ext w w' :=
  runAll_i v t m l w (max X Y) (hr.more (Nat.le_max_left _ _)) (ht.more (Nat.le_max_right _ _)) (Nat.max_le.2 ⟨hX, hY⟩) hm hn
theorem runAll_s2 (v t : Value) (m : ImageD) (l : List EntryD) (w : World) (X Y : Nat) (hr : R_Image w X v m) (hX : X ≤ w.heap.size) (ht : R_EntryS w Y t l) (hY : Y ≤ w.heap.size) (hm : szI m ≤ 2097152) (hn : l.length ≤ 2097152) :
    Calls Try.prog 17 #[v, t] w fun e w' => ∃ v' a', e = .returned (.tuple #[v', a']) ∧ O_Image w' w.heap.size w'.heap.size v' (runAll m l).1 ∧ O_IntS w' w.heap.size w'.heap.size a' (runAll m l).2 ∧ Ext w w' :=
  runAll_s v t m l w (max X Y) (hr.more (Nat.le_max_left _ _)) (ht.more (Nat.le_max_right _ _)) (Nat.max_le.2 ⟨hX, hY⟩) hm hn
end Go.Proofs.Ytekphmkgiioloaa
