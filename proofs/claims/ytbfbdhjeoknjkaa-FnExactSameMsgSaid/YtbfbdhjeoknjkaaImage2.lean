/-
  Sizes of lists; images sized, copied into the program's type, compared, marked, held.
-/
import Derived.Test.YtbfbdhjeoknjkaaImage
import Derived.Test.YtbfbdhjeoknjkaaEntries
namespace Go.Proofs.Ytbfbdhjeoknjkaa
open Go.RowKit

theorem szCellS_ok (v : Value) (l : List CellD) (left : Int) (w : World) (B : Nat) (h : R_CellS w B v l) (h1 : (l.length : Int) ≤ left) (h2 : left ≤ 1048576) :
    Calls Try.prog 88 #[v, .int .i64 left] w fun e w' => e = .returned (.int .i64 (left - l.length)) ∧ w = w' := by
  obtain ⟨A, n, c, rfl, hl, _, _, _⟩ := h
  rw [hl] at h1 ⊢
  clear hl
  go_enter Try.func88, Try.ntmps88
  go_wp2
  go_ret
  exact ⟨rfl, rfl⟩
theorem szCellS_no (v : Value) (l : List CellD) (left : Int) (w : World) (B : Nat) (h : R_CellS w B v l) (h1 : left < (l.length : Int)) (h0 : 0 ≤ left) (h2 : left ≤ 1048576) :
    Calls Try.prog 88 #[v, .int .i64 left] w fun e w' => e = .returned (.int .i64 (-1)) ∧ w = w' := by
  have hm := h.len
  obtain ⟨A, n, c, rfl, hl, _, _, _⟩ := h
  rw [hl] at h1 hm
  clear hl
  go_enter Try.func88, Try.ntmps88
  go_wp2
  go_ret
  exact ⟨rfl, rfl⟩

theorem szSeatS_ok (v : Value) (l : List SeatD) (left : Int) (w : World) (B : Nat) (h : R_SeatS w B v l) (h1 : (l.length : Int) ≤ left) (h2 : left ≤ 1048576) :
    Calls Try.prog 89 #[v, .int .i64 left] w fun e w' => e = .returned (.int .i64 (left - l.length)) ∧ w = w' := by
  obtain ⟨A, n, c, rfl, hl, _, _, _⟩ := h
  rw [hl] at h1 ⊢
  clear hl
  go_enter Try.func89, Try.ntmps89
  go_wp2
  go_ret
  exact ⟨rfl, rfl⟩
theorem szSeatS_no (v : Value) (l : List SeatD) (left : Int) (w : World) (B : Nat) (h : R_SeatS w B v l) (h1 : left < (l.length : Int)) (h0 : 0 ≤ left) (h2 : left ≤ 1048576) :
    Calls Try.prog 89 #[v, .int .i64 left] w fun e w' => e = .returned (.int .i64 (-1)) ∧ w = w' := by
  have hm := h.len
  obtain ⟨A, n, c, rfl, hl, _, _, _⟩ := h
  rw [hl] at h1 hm
  clear hl
  go_enter Try.func89, Try.ntmps89
  go_wp2
  go_ret
  exact ⟨rfl, rfl⟩

theorem szEntryS_ok (v : Value) (l : List EntryD) (left : Int) (w : World) (B : Nat) (h : R_EntryS w B v l) (h1 : (l.length : Int) ≤ left) (h2 : left ≤ 1048576) :
    Calls Try.prog 46 #[v, .int .i64 left] w fun e w' => e = .returned (.int .i64 (left - l.length)) ∧ w = w' := by
  obtain ⟨A, n, c, rfl, hl, _, _, _⟩ := h
  rw [hl] at h1 ⊢
  clear hl
  go_enter Try.func46, Try.ntmps46
  go_wp2
  go_ret
  exact ⟨rfl, rfl⟩
theorem szEntryS_no (v : Value) (l : List EntryD) (left : Int) (w : World) (B : Nat) (h : R_EntryS w B v l) (h1 : left < (l.length : Int)) (h0 : 0 ≤ left) (h2 : left ≤ 1048576) :
    Calls Try.prog 46 #[v, .int .i64 left] w fun e w' => e = .returned (.int .i64 (-1)) ∧ w = w' := by
  have hm := h.len
  obtain ⟨A, n, c, rfl, hl, _, _, _⟩ := h
  rw [hl] at h1 hm
  clear hl
  go_enter Try.func46, Try.ntmps46
  go_wp2
  go_ret
  exact ⟨rfl, rfl⟩

def szI (m : ImageD) : Nat := m.cells.length + m.seats.length
theorem szImage_ok (v : Value) (m : ImageD) (left : Int) (w : World) (B : Nat) (h : R_Image w B v m) (hB : B ≤ w.heap.size) (h1 : (szI m : Int) ≤ left) (h2 : left ≤ 1048576) :
    Calls Try.prog 45 #[v, .int .i64 left] w fun e w' => e = .returned (.int .i64 (left - szI m)) ∧ Ext w w' := by
  obtain ⟨u, s, rfl, hu, hs⟩ := h
  unfold szI at h1 ⊢
  have hu1 := fun o => hu.keep (keepE' ((Ext.refl w).alloc o) hB)
  have hs1 := fun o => hs.keep (keepE' ((Ext.refl w).alloc o) hB)
  go_enter Try.func45, Try.ntmps45
  go_wp2_with fail
  refine (szCellS_ok _ _ _ _ _ (hu1 _) (by omega) (by omega)).mono ?_
  rintro e w1 ⟨rfl, rfl⟩
  go_wp2_with fail
  refine (szSeatS_ok _ _ _ _ _ (hs1 _) (by omega) (by omega)).mono ?_
  rintro e w1 ⟨rfl, rfl⟩
  go_wp2
  go_ret
  exact ⟨ret_int (by omega), by repeat' (first | with_reducible exact Ext.refl _ | with_reducible assumption | with_reducible refine Ext.set ?_ ?_ _ _ | with_reducible refine Ext.alloc ?_ _ | with_reducible refine Ext.drew ?_ | with_reducible refine Ext.drewN ?_ _ | with_reducible refine Ext.trans ?_ (by with_reducible assumption) | omega | (simp; done) | (simp; omega))⟩
theorem szImage_no (v : Value) (m : ImageD) (left : Int) (w : World) (B : Nat) (h : R_Image w B v m) (hB : B ≤ w.heap.size) (h1 : left < (szI m : Int)) (h0 : 0 ≤ left) (h2 : left ≤ 1048576) :
    Calls Try.prog 45 #[v, .int .i64 left] w fun e w' => e = .returned (.int .i64 (-1)) ∧ Ext w w' := by
  obtain ⟨u, s, rfl, hu, hs⟩ := h
  unfold szI at h1
  have hu1 := fun o => hu.keep (keepE' ((Ext.refl w).alloc o) hB)
  have hs1 := fun o => hs.keep (keepE' ((Ext.refl w).alloc o) hB)
  by_cases hc : (m.cells.length : Int) ≤ left
  · go_enter Try.func45, Try.ntmps45
    go_wp2_with fail
    refine (szCellS_ok _ _ _ _ _ (hu1 _) hc (by omega)).mono ?_
    rintro e w1 ⟨rfl, rfl⟩
    go_wp2_with fail
    refine (szSeatS_no _ _ _ _ _ (hs1 _) (by omega) (by omega) (by omega)).mono ?_
    rintro e w1 ⟨rfl, rfl⟩
    go_wp2
    go_ret
    exact ⟨rfl, by repeat' (first | with_reducible exact Ext.refl _ | with_reducible assumption | with_reducible refine Ext.set ?_ ?_ _ _ | with_reducible refine Ext.alloc ?_ _ | with_reducible refine Ext.drew ?_ | with_reducible refine Ext.drewN ?_ _ | with_reducible refine Ext.trans ?_ (by with_reducible assumption) | omega | (simp; done) | (simp; omega))⟩
  · go_enter Try.func45, Try.ntmps45
    go_wp2_with fail
    refine (szCellS_no _ _ _ _ _ (hu1 _) (by omega) (by omega) (by omega)).mono ?_
    rintro e w1 ⟨rfl, rfl⟩
    go_wp2
    go_ret
    exact ⟨rfl, by repeat' (first | with_reducible exact Ext.refl _ | with_reducible assumption | with_reducible refine Ext.set ?_ ?_ _ _ | with_reducible refine Ext.alloc ?_ _ | with_reducible refine Ext.drew ?_ | with_reducible refine Ext.drewN ?_ _ | with_reducible refine Ext.trans ?_ (by with_reducible assumption) | omega | (simp; done) | (simp; omega))⟩

set_option maxRecDepth 100000 in
set_option maxHeartbeats 1000000 in
theorem toImage_v (v : Value) (m : ImageD) (w : World) (B : Nat) (h : R_Image w B v m) (hB : B ≤ w.heap.size) (hn : szI m ≤ 2097152) :
    Calls Try.prog 48 #[v] w fun e w' => ∃ v', e = .returned v' ∧ O_Image w' w.heap.size w'.heap.size v' m ∧ Ext w w' := by
  obtain ⟨u, s, rfl, hu, hs⟩ := h
  unfold szI at hn
  obtain ⟨A0, n0, c0, hv0, -⟩ := id hu
  obtain ⟨A1, n1, c1, hv1, -⟩ := id hs
  subst hv0 hv1
  go_enter Try.func48, Try.ntmps48
  go_wp2_with fail
  refine (toCellS_v _ _ _ B (by exact hu.keep (keepE' (by repeat' (first | with_reducible exact Ext.refl _ | with_reducible assumption | with_reducible refine Ext.set ?_ ?_ _ _ | with_reducible refine Ext.alloc ?_ _ | with_reducible refine Ext.drew ?_ | with_reducible refine Ext.drewN ?_ _ | with_reducible refine Ext.trans ?_ (by with_reducible assumption) | omega | (simp; done) | (simp; omega))) hB)) (by simp; omega) (by omega)).mono ?_
  rintro e w1 ⟨v1, rfl, ho1, hE1⟩
  obtain ⟨hc1, hf1, hz1⟩ := hE1.look
  have hz2 : w.heap.size + 1 + 1 < w1.heap.size := by simp at hz1; omega
  have hz3 : w.heap.size + 1 < w1.heap.size := by omega
  have hz4 : w.heap.size < w1.heap.size := by omega
  clear hz1
  replace ho1 := ho1.wide (lo' := w.heap.size + 3) (hi' := w1.heap.size) (by simp) (Nat.le_refl _)
  obtain ⟨A2, n2, c2, hv2, -⟩ := id ho1
  subst hv2
  go_wp2_with fail
  refine (toSeatS_v _ _ _ B (by exact hs.keep (keepE' (by repeat' (first | with_reducible exact Ext.refl _ | with_reducible assumption | with_reducible refine Ext.set ?_ ?_ _ _ | with_reducible refine Ext.alloc ?_ _ | with_reducible refine Ext.drew ?_ | with_reducible refine Ext.drewN ?_ _ | with_reducible refine Ext.trans ?_ (by with_reducible assumption) | omega | (simp; done) | (simp; omega))) hB)) (by simp; omega) (by omega)).mono ?_
  rintro e w2 ⟨v2, rfl, ho2, hE2⟩
  obtain ⟨hc2, hf2, hz5⟩ := hE2.look
  simp only [World.size_setCell] at hz5
  replace ho2 := ho2.wide (lo' := w.heap.size + 3) (hi' := w2.heap.size) (by simp; omega) (Nat.le_refl _)
  obtain ⟨A3, n3, c3, hv3, -⟩ := id ho2
  subst hv3
  go_wp2
  exact bodyPost_ret (v := .agg #[.slice A2 n2 c2, .slice A3 n3 c3]) (by simp [results, Try.results48, go_sem, hc2, hc1, hz3]) rfl ⟨_, rfl, ⟨_, _, rfl, (ho1.keep (show Kp _ _ _ _ by repeat' (first | with_reducible exact Kp.refl _ _ _ | with_reducible assumption | with_reducible refine Kp.set ?_ ?_ _ _ | with_reducible refine Kp.alloc ?_ ?_ _ | with_reducible refine Kp.drew ?_ | with_reducible refine Kp.drewN ?_ _ | with_reducible refine Kp.ext ?_ ?_ (by with_reducible assumption) | with_reducible refine Kp.fr ?_ ?_ ?_ (by with_reducible assumption) | omega | (simp; done) | (simp; omega)))).wide (by omega) (by simp; omega), (ho2.keep (show Kp _ _ _ _ by repeat' (first | with_reducible exact Kp.refl _ _ _ | with_reducible assumption | with_reducible refine Kp.set ?_ ?_ _ _ | with_reducible refine Kp.alloc ?_ ?_ _ | with_reducible refine Kp.drew ?_ | with_reducible refine Kp.drewN ?_ _ | with_reducible refine Kp.ext ?_ ?_ (by with_reducible assumption) | with_reducible refine Kp.fr ?_ ?_ ?_ (by with_reducible assumption) | omega | (simp; done) | (simp; omega)))).wide (by omega) (by simp)⟩, by repeat' (first | with_reducible exact Ext.refl _ | with_reducible assumption | with_reducible refine Ext.set ?_ ?_ _ _ | with_reducible refine Ext.alloc ?_ _ | with_reducible refine Ext.drew ?_ | with_reducible refine Ext.drewN ?_ _ | with_reducible refine Ext.trans ?_ (by with_reducible assumption) | omega | (simp; done) | (simp; omega))⟩
set_option maxRecDepth 100000 in
set_option maxHeartbeats 1000000 in
theorem eqImage_v (u v : Value) (x y : ImageD) (w : World) (X Y : Nat) (hu : R_Image w X u x) (hX : X ≤ w.heap.size) (hv : R_Image w Y v y) (hY : Y ≤ w.heap.size) :
    Calls Try.prog 52 #[u, v] w fun e w' => e = .returned (.bool (decide (x = y))) ∧ Ext w w' := by
  obtain ⟨u1, u2, rfl, hu1, hu2⟩ := hu
  obtain ⟨v1, v2, rfl, hv1, hv2⟩ := hv
  obtain ⟨A0, n0, c0, hw0, -⟩ := id hu1
  obtain ⟨A1, n1, c1, hw1, -⟩ := id hu2
  obtain ⟨A2, n2, c2, hw2, -⟩ := id hv1
  obtain ⟨A3, n3, c3, hw3, -⟩ := id hv2
  subst hw0 hw1 hw2 hw3
  obtain ⟨x1, x2⟩ := x
  obtain ⟨y1, y2⟩ := y
  dsimp only at *
  go_enter Try.func52, Try.ntmps52
  go_wp2_with fail
  refine (eqCellS_v _ _ _ _ _ X Y (by exact hu1.keep (keepE' (by repeat' (first | with_reducible exact Ext.refl _ | with_reducible assumption | with_reducible refine Ext.set ?_ ?_ _ _ | with_reducible refine Ext.alloc ?_ _ | with_reducible refine Ext.drew ?_ | with_reducible refine Ext.drewN ?_ _ | with_reducible refine Ext.trans ?_ (by with_reducible assumption) | omega | (simp; done) | (simp; omega))) hX)) (by simp; omega) (by exact hv1.keep (keepE' (by repeat' (first | with_reducible exact Ext.refl _ | with_reducible assumption | with_reducible refine Ext.set ?_ ?_ _ _ | with_reducible refine Ext.alloc ?_ _ | with_reducible refine Ext.drew ?_ | with_reducible refine Ext.drewN ?_ _ | with_reducible refine Ext.trans ?_ (by with_reducible assumption) | omega | (simp; done) | (simp; omega))) hY)) (by simp; omega)).mono ?_
  rintro e w1 ⟨rfl, hE1⟩
  obtain ⟨hc1, hf1, hz1⟩ := hE1.look
  have hz2 : w.heap.size + 1 < w1.heap.size := by simp at hz1; omega
  clear hz1
  by_cases h1 : x1 = y1
  · rw [decide_eq_true h1]
    go_wp2_with fail
    refine (eqSeatS_v _ _ _ _ _ X Y (by exact hu2.keep (keepE' (by repeat' (first | with_reducible exact Ext.refl _ | with_reducible assumption | with_reducible refine Ext.set ?_ ?_ _ _ | with_reducible refine Ext.alloc ?_ _ | with_reducible refine Ext.drew ?_ | with_reducible refine Ext.drewN ?_ _ | with_reducible refine Ext.trans ?_ (by with_reducible assumption) | omega | (simp; done) | (simp; omega))) hX)) (by omega) (by exact hv2.keep (keepE' (by repeat' (first | with_reducible exact Ext.refl _ | with_reducible assumption | with_reducible refine Ext.set ?_ ?_ _ _ | with_reducible refine Ext.alloc ?_ _ | with_reducible refine Ext.drew ?_ | with_reducible refine Ext.drewN ?_ _ | with_reducible refine Ext.trans ?_ (by with_reducible assumption) | omega | (simp; done) | (simp; omega))) hY)) (by omega)).mono ?_
    rintro e w2 ⟨rfl, hE2⟩
    by_cases h2 : x2 = y2
    · rw [decide_eq_true h2]
      go_wp2
      go_ret
      exact ⟨ret_bool (by simp [h1, h2]), by repeat' (first | with_reducible exact Ext.refl _ | with_reducible assumption | with_reducible refine Ext.set ?_ ?_ _ _ | with_reducible refine Ext.alloc ?_ _ | with_reducible refine Ext.drew ?_ | with_reducible refine Ext.drewN ?_ _ | with_reducible refine Ext.trans ?_ (by with_reducible assumption) | omega | (simp; done) | (simp; omega))⟩
    · rw [decide_eq_false h2]
      go_wp2
      go_ret
      exact ⟨ret_bool (by simp [h2]), by repeat' (first | with_reducible exact Ext.refl _ | with_reducible assumption | with_reducible refine Ext.set ?_ ?_ _ _ | with_reducible refine Ext.alloc ?_ _ | with_reducible refine Ext.drew ?_ | with_reducible refine Ext.drewN ?_ _ | with_reducible refine Ext.trans ?_ (by with_reducible assumption) | omega | (simp; done) | (simp; omega))⟩
  · rw [decide_eq_false h1]
    go_wp2
    go_ret
    exact ⟨ret_bool (by simp [h1]), by repeat' (first | with_reducible exact Ext.refl _ | with_reducible assumption | with_reducible refine Ext.set ?_ ?_ _ _ | with_reducible refine Ext.alloc ?_ _ | with_reducible refine Ext.drew ?_ | with_reducible refine Ext.drewN ?_ _ | with_reducible refine Ext.trans ?_ (by with_reducible assumption) | omega | (simp; done) | (simp; omega))⟩
/-- Rows of other element types are as they were. -/
def Sp (E : List TypeId) (w w' : World) : Prop := ∀ (lo hi sz n : Nat) (e : TypeId) (v : Value) (xs : List Value), e ∉ E → Own w lo hi e sz v n xs → Own w' lo hi e sz v n xs
theorem Sp.ext {w w' : World} (h : Ext w w') : Sp [] w w' := fun _ hi _ _ _ _ _ _ ho => ho.fr (Fr.of_below (lo := hi) (hi := hi) h) (.inl (Nat.le_refl _))
theorem Sp.mark {w w' : World} {lo hi sz n : Nat} {e : TypeId} {v : Value} {xs : List Value} (h : Own w lo hi e sz v n xs) (hg : w.grownBy w' (blk v)) : Sp [e] w w' := fun _ _ _ _ _ _ _ hne ho => ho.apart h (by simpa using hne) hg
theorem Sp.trans {E F : List TypeId} {a b c : World} (h : Sp E a b) (k : Sp F b c) : Sp (E ++ F) a c := fun lo hi sz n e v xs hne ho => k lo hi sz n e v xs (fun hm => hne (List.mem_append_right _ hm)) (h lo hi sz n e v xs (fun hm => hne (List.mem_append_left _ hm)) ho)
theorem Sp.owns {α : Type} {enc : α → List Value} {l : List α} {E : List TypeId} {w w' : World} {lo hi sz : Nat} {e : TypeId} {v : Value} (h : Sp E w w') (hne : e ∉ E) (ho : OwnS w lo hi e sz enc v l) : OwnS w' lo hi e sz enc v l := by
  obtain ⟨A, n, c, rfl, hl, ho⟩ := ho
  exact ⟨A, n, c, rfl, hl, h _ _ _ _ _ _ _ hne ho⟩
set_option maxRecDepth 100000 in
set_option maxHeartbeats 1000000 in
theorem markImage_g (v : Value) (m : ImageD) (k0 : Int) (lo hi : Nat) (w : World) (ho : O_Image w lo hi v m) (hhi : hi ≤ w.heap.size) (h0 : 0 ≤ k0) (hn : k0 + (NK_Image m : Nat) ≤ 4611686018427387904) :
    Calls Try.prog 54 #[v, .int .i64 k0] w fun e w' => e = .returned (.int .i64 (k0 + (NK_Image m : Nat))) ∧ O_Image w' lo hi v (MK_Image k0 m) ∧ Fr lo hi w w' ∧ Sp [86, 88] w w' := by
  obtain ⟨u, s, rfl, hu, hs⟩ := ho
  unfold NK_Image at *
  obtain ⟨A0, n0, c0, hw0, -⟩ := id hu
  obtain ⟨A1, n1, c1, hw1, -⟩ := id hs
  subst hw0 hw1
  go_enter Try.func54, Try.ntmps54
  go_wp2_with fail
  refine (markCellS_g _ _ _ lo hi _ (by exact hu.keep (show Kp _ _ _ _ by repeat' (first | with_reducible exact Kp.refl _ _ _ | with_reducible assumption | with_reducible refine Kp.set ?_ ?_ _ _ | with_reducible refine Kp.alloc ?_ ?_ _ | with_reducible refine Kp.drew ?_ | with_reducible refine Kp.drewN ?_ _ | with_reducible refine Kp.ext ?_ ?_ (by with_reducible assumption) | with_reducible refine Kp.fr ?_ ?_ ?_ (by with_reducible assumption) | omega | (simp; done) | (simp; omega)))) (by omega) (by omega)).mono ?_
  rintro e w1 ⟨rfl, ho1, hF1, hg1⟩
  have hF := (Fr.of_below (lo := lo) (hi := hi) ((Ext.refl w).alloc (.cells #[.slice A0 n0 c0, .slice A1 n1 c1] 39))).trans hF1
  have hs1 := (hs.keep (w' := w.alloc (.cells #[.slice A0 n0 c0, .slice A1 n1 c1] 39)) (show Kp _ _ _ _ by repeat' (first | with_reducible exact Kp.refl _ _ _ | with_reducible assumption | with_reducible refine Kp.set ?_ ?_ _ _ | with_reducible refine Kp.alloc ?_ ?_ _ | with_reducible refine Kp.drew ?_ | with_reducible refine Kp.drewN ?_ _ | with_reducible refine Kp.ext ?_ ?_ (by with_reducible assumption) | with_reducible refine Kp.fr ?_ ?_ ?_ (by with_reducible assumption) | omega | (simp; done) | (simp; omega)))).apart (hu.keep (w' := w.alloc (.cells #[.slice A0 n0 c0, .slice A1 n1 c1] 39)) (show Kp _ _ _ _ by repeat' (first | with_reducible exact Kp.refl _ _ _ | with_reducible assumption | with_reducible refine Kp.set ?_ ?_ _ _ | with_reducible refine Kp.alloc ?_ ?_ _ | with_reducible refine Kp.drew ?_ | with_reducible refine Kp.drewN ?_ _ | with_reducible refine Kp.ext ?_ ?_ (by with_reducible assumption) | with_reducible refine Kp.fr ?_ ?_ ?_ (by with_reducible assumption) | omega | (simp; done) | (simp; omega)))) (by decide) hg1
  have hb1 : w1.cell? ⟨w.heap.size, 1, none⟩ = some (.slice A1 n1 c1) := by
    rw [World.cell?_of_block (a := ⟨w.heap.size, 1, none⟩) (hF1.block w.heap.size (by simp) (.inr hhi))]
    simp
  have hz1 : w.heap.size < w1.heap.size := by have := hF1.size; simp at this; omega
  go_wp2_with fail
  refine (markSeatS_g _ _ _ lo hi _ hs1 (by omega) (by omega)).mono ?_
  rintro e w2 ⟨rfl, ho2, hF2, hg2⟩
  have ho3 := ho1.apart hs1 (by decide) hg2
  have hsp : Sp [86, 88] w w2 := by
    obtain ⟨_, _, _, _, _, q1⟩ := hu.keep (w' := w.alloc (.cells #[.slice A0 n0 c0, .slice A1 n1 c1] 39)) (show Kp _ _ _ _ by repeat' (first | with_reducible exact Kp.refl _ _ _ | with_reducible assumption | with_reducible refine Kp.set ?_ ?_ _ _ | with_reducible refine Kp.alloc ?_ ?_ _ | with_reducible refine Kp.drew ?_ | with_reducible refine Kp.drewN ?_ _ | with_reducible refine Kp.ext ?_ ?_ (by with_reducible assumption) | with_reducible refine Kp.fr ?_ ?_ ?_ (by with_reducible assumption) | omega | (simp; done) | (simp; omega)))
    obtain ⟨_, _, _, _, _, q2⟩ := hs1
    exact (Sp.trans (Sp.trans (Sp.ext ((Ext.refl w).alloc _)) (Sp.mark q1 hg1)) (Sp.mark q2 hg2))
  have hF3 := hF.trans hF2
  clear hb1
  go_wp2
  go_ret
  exact ⟨ret_int (by omega), ⟨_, _, rfl, ho3, ho2⟩, hF3, hsp⟩
theorem markImage_v (v : Value) (m : ImageD) (k0 : Int) (lo hi : Nat) (w : World) (ho : O_Image w lo hi v m) (hhi : hi ≤ w.heap.size) (h0 : 0 ≤ k0) (hn : k0 + (NK_Image m : Nat) ≤ 4611686018427387904) :
    Calls Try.prog 54 #[v, .int .i64 k0] w fun e w' => e = .returned (.int .i64 (k0 + (NK_Image m : Nat))) ∧ O_Image w' lo hi v (MK_Image k0 m) ∧ Fr lo hi w w' :=
  (markImage_g v m k0 lo hi w ho hhi h0 hn).mono fun _ _ h => ⟨h.1, h.2.1, h.2.2.1⟩
set_option maxRecDepth 100000 in
set_option maxHeartbeats 1000000 in
theorem heldImage_v (v : Value) (m : ImageD) (k0 : Int) (B : Nat) (w : World) (h : R_Image w B v (MK_Image k0 m)) (hB : B ≤ w.heap.size) (h0 : 0 ≤ k0) (hn : k0 + (NK_Image m : Nat) ≤ 4611686018427387904) :
    Calls Try.prog 68 #[v, .int .i64 k0] w fun e w' => e = .returned (.int .i64 (k0 + (NK_Image m : Nat))) ∧ Ext w w' := by
  obtain ⟨u, s, rfl, hu, hs⟩ := h
  unfold NK_Image at *
  obtain ⟨A0, n0, c0, hw0, -⟩ := id hu
  obtain ⟨A1, n1, c1, hw1, -⟩ := id hs
  subst hw0 hw1
  go_enter Try.func68, Try.ntmps68
  go_wp2_with fail
  refine (heldCellS_v _ m.cells _ B _ (by exact hu.keep (keepE' (by repeat' (first | with_reducible exact Ext.refl _ | with_reducible assumption | with_reducible refine Ext.set ?_ ?_ _ _ | with_reducible refine Ext.alloc ?_ _ | with_reducible refine Ext.drew ?_ | with_reducible refine Ext.drewN ?_ _ | with_reducible refine Ext.trans ?_ (by with_reducible assumption) | omega | (simp; done) | (simp; omega))) hB)) (by simp; omega) (by omega) (by omega)).mono ?_
  rintro e w1 ⟨rfl, hE1⟩
  obtain ⟨hc1, hf1, hz1⟩ := hE1.look
  have hz2 : w.heap.size < w1.heap.size := by simp at hz1; omega
  clear hz1
  go_wp2_with fail
  refine (heldSeatS_v _ m.seats _ B _ (by exact hs.keep (keepE' (by repeat' (first | with_reducible exact Ext.refl _ | with_reducible assumption | with_reducible refine Ext.set ?_ ?_ _ _ | with_reducible refine Ext.alloc ?_ _ | with_reducible refine Ext.drew ?_ | with_reducible refine Ext.drewN ?_ _ | with_reducible refine Ext.trans ?_ (by with_reducible assumption) | omega | (simp; done) | (simp; omega))) hB)) (by omega) (by omega) (by omega)).mono ?_
  rintro e w2 ⟨rfl, hE2⟩
  go_wp2
  go_ret
  exact ⟨ret_int (by omega), by repeat' (first | with_reducible exact Ext.refl _ | with_reducible assumption | with_reducible refine Ext.set ?_ ?_ _ _ | with_reducible refine Ext.alloc ?_ _ | with_reducible refine Ext.drew ?_ | with_reducible refine Ext.drewN ?_ _ | with_reducible refine Ext.trans ?_ (by with_reducible assumption) | omega | (simp; done) | (simp; omega))⟩

end Go.Proofs.Ytbfbdhjeoknjkaa
