/-
  Logs: what they read as, sized, copied into the program's type, compared, marked, held.
-/
import Derived.Test.YtbfbdhjeoknjkaaImage2
import Derived.Test.YtbfbdhjeoknjkaaEntries
namespace Go.Proofs.Ytbfbdhjeoknjkaa
open Go.RowKit

structure LogD where
  base : Int
  image : ImageD
  entries : List EntryD
deriving DecidableEq

/-- The value is a log that reads as l. -/
def R_Log (w : World) (B : Nat) (v : Value) (l : LogD) : Prop := ∃ u s t, v = .agg #[.int .i64 l.base, u, s, t] ∧ R_CellS w B u l.image.cells ∧ R_SeatS w B s l.image.seats ∧ R_EntryS w B t l.entries
def O_Log (w : World) (lo hi : Nat) (v : Value) (l : LogD) : Prop := ∃ u s t, v = .agg #[.int .i64 l.base, u, s, t] ∧ O_CellS w lo hi u l.image.cells ∧ O_SeatS w lo hi s l.image.seats ∧ O_EntryS w lo hi t l.entries
def NK_Log (l : LogD) : Nat := NK_Image l.image + NK_EntryS l.entries
def MK_Log (k : Int) (l : LogD) : LogD := ⟨l.base, MK_Image k l.image, MK_EntryS (k + (NK_Image l.image : Nat)) l.entries⟩
theorem R_Log.keep {w w' : World} {B : Nat} {v : Value} {l : LogD} (h : R_Log w B v l) (hk : ∀ k, k < B → w'.heap[k]? = w.heap[k]?) : R_Log w' B v l := by
  obtain ⟨u, s, t, rfl, h1, h2, h3⟩ := h
  exact ⟨u, s, t, rfl, h1.keep hk, h2.keep hk, h3.keep hk⟩
theorem O_Log.keep {w w' : World} {lo hi : Nat} {v : Value} {l : LogD} (h : O_Log w lo hi v l) (hk : ∀ k, lo ≤ k → k < hi → w'.heap[k]? = w.heap[k]?) : O_Log w' lo hi v l := by
  obtain ⟨u, s, t, rfl, h1, h2, h3⟩ := h
  exact ⟨u, s, t, rfl, h1.keep hk, h2.keep hk, h3.keep hk⟩
theorem O_Log.rd {w : World} {lo hi : Nat} {v : Value} {l : LogD} (h : O_Log w lo hi v l) : R_Log w hi v l := by
  obtain ⟨u, s, t, rfl, h1, h2, h3⟩ := h
  exact ⟨u, s, t, rfl, h1.rd, h2.rd, h3.rd⟩
theorem O_Log.wide {w : World} {lo hi lo' hi' : Nat} {v : Value} {l : LogD} (h : O_Log w lo hi v l) (h1 : lo' ≤ lo) (h2 : hi ≤ hi') : O_Log w lo' hi' v l := by
  obtain ⟨u, s, t, rfl, h3, h4, h5⟩ := h
  exact ⟨u, s, t, rfl, h3.wide h1 h2, h4.wide h1 h2, h5.wide h1 h2⟩
theorem R_Log.more {w : World} {B B' : Nat} {v : Value} {l : LogD} (h : R_Log w B v l) (hB : B ≤ B') : R_Log w B' v l := by
  obtain ⟨u, s, t, rfl, h1, h2, h3⟩ := h
  exact ⟨u, s, t, rfl, h1.more hB, h2.more hB, h3.more hB⟩
theorem R_Log.image {w : World} {B : Nat} {b : Int} {u s t : Value} {l : LogD} (h : R_Log w B (.agg #[.int .i64 b, u, s, t]) l) : R_Image w B (.agg #[u, s]) l.image ∧ R_EntryS w B t l.entries ∧ b = l.base := by
  obtain ⟨u', s', t', hv, h1, h2, h3⟩ := h
  injection hv with hv
  injection hv with hv
  simp only [List.cons.injEq, Value.int.injEq, true_and, and_true] at hv
  obtain ⟨e0, e1, e2, e3⟩ := hv
  subst e1 e2 e3
  exact ⟨⟨_, _, rfl, h1, h2⟩, h3, e0⟩

def szL (l : LogD) : Nat := szI l.image + l.entries.length
set_option maxRecDepth 100000 in
set_option maxHeartbeats 1000000 in
theorem szLog_ok (v : Value) (l : LogD) (left : Int) (w : World) (B : Nat) (h : R_Log w B v l) (hB : B ≤ w.heap.size) (h1 : (szL l : Int) ≤ left) (h2 : left ≤ 1048576) :
    Calls Try.prog 14 #[v, .int .i64 left] w fun e w' => e = .returned (.int .i64 (left - szL l)) ∧ Ext w w' := by
  obtain ⟨u, s, t, rfl, hu, hs, ht⟩ := h
  unfold szL at h1 ⊢
  have hi : R_Image w B (.agg #[u, s]) l.image := ⟨_, _, rfl, hu, hs⟩
  obtain ⟨A0, n0, c0, hv0, -⟩ := id hu
  obtain ⟨A1, n1, c1, hv1, -⟩ := id hs
  obtain ⟨A2, n2, c2, hv2, -⟩ := id ht
  subst hv0 hv1 hv2
  clear hu hs
  go_enter Try.func14, Try.ntmps14
  go_wp2_with fail
  refine (szImage_ok _ _ _ _ B (by exact hi.keep (keepE' (by repeat' (first | with_reducible exact Ext.refl _ | with_reducible assumption | with_reducible refine Ext.set ?_ ?_ _ _ | with_reducible refine Ext.alloc ?_ _ | with_reducible refine Ext.drew ?_ | with_reducible refine Ext.drewN ?_ _ | with_reducible refine Ext.trans ?_ (by with_reducible assumption) | omega | (simp; done) | (simp; omega))) hB)) (by simp; omega) (by omega) (by omega)).mono ?_
  rintro e w1 ⟨rfl, hE1⟩
  obtain ⟨hc1, hf1, hz1⟩ := hE1.look
  have hz2 : w.heap.size < w1.heap.size := by simp at hz1; omega
  clear hz1
  go_wp2_with fail
  refine (szEntryS_ok _ _ _ _ B (by exact ht.keep (keepE' (by repeat' (first | with_reducible exact Ext.refl _ | with_reducible assumption | with_reducible refine Ext.set ?_ ?_ _ _ | with_reducible refine Ext.alloc ?_ _ | with_reducible refine Ext.drew ?_ | with_reducible refine Ext.drewN ?_ _ | with_reducible refine Ext.trans ?_ (by with_reducible assumption) | omega | (simp; done) | (simp; omega))) hB)) (by omega) (by omega)).mono ?_
  rintro e w2 ⟨rfl, rfl⟩
  go_wp2
  go_ret
  exact ⟨ret_int (by omega), by repeat' (first | with_reducible exact Ext.refl _ | with_reducible assumption | with_reducible refine Ext.set ?_ ?_ _ _ | with_reducible refine Ext.alloc ?_ _ | with_reducible refine Ext.drew ?_ | with_reducible refine Ext.drewN ?_ _ | with_reducible refine Ext.trans ?_ (by with_reducible assumption) | omega | (simp; done) | (simp; omega))⟩
set_option maxRecDepth 100000 in
set_option maxHeartbeats 1000000 in
theorem szLog_no (v : Value) (l : LogD) (left : Int) (w : World) (B : Nat) (h : R_Log w B v l) (hB : B ≤ w.heap.size) (h1 : left < (szL l : Int)) (h0 : 0 ≤ left) (h2 : left ≤ 1048576) :
    Calls Try.prog 14 #[v, .int .i64 left] w fun e w' => e = .returned (.int .i64 (-1)) ∧ Ext w w' := by
  obtain ⟨u, s, t, rfl, hu, hs, ht⟩ := h
  unfold szL at h1
  have hi : R_Image w B (.agg #[u, s]) l.image := ⟨_, _, rfl, hu, hs⟩
  obtain ⟨A0, n0, c0, hv0, -⟩ := id hu
  obtain ⟨A1, n1, c1, hv1, -⟩ := id hs
  obtain ⟨A2, n2, c2, hv2, -⟩ := id ht
  subst hv0 hv1 hv2
  clear hu hs
  by_cases hc : (szI l.image : Int) ≤ left
  · go_enter Try.func14, Try.ntmps14
    go_wp2_with fail
    refine (szImage_ok _ _ _ _ B (by exact hi.keep (keepE' (by repeat' (first | with_reducible exact Ext.refl _ | with_reducible assumption | with_reducible refine Ext.set ?_ ?_ _ _ | with_reducible refine Ext.alloc ?_ _ | with_reducible refine Ext.drew ?_ | with_reducible refine Ext.drewN ?_ _ | with_reducible refine Ext.trans ?_ (by with_reducible assumption) | omega | (simp; done) | (simp; omega))) hB)) (by simp; omega) hc (by omega)).mono ?_
    rintro e w1 ⟨rfl, hE1⟩
    obtain ⟨hc1, hf1, hz1⟩ := hE1.look
    have hz2 : w.heap.size < w1.heap.size := by simp at hz1; omega
    clear hz1
    go_wp2_with fail
    refine (szEntryS_no _ _ _ _ B (by exact ht.keep (keepE' (by repeat' (first | with_reducible exact Ext.refl _ | with_reducible assumption | with_reducible refine Ext.set ?_ ?_ _ _ | with_reducible refine Ext.alloc ?_ _ | with_reducible refine Ext.drew ?_ | with_reducible refine Ext.drewN ?_ _ | with_reducible refine Ext.trans ?_ (by with_reducible assumption) | omega | (simp; done) | (simp; omega))) hB)) (by omega) (by omega) (by omega)).mono ?_
    rintro e w2 ⟨rfl, rfl⟩
    go_wp2
    go_ret
    exact ⟨rfl, by repeat' (first | with_reducible exact Ext.refl _ | with_reducible assumption | with_reducible refine Ext.set ?_ ?_ _ _ | with_reducible refine Ext.alloc ?_ _ | with_reducible refine Ext.drew ?_ | with_reducible refine Ext.drewN ?_ _ | with_reducible refine Ext.trans ?_ (by with_reducible assumption) | omega | (simp; done) | (simp; omega))⟩
  · go_enter Try.func14, Try.ntmps14
    go_wp2_with fail
    refine (szImage_no _ _ _ _ B (by exact hi.keep (keepE' (by repeat' (first | with_reducible exact Ext.refl _ | with_reducible assumption | with_reducible refine Ext.set ?_ ?_ _ _ | with_reducible refine Ext.alloc ?_ _ | with_reducible refine Ext.drew ?_ | with_reducible refine Ext.drewN ?_ _ | with_reducible refine Ext.trans ?_ (by with_reducible assumption) | omega | (simp; done) | (simp; omega))) hB)) (by simp; omega) (by omega) (by omega) (by omega)).mono ?_
    rintro e w1 ⟨rfl, hE1⟩
    go_wp2
    go_ret
    exact ⟨rfl, by repeat' (first | with_reducible exact Ext.refl _ | with_reducible assumption | with_reducible refine Ext.set ?_ ?_ _ _ | with_reducible refine Ext.alloc ?_ _ | with_reducible refine Ext.drew ?_ | with_reducible refine Ext.drewN ?_ _ | with_reducible refine Ext.trans ?_ (by with_reducible assumption) | omega | (simp; done) | (simp; omega))⟩

set_option maxRecDepth 100000 in
set_option maxHeartbeats 2000000 in
theorem toLog_v (v : Value) (l : LogD) (w : World) (B : Nat) (h : R_Log w B v l) (hB : B ≤ w.heap.size) (hn : szL l ≤ 2097152) :
    Calls Try.prog 16 #[v] w fun e w' => ∃ v', e = .returned v' ∧ O_Log w' w.heap.size w'.heap.size v' l ∧ Ext w w' := by
  obtain ⟨u, s, t, rfl, hu, hs, ht⟩ := h
  unfold szL at hn
  have hi : R_Image w B (.agg #[u, s]) l.image := ⟨_, _, rfl, hu, hs⟩
  obtain ⟨A0, n0, c0, hv0, -⟩ := id hu
  obtain ⟨A1, n1, c1, hv1, -⟩ := id hs
  obtain ⟨A4, n4, c4, hv4, -⟩ := id ht
  subst hv0 hv1 hv4
  clear hu hs
  go_enter Try.func16, Try.ntmps16
  go_wp2_with fail
  refine (toImage_v _ _ _ B (by exact hi.keep (keepE' (by repeat' (first | with_reducible exact Ext.refl _ | with_reducible assumption | with_reducible refine Ext.set ?_ ?_ _ _ | with_reducible refine Ext.alloc ?_ _ | with_reducible refine Ext.drew ?_ | with_reducible refine Ext.drewN ?_ _ | with_reducible refine Ext.trans ?_ (by with_reducible assumption) | omega | (simp; done) | (simp; omega))) hB)) (by simp; omega) (by omega)).mono ?_
  rintro e w1 ⟨v1, rfl, ho1, hE1⟩
  obtain ⟨hc1, hf1, hz1⟩ := hE1.look
  have hz2 : w.heap.size + 1 + 1 < w1.heap.size := by simp at hz1; omega
  have hz3 : w.heap.size + 1 < w1.heap.size := by omega
  have hz4 : w.heap.size < w1.heap.size := by omega
  clear hz1
  obtain ⟨v2, v3, rfl, ho2, ho3⟩ := ho1
  replace ho2 := ho2.wide (lo' := w.heap.size + 3) (hi' := w1.heap.size) (by simp) (Nat.le_refl _)
  replace ho3 := ho3.wide (lo' := w.heap.size + 3) (hi' := w1.heap.size) (by simp) (Nat.le_refl _)
  obtain ⟨A2, n2, c2, hv2, -⟩ := id ho2
  obtain ⟨A3, n3, c3, hv3, -⟩ := id ho3
  subst hv2 hv3
  go_wp2_with fail
  refine (toEntryS_v _ _ _ B (by exact ht.keep (keepE' (by repeat' (first | with_reducible exact Ext.refl _ | with_reducible assumption | with_reducible refine Ext.set ?_ ?_ _ _ | with_reducible refine Ext.alloc ?_ _ | with_reducible refine Ext.drew ?_ | with_reducible refine Ext.drewN ?_ _ | with_reducible refine Ext.trans ?_ (by with_reducible assumption) | omega | (simp; done) | (simp; omega))) hB)) (by simp; omega) (by omega)).mono ?_
  rintro e w2 ⟨v4, rfl, ho4, hE2⟩
  obtain ⟨hc2, hf2, hz5⟩ := hE2.look
  simp only [World.size_setCell] at hz5
  replace ho4 := ho4.wide (lo' := w.heap.size + 3) (hi' := w2.heap.size) (by simp; omega) (Nat.le_refl _)
  obtain ⟨A5, n5, c5, hv5, -⟩ := id ho4
  subst hv5
  go_wp2
  exact bodyPost_ret (v := .agg #[.int .i64 l.base, .slice A2 n2 c2, .slice A3 n3 c3, .slice A5 n5 c5]) (by simp [results, Try.results16, go_sem, hc2, hc1, hz3]) rfl ⟨_, rfl, ⟨_, _, _, rfl, (ho2.keep (show Kp _ _ _ _ by repeat' (first | with_reducible exact Kp.refl _ _ _ | with_reducible assumption | with_reducible refine Kp.set ?_ ?_ _ _ | with_reducible refine Kp.alloc ?_ ?_ _ | with_reducible refine Kp.drew ?_ | with_reducible refine Kp.drewN ?_ _ | with_reducible refine Kp.ext ?_ ?_ (by with_reducible assumption) | with_reducible refine Kp.fr ?_ ?_ ?_ (by with_reducible assumption) | omega | (simp; done) | (simp; omega)))).wide (by omega) (by simp; omega), (ho3.keep (show Kp _ _ _ _ by repeat' (first | with_reducible exact Kp.refl _ _ _ | with_reducible assumption | with_reducible refine Kp.set ?_ ?_ _ _ | with_reducible refine Kp.alloc ?_ ?_ _ | with_reducible refine Kp.drew ?_ | with_reducible refine Kp.drewN ?_ _ | with_reducible refine Kp.ext ?_ ?_ (by with_reducible assumption) | with_reducible refine Kp.fr ?_ ?_ ?_ (by with_reducible assumption) | omega | (simp; done) | (simp; omega)))).wide (by omega) (by simp; omega), (ho4.keep (show Kp _ _ _ _ by repeat' (first | with_reducible exact Kp.refl _ _ _ | with_reducible assumption | with_reducible refine Kp.set ?_ ?_ _ _ | with_reducible refine Kp.alloc ?_ ?_ _ | with_reducible refine Kp.drew ?_ | with_reducible refine Kp.drewN ?_ _ | with_reducible refine Kp.ext ?_ ?_ (by with_reducible assumption) | with_reducible refine Kp.fr ?_ ?_ ?_ (by with_reducible assumption) | omega | (simp; done) | (simp; omega)))).wide (by omega) (by simp)⟩, by repeat' (first | with_reducible exact Ext.refl _ | with_reducible assumption | with_reducible refine Ext.set ?_ ?_ _ _ | with_reducible refine Ext.alloc ?_ _ | with_reducible refine Ext.drew ?_ | with_reducible refine Ext.drewN ?_ _ | with_reducible refine Ext.trans ?_ (by with_reducible assumption) | omega | (simp; done) | (simp; omega))⟩
set_option maxRecDepth 100000 in
set_option maxHeartbeats 1000000 in
theorem eqLog_v (u v : Value) (x y : LogD) (w : World) (X Y : Nat) (hu : R_Log w X u x) (hX : X ≤ w.heap.size) (hv : R_Log w Y v y) (hY : Y ≤ w.heap.size) :
    Calls Try.prog 19 #[u, v] w fun e w' => e = .returned (.bool (decide (x = y))) ∧ Ext w w' := by
  obtain ⟨u1, u2, u3, rfl, hu1, hu2, hu3⟩ := hu
  obtain ⟨v1, v2, v3, rfl, hv1, hv2, hv3⟩ := hv
  have hi : R_Image w X (.agg #[u1, u2]) x.image := ⟨_, _, rfl, hu1, hu2⟩
  have hj : R_Image w Y (.agg #[v1, v2]) y.image := ⟨_, _, rfl, hv1, hv2⟩
  obtain ⟨A0, n0, c0, hw0, -⟩ := id hu1
  obtain ⟨A1, n1, c1, hw1, -⟩ := id hu2
  obtain ⟨A2, n2, c2, hw2, -⟩ := id hv1
  obtain ⟨A3, n3, c3, hw3, -⟩ := id hv2
  obtain ⟨A4, n4, c4, hw4, -⟩ := id hu3
  obtain ⟨A5, n5, c5, hw5, -⟩ := id hv3
  subst hw0 hw1 hw2 hw3 hw4 hw5
  obtain ⟨xb, x1, x2⟩ := x
  obtain ⟨yb, y1, y2⟩ := y
  dsimp only at *
  clear hu1 hu2 hv1 hv2
  by_cases hb : xb = yb
  · subst hb
    go_enter Try.func19, Try.ntmps19
    go_wp2_with fail
    refine (eqImage_v _ _ _ _ _ X Y (by exact hi.keep (keepE' (by repeat' (first | with_reducible exact Ext.refl _ | with_reducible assumption | with_reducible refine Ext.set ?_ ?_ _ _ | with_reducible refine Ext.alloc ?_ _ | with_reducible refine Ext.drew ?_ | with_reducible refine Ext.drewN ?_ _ | with_reducible refine Ext.trans ?_ (by with_reducible assumption) | omega | (simp; done) | (simp; omega))) hX)) (by simp; omega) (by exact hj.keep (keepE' (by repeat' (first | with_reducible exact Ext.refl _ | with_reducible assumption | with_reducible refine Ext.set ?_ ?_ _ _ | with_reducible refine Ext.alloc ?_ _ | with_reducible refine Ext.drew ?_ | with_reducible refine Ext.drewN ?_ _ | with_reducible refine Ext.trans ?_ (by with_reducible assumption) | omega | (simp; done) | (simp; omega))) hY)) (by simp; omega)).mono ?_
    rintro e w1 ⟨rfl, hE1⟩
    obtain ⟨hc1, hf1, hz1⟩ := hE1.look
    have hz2 : w.heap.size + 1 < w1.heap.size := by simp at hz1; omega
    clear hz1
    by_cases h1 : x1 = y1
    · rw [decide_eq_true h1]
      go_wp2_with fail
      refine (eqEntryS_v _ _ _ _ _ X Y (by exact hu3.keep (keepE' (by repeat' (first | with_reducible exact Ext.refl _ | with_reducible assumption | with_reducible refine Ext.set ?_ ?_ _ _ | with_reducible refine Ext.alloc ?_ _ | with_reducible refine Ext.drew ?_ | with_reducible refine Ext.drewN ?_ _ | with_reducible refine Ext.trans ?_ (by with_reducible assumption) | omega | (simp; done) | (simp; omega))) hX)) (by omega) (by exact hv3.keep (keepE' (by repeat' (first | with_reducible exact Ext.refl _ | with_reducible assumption | with_reducible refine Ext.set ?_ ?_ _ _ | with_reducible refine Ext.alloc ?_ _ | with_reducible refine Ext.drew ?_ | with_reducible refine Ext.drewN ?_ _ | with_reducible refine Ext.trans ?_ (by with_reducible assumption) | omega | (simp; done) | (simp; omega))) hY)) (by omega)).mono ?_
      rintro e w2 ⟨rfl, hE2⟩
      by_cases h2 : x2 = y2
      · rw [decide_eq_true h2]
        go_wp2
        go_ret
        exact ⟨ret_bool (by simp [h1, h2]), by repeat' (first | with_reducible exact Ext.refl _ | with_reducible assumption | with_reducible refine Ext.set ?_ ?_ _ _ | with_reducible refine Ext.alloc ?_ _ | with_reducible refine Ext.drew ?_ | with_reducible refine Ext.drewN ?_ _ | with_reducible refine Ext.trans ?_ (by with_reducible assumption) | omega | (simp; done) | (simp; omega))⟩
      · rw [decide_eq_false h2]
        go_wp2
        go_ret
        exact ⟨ret_bool (by simp [h2]), by repeat' (first | with_reducible exact Ext.refl _ | with_reducible assumption | with_reducible refine Ext.set ?_ ?_ _ _ | with_reducible refine Ext.alloc ?_ _ | with_reducible refine Ext.drew ?_ | with_reducible refine Ext.drewN ?_ _ | with_reducible refine Ext.trans ?_ (by with_reducible assumption) | omega | (simp; done) | (simp; omega))⟩
    · rw [decide_eq_false h1]
      go_wp2
      go_ret
      exact ⟨ret_bool (by simp [h1]), by repeat' (first | with_reducible exact Ext.refl _ | with_reducible assumption | with_reducible refine Ext.set ?_ ?_ _ _ | with_reducible refine Ext.alloc ?_ _ | with_reducible refine Ext.drew ?_ | with_reducible refine Ext.drewN ?_ _ | with_reducible refine Ext.trans ?_ (by with_reducible assumption) | omega | (simp; done) | (simp; omega))⟩
  · go_enter Try.func19, Try.ntmps19
    go_wp2
    go_ret
    exact ⟨ret_bool (by simp [hb]), by repeat' (first | with_reducible exact Ext.refl _ | with_reducible assumption | with_reducible refine Ext.set ?_ ?_ _ _ | with_reducible refine Ext.alloc ?_ _ | with_reducible refine Ext.drew ?_ | with_reducible refine Ext.drewN ?_ _ | with_reducible refine Ext.trans ?_ (by with_reducible assumption) | omega | (simp; done) | (simp; omega))⟩
set_option maxRecDepth 100000 in
set_option maxHeartbeats 1000000 in
theorem markLog_v (v : Value) (l : LogD) (k0 : Int) (lo hi : Nat) (w : World) (ho : O_Log w lo hi v l) (hhi : hi ≤ w.heap.size) (h0 : 0 ≤ k0) (hn : k0 + (NK_Log l : Nat) ≤ 4611686018427387904) :
    Calls Try.prog 20 #[v, .int .i64 k0] w fun e w' => e = .returned (.int .i64 (k0 + (NK_Log l : Nat))) ∧ O_Log w' lo hi v (MK_Log k0 l) ∧ Fr lo hi w w' := by
  obtain ⟨u, s, t, rfl, hu, hs, ht⟩ := ho
  unfold NK_Log at *
  have hi' : O_Image w lo hi (.agg #[u, s]) l.image := ⟨_, _, rfl, hu, hs⟩
  obtain ⟨A0, n0, c0, hw0, -⟩ := id hu
  obtain ⟨A1, n1, c1, hw1, -⟩ := id hs
  obtain ⟨A2, n2, c2, hw2, -⟩ := id ht
  subst hw0 hw1 hw2
  clear hu hs
  go_enter Try.func20, Try.ntmps20
  go_wp2_with fail
  refine (markImage_g _ _ _ lo hi _ (by exact hi'.keep (show Kp _ _ _ _ by repeat' (first | with_reducible exact Kp.refl _ _ _ | with_reducible assumption | with_reducible refine Kp.set ?_ ?_ _ _ | with_reducible refine Kp.alloc ?_ ?_ _ | with_reducible refine Kp.drew ?_ | with_reducible refine Kp.drewN ?_ _ | with_reducible refine Kp.ext ?_ ?_ (by with_reducible assumption) | with_reducible refine Kp.fr ?_ ?_ ?_ (by with_reducible assumption) | omega | (simp; done) | (simp; omega)))) (by simp; omega) (by omega) (by omega)).mono ?_
  rintro e w1 ⟨rfl, ho1, hF1, hg1⟩
  have hF := (Fr.of_below (lo := lo) (hi := hi) ((Ext.refl w).alloc (.cells #[.int .i64 l.base, .slice A0 n0 c0, .slice A1 n1 c1, .slice A2 n2 c2] 42))).trans hF1
  have ht1 : O_EntryS w1 lo hi _ l.entries := hg1.owns (by decide) (ht.keep (w' := w.alloc (.cells #[.int .i64 l.base, .slice A0 n0 c0, .slice A1 n1 c1, .slice A2 n2 c2] 42)) (show Kp _ _ _ _ by repeat' (first | with_reducible exact Kp.refl _ _ _ | with_reducible assumption | with_reducible refine Kp.set ?_ ?_ _ _ | with_reducible refine Kp.alloc ?_ ?_ _ | with_reducible refine Kp.drew ?_ | with_reducible refine Kp.drewN ?_ _ | with_reducible refine Kp.ext ?_ ?_ (by with_reducible assumption) | with_reducible refine Kp.fr ?_ ?_ ?_ (by with_reducible assumption) | omega | (simp; done) | (simp; omega))))
  have hb1 : w1.cell? ⟨w.heap.size, 3, none⟩ = some (.slice A2 n2 c2) := by
    rw [World.cell?_of_block (a := ⟨w.heap.size, 3, none⟩) (hF1.block w.heap.size (by simp) (.inr hhi))]
    simp
  have hz1 : w.heap.size < w1.heap.size := by have := hF1.size; simp at this; omega
  clear hi'
  go_wp2_with fail
  refine (markEntryS_g _ _ _ lo hi _ ht1 (by omega) (by omega)).mono ?_
  rintro e w2 ⟨rfl, ho2, hF2, hg2⟩
  obtain ⟨u', s', hv', hu1, hs1⟩ := ho1
  injection hv' with hv'
  injection hv' with hv'
  simp only [List.cons.injEq, and_true] at hv'
  obtain ⟨e1, e2⟩ := hv'
  subst e1 e2
  have hu2 := hu1.apart ht1 (by decide) hg2
  have hs2 := hs1.apart ht1 (by decide) hg2
  have hF3 := hF.trans hF2
  clear hb1
  go_wp2
  go_ret
  exact ⟨ret_int (by omega), ⟨_, _, _, rfl, hu2, hs2, ho2⟩, hF3⟩
set_option maxRecDepth 100000 in
set_option maxHeartbeats 1000000 in
theorem heldLog_v (v : Value) (l : LogD) (k0 : Int) (B : Nat) (w : World) (h : R_Log w B v (MK_Log k0 l)) (hB : B ≤ w.heap.size) (h0 : 0 ≤ k0) (hn : k0 + (NK_Log l : Nat) ≤ 4611686018427387904) :
    Calls Try.prog 31 #[v, .int .i64 k0] w fun e w' => e = .returned (.int .i64 (k0 + (NK_Log l : Nat))) ∧ Ext w w' := by
  obtain ⟨u, s, t, rfl, hu, hs, ht⟩ := h
  unfold NK_Log at *
  have hi : R_Image w B (.agg #[u, s]) (MK_Image k0 l.image) := ⟨_, _, rfl, hu, hs⟩
  obtain ⟨A0, n0, c0, hw0, -⟩ := id hu
  obtain ⟨A1, n1, c1, hw1, -⟩ := id hs
  obtain ⟨A2, n2, c2, hw2, -⟩ := id ht
  subst hw0 hw1 hw2
  clear hu hs
  go_enter Try.func31, Try.ntmps31
  go_wp2_with fail
  refine (heldImage_v _ l.image _ B _ (by exact hi.keep (keepE' (by repeat' (first | with_reducible exact Ext.refl _ | with_reducible assumption | with_reducible refine Ext.set ?_ ?_ _ _ | with_reducible refine Ext.alloc ?_ _ | with_reducible refine Ext.drew ?_ | with_reducible refine Ext.drewN ?_ _ | with_reducible refine Ext.trans ?_ (by with_reducible assumption) | omega | (simp; done) | (simp; omega))) hB)) (by simp; omega) (by omega) (by omega)).mono ?_
  rintro e w1 ⟨rfl, hE1⟩
  obtain ⟨hc1, hf1, hz1⟩ := hE1.look
  have hz2 : w.heap.size < w1.heap.size := by simp at hz1; omega
  clear hz1
  go_wp2_with fail
  refine (heldEntryS_v _ l.entries _ B _ (by exact ht.keep (keepE' (by repeat' (first | with_reducible exact Ext.refl _ | with_reducible assumption | with_reducible refine Ext.set ?_ ?_ _ _ | with_reducible refine Ext.alloc ?_ _ | with_reducible refine Ext.drew ?_ | with_reducible refine Ext.drewN ?_ _ | with_reducible refine Ext.trans ?_ (by with_reducible assumption) | omega | (simp; done) | (simp; omega))) hB)) (by omega) (by omega) (by omega)).mono ?_
  rintro e w2 ⟨rfl, hE2⟩
  go_wp2
  go_ret
  exact ⟨ret_int (by omega), by repeat' (first | with_reducible exact Ext.refl _ | with_reducible assumption | with_reducible refine Ext.set ?_ ?_ _ _ | with_reducible refine Ext.alloc ?_ _ | with_reducible refine Ext.drew ?_ | with_reducible refine Ext.drewN ?_ _ | with_reducible refine Ext.trans ?_ (by with_reducible assumption) | omega | (simp; done) | (simp; omega))⟩

end Go.Proofs.Ytbfbdhjeoknjkaa
