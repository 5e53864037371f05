/-
  Replicas: sized, copied into the program's type, compared.
-/
import Derived.Test.YtbfbdhjeoknjkaaVote
import Derived.Deep.DeepCutAuto
import Derived.Deep.QuietTactic
import Derived.Deep.RegionHeld3
import Derived.IntWalk
namespace Go.Proofs.Ytbfbdhjeoknjkaa
open Go.RowKit

structure ReplicaD where
  me : Int
  of : Int
  mode : Int
  view : Int
  normal : Int
  commit : Int
  log : LogD
  votes : List VoteD
  cell : Int
  nonce : Int
def R_Replica (w : World) (B : Nat) (v : Value) (m : ReplicaD) : Prop := ∃ u s t q, v = .agg #[.int .i64 m.me, .int .i64 m.of, .int .i64 m.mode, .int .i64 m.view, .int .i64 m.normal, .int .i64 m.commit, .int .i64 m.log.base, u, s, t, q, .int .i64 m.cell, .int .i64 m.nonce] ∧ R_CellS w B u m.log.image.cells ∧ R_SeatS w B s m.log.image.seats ∧ R_EntryS w B t m.log.entries ∧ R_VoteS w B q m.votes
def O_Replica (w : World) (lo hi : Nat) (v : Value) (m : ReplicaD) : Prop := ∃ u s t q, v = .agg #[.int .i64 m.me, .int .i64 m.of, .int .i64 m.mode, .int .i64 m.view, .int .i64 m.normal, .int .i64 m.commit, .int .i64 m.log.base, u, s, t, q, .int .i64 m.cell, .int .i64 m.nonce] ∧ O_CellS w lo hi u m.log.image.cells ∧ O_SeatS w lo hi s m.log.image.seats ∧ O_EntryS w lo hi t m.log.entries ∧ O_VoteS w lo hi q m.votes
theorem R_Replica.keep {w w' : World} {B : Nat} {v : Value} {l : ReplicaD} (h : R_Replica w B v l) (hk : ∀ k, k < B → w'.heap[k]? = w.heap[k]?) : R_Replica w' B v l := by
  obtain ⟨u, s, t, q, rfl, h1, h2, h3, h4⟩ := h
  exact ⟨u, s, t, q, rfl, h1.keep hk, h2.keep hk, h3.keep hk, h4.keep hk⟩
theorem O_Replica.keep {w w' : World} {lo hi : Nat} {v : Value} {l : ReplicaD} (h : O_Replica w lo hi v l) (hk : ∀ k, lo ≤ k → k < hi → w'.heap[k]? = w.heap[k]?) : O_Replica w' lo hi v l := by
  obtain ⟨u, s, t, q, rfl, h1, h2, h3, h4⟩ := h
  exact ⟨u, s, t, q, rfl, h1.keep hk, h2.keep hk, h3.keep hk, h4.keep hk⟩
theorem O_Replica.rd {w : World} {lo hi : Nat} {v : Value} {l : ReplicaD} (h : O_Replica w lo hi v l) : R_Replica w hi v l := by
  obtain ⟨u, s, t, q, rfl, h1, h2, h3, h4⟩ := h
  exact ⟨u, s, t, q, rfl, h1.rd, h2.rd, h3.rd, h4.rd⟩
def szR (m : ReplicaD) : Nat := szL m.log + szV m.votes
set_option maxRecDepth 100000 in
set_option maxHeartbeats 4000000 in
theorem szReplica_ok (v : Value) (m : ReplicaD) (left : Int) (w : World) (B0 : Nat) (h : R_Replica w B0 v m) (hB : B0 ≤ w.heap.size) (h1 : (szR m : Int) ≤ left) (h2 : left ≤ 1048576) :
    Calls Try.prog 32 #[v, .int .i64 left] w fun e w' => e = .returned (.int .i64 (left - szR m)) ∧ Ext w w' := by
  unfold szR at *
  obtain ⟨u0, s0, t0, q0, rfl, h0u, h0s, h0t, h0q⟩ := h
  obtain ⟨A0, n0, c0, hv0, -⟩ := id h0u
  obtain ⟨A1, n1, c1, hv1, -⟩ := id h0s
  obtain ⟨A2, n2, c2, hv2, -⟩ := id h0t
  subst hv0 hv1 hv2
  have hl0 : R_Log w B0 (.agg #[.int .i64 m.log.base, .slice A0 n0 c0, .slice A1 n1 c1, .slice A2 n2 c2]) m.log := ⟨_, _, _, rfl, h0u, h0s, h0t⟩
  clear h0u h0s h0t
  obtain ⟨V0, r0, d0, hvq0⟩ := h0q.form
  subst hvq0
  have hW0 : Ext w (w.alloc (.cells #[.int .i64 m.me, .int .i64 m.of, .int .i64 m.mode, .int .i64 m.view, .int .i64 m.normal, .int .i64 m.commit, .int .i64 m.log.base, .slice A0 n0 c0, .slice A1 n1 c1, .slice A2 n2 c2, .slice V0 r0 d0, .int .i64 m.cell, .int .i64 m.nonce] 66)) := by repeat' (first | with_reducible exact Ext.refl _ | with_reducible assumption | with_reducible refine Ext.set ?_ ?_ _ _ | with_reducible refine Ext.alloc ?_ _ | with_reducible refine Ext.drew ?_ | with_reducible refine Ext.drewN ?_ _ | with_reducible refine Ext.trans ?_ (by with_reducible assumption) | omega | (simp; done) | (simp; omega))
  have zW0 : w.heap.size + 1 ≤ (w.alloc (.cells #[.int .i64 m.me, .int .i64 m.of, .int .i64 m.mode, .int .i64 m.view, .int .i64 m.normal, .int .i64 m.commit, .int .i64 m.log.base, .slice A0 n0 c0, .slice A1 n1 c1, .slice A2 n2 c2, .slice V0 r0 d0, .int .i64 m.cell, .int .i64 m.nonce] 66)).heap.size := by simp
  have x : Blk (w.alloc (.cells #[.int .i64 m.me, .int .i64 m.of, .int .i64 m.mode, .int .i64 m.view, .int .i64 m.normal, .int .i64 m.commit, .int .i64 m.log.base, .slice A0 n0 c0, .slice A1 n1 c1, .slice A2 n2 c2, .slice V0 r0 d0, .int .i64 m.cell, .int .i64 m.nonce] 66)) w.heap.size 66 [.int .i64 m.me, .int .i64 m.of, .int .i64 m.mode, .int .i64 m.view, .int .i64 m.normal, .int .i64 m.commit, .int .i64 m.log.base, .slice A0 n0 c0, .slice A1 n1 c1, .slice A2 n2 c2, .slice V0 r0 d0, .int .i64 m.cell, .int .i64 m.nonce] := (Blk.new w #[.int .i64 m.me, .int .i64 m.of, .int .i64 m.mode, .int .i64 m.view, .int .i64 m.normal, .int .i64 m.commit, .int .i64 m.log.base, .slice A0 n0 c0, .slice A1 n1 c1, .slice A2 n2 c2, .slice V0 r0 d0, .int .i64 m.cell, .int .i64 m.nonce] 66 (by first | rfl | simp))
  go_enter Try.func32, Try.ntmps32
  go_upto_region 1 with (fail)
  generalize (w.alloc (.cells #[.int .i64 m.me, .int .i64 m.of, .int .i64 m.mode, .int .i64 m.view, .int .i64 m.normal, .int .i64 m.commit, .int .i64 m.log.base, .slice A0 n0 c0, .slice A1 n1 c1, .slice A2 n2 c2, .slice V0 r0 d0, .int .i64 m.cell, .int .i64 m.nonce] 66)) = W0 at *
  obtain ⟨x_p6, x_f6⟩ := x.at 6 _ rfl
  obtain ⟨x_p7, x_f7⟩ := x.at 7 _ rfl
  obtain ⟨x_p8, x_f8⟩ := x.at 8 _ rfl
  obtain ⟨x_p9, x_f9⟩ := x.at 9 _ rfl
  go_wp2_with fail
  refine (szLog_ok _ m.log _ _ B0 (by exact hl0.keep (keepE' (by repeat' (first | with_reducible exact Ext.refl _ | with_reducible assumption | with_reducible refine Ext.set ?_ ?_ _ _ | with_reducible refine Ext.alloc ?_ _ | with_reducible refine Ext.drew ?_ | with_reducible refine Ext.drewN ?_ _ | with_reducible refine Ext.trans ?_ (by with_reducible assumption) | omega | (simp; done) | (simp; omega))) hB)) (by omega) (by omega) (by omega)).mono ?_
  rintro e w1 ⟨rfl, hE1⟩
  clear x_p6 x_f6 x_p7 x_f7 x_p8 x_f8 x_p9 x_f9
  replace x := x.ext hE1
  have hX1 := hW0.trans hE1
  have hz1 := hX1.size
  clear hE1 hW0
  obtain ⟨x_p10, x_f10⟩ := x.at 10 _ rfl
  go_wp2_with fail
  refine (szVoteS_ok _ m.votes _ _ B0 (by exact h0q.keep (keepE' hX1 hB)) (by omega) (by omega) (by omega)).mono ?_
  rintro e w2 ⟨rfl, hE2⟩
  have hX2 := hX1.trans hE2
  go_wp2
  go_ret
  exact ⟨ret_int (by omega), hX2⟩
set_option maxRecDepth 100000 in
set_option maxHeartbeats 4000000 in
theorem szReplica_no (v : Value) (m : ReplicaD) (left : Int) (w : World) (B0 : Nat) (h : R_Replica w B0 v m) (hB : B0 ≤ w.heap.size) (h1 : left < (szR m : Int)) (h0 : 0 ≤ left) (h2 : left ≤ 1048576) :
    Calls Try.prog 32 #[v, .int .i64 left] w fun e w' => e = .returned (.int .i64 (-1)) ∧ Ext w w' := by
  unfold szR at *
  obtain ⟨u0, s0, t0, q0, rfl, h0u, h0s, h0t, h0q⟩ := h
  obtain ⟨A0, n0, c0, hv0, -⟩ := id h0u
  obtain ⟨A1, n1, c1, hv1, -⟩ := id h0s
  obtain ⟨A2, n2, c2, hv2, -⟩ := id h0t
  subst hv0 hv1 hv2
  have hl0 : R_Log w B0 (.agg #[.int .i64 m.log.base, .slice A0 n0 c0, .slice A1 n1 c1, .slice A2 n2 c2]) m.log := ⟨_, _, _, rfl, h0u, h0s, h0t⟩
  clear h0u h0s h0t
  obtain ⟨V0, r0, d0, hvq0⟩ := h0q.form
  subst hvq0
  have hW0 : Ext w (w.alloc (.cells #[.int .i64 m.me, .int .i64 m.of, .int .i64 m.mode, .int .i64 m.view, .int .i64 m.normal, .int .i64 m.commit, .int .i64 m.log.base, .slice A0 n0 c0, .slice A1 n1 c1, .slice A2 n2 c2, .slice V0 r0 d0, .int .i64 m.cell, .int .i64 m.nonce] 66)) := by repeat' (first | with_reducible exact Ext.refl _ | with_reducible assumption | with_reducible refine Ext.set ?_ ?_ _ _ | with_reducible refine Ext.alloc ?_ _ | with_reducible refine Ext.drew ?_ | with_reducible refine Ext.drewN ?_ _ | with_reducible refine Ext.trans ?_ (by with_reducible assumption) | omega | (simp; done) | (simp; omega))
  have zW0 : w.heap.size + 1 ≤ (w.alloc (.cells #[.int .i64 m.me, .int .i64 m.of, .int .i64 m.mode, .int .i64 m.view, .int .i64 m.normal, .int .i64 m.commit, .int .i64 m.log.base, .slice A0 n0 c0, .slice A1 n1 c1, .slice A2 n2 c2, .slice V0 r0 d0, .int .i64 m.cell, .int .i64 m.nonce] 66)).heap.size := by simp
  have x : Blk (w.alloc (.cells #[.int .i64 m.me, .int .i64 m.of, .int .i64 m.mode, .int .i64 m.view, .int .i64 m.normal, .int .i64 m.commit, .int .i64 m.log.base, .slice A0 n0 c0, .slice A1 n1 c1, .slice A2 n2 c2, .slice V0 r0 d0, .int .i64 m.cell, .int .i64 m.nonce] 66)) w.heap.size 66 [.int .i64 m.me, .int .i64 m.of, .int .i64 m.mode, .int .i64 m.view, .int .i64 m.normal, .int .i64 m.commit, .int .i64 m.log.base, .slice A0 n0 c0, .slice A1 n1 c1, .slice A2 n2 c2, .slice V0 r0 d0, .int .i64 m.cell, .int .i64 m.nonce] := (Blk.new w #[.int .i64 m.me, .int .i64 m.of, .int .i64 m.mode, .int .i64 m.view, .int .i64 m.normal, .int .i64 m.commit, .int .i64 m.log.base, .slice A0 n0 c0, .slice A1 n1 c1, .slice A2 n2 c2, .slice V0 r0 d0, .int .i64 m.cell, .int .i64 m.nonce] 66 (by first | rfl | simp))
  go_enter Try.func32, Try.ntmps32
  go_upto_region 1 with (fail)
  generalize (w.alloc (.cells #[.int .i64 m.me, .int .i64 m.of, .int .i64 m.mode, .int .i64 m.view, .int .i64 m.normal, .int .i64 m.commit, .int .i64 m.log.base, .slice A0 n0 c0, .slice A1 n1 c1, .slice A2 n2 c2, .slice V0 r0 d0, .int .i64 m.cell, .int .i64 m.nonce] 66)) = W0 at *
  by_cases hL : (szL m.log : Int) ≤ left
  · skip
    obtain ⟨x_p6, x_f6⟩ := x.at 6 _ rfl
    obtain ⟨x_p7, x_f7⟩ := x.at 7 _ rfl
    obtain ⟨x_p8, x_f8⟩ := x.at 8 _ rfl
    obtain ⟨x_p9, x_f9⟩ := x.at 9 _ rfl
    go_wp2_with fail
    refine (szLog_ok _ m.log _ _ B0 (by exact hl0.keep (keepE' (by repeat' (first | with_reducible exact Ext.refl _ | with_reducible assumption | with_reducible refine Ext.set ?_ ?_ _ _ | with_reducible refine Ext.alloc ?_ _ | with_reducible refine Ext.drew ?_ | with_reducible refine Ext.drewN ?_ _ | with_reducible refine Ext.trans ?_ (by with_reducible assumption) | omega | (simp; done) | (simp; omega))) hB)) (by omega) (by omega) (by omega)).mono ?_
    rintro e w1 ⟨rfl, hE1⟩
    clear x_p6 x_f6 x_p7 x_f7 x_p8 x_f8 x_p9 x_f9
    replace x := x.ext hE1
    have hX1 := hW0.trans hE1
    have hz1 := hX1.size
    clear hE1 hW0
    obtain ⟨x_p10, x_f10⟩ := x.at 10 _ rfl
    go_wp2_with fail
    refine (szVoteS_no _ m.votes _ _ B0 (by exact h0q.keep (keepE' hX1 hB)) (by omega) (by omega) (by omega) (by omega)).mono ?_
    rintro e w2 ⟨rfl, hE2⟩
    have hX2 := hX1.trans hE2
    go_wp2
    go_ret
    exact ⟨rfl, hX2⟩
  · skip
    obtain ⟨x_p6, x_f6⟩ := x.at 6 _ rfl
    obtain ⟨x_p7, x_f7⟩ := x.at 7 _ rfl
    obtain ⟨x_p8, x_f8⟩ := x.at 8 _ rfl
    obtain ⟨x_p9, x_f9⟩ := x.at 9 _ rfl
    go_wp2_with fail
    refine (szLog_no _ m.log _ _ B0 (by exact hl0.keep (keepE' (by repeat' (first | with_reducible exact Ext.refl _ | with_reducible assumption | with_reducible refine Ext.set ?_ ?_ _ _ | with_reducible refine Ext.alloc ?_ _ | with_reducible refine Ext.drew ?_ | with_reducible refine Ext.drewN ?_ _ | with_reducible refine Ext.trans ?_ (by with_reducible assumption) | omega | (simp; done) | (simp; omega))) hB)) (by omega) (by omega) (by omega) (by omega)).mono ?_
    rintro e w1 ⟨rfl, hE1⟩
    go_wp2
    go_ret
    exact ⟨rfl, by repeat' (first | with_reducible exact Ext.refl _ | with_reducible assumption | with_reducible refine Ext.set ?_ ?_ _ _ | with_reducible refine Ext.alloc ?_ _ | with_reducible refine Ext.drew ?_ | with_reducible refine Ext.drewN ?_ _ | with_reducible refine Ext.trans ?_ (by with_reducible assumption) | omega | (simp; done) | (simp; omega))⟩
set_option maxRecDepth 100000 in
set_option maxHeartbeats 16000000 in
theorem toReplica_v (v : Value) (m : ReplicaD) (w : World) (B0 : Nat) (h : R_Replica w B0 v m) (hB : B0 ≤ w.heap.size) (hn : szR m ≤ 2097152) :
    Calls Try.prog 34 #[v] w fun e w' => ∃ v', e = .returned v' ∧ O_Replica w' w.heap.size w'.heap.size v' m ∧ Ext w w' := by
  unfold szR at hn
  obtain ⟨u0, s0, t0, q0, rfl, h0u, h0s, h0t, h0q⟩ := h
  obtain ⟨A0, n0, c0, hv0, -⟩ := id h0u
  obtain ⟨A1, n1, c1, hv1, -⟩ := id h0s
  obtain ⟨A2, n2, c2, hv2, -⟩ := id h0t
  subst hv0 hv1 hv2
  have hl0 : R_Log w B0 (.agg #[.int .i64 m.log.base, .slice A0 n0 c0, .slice A1 n1 c1, .slice A2 n2 c2]) m.log := ⟨_, _, _, rfl, h0u, h0s, h0t⟩
  clear h0u h0s h0t
  obtain ⟨A3, n3, c3, hvq0⟩ := h0q.form
  subst hvq0
  have hW0 : Ext w (((w.alloc (.cells #[.int .i64 m.me, .int .i64 m.of, .int .i64 m.mode, .int .i64 m.view, .int .i64 m.normal, .int .i64 m.commit, .int .i64 m.log.base, .slice A0 n0 c0, .slice A1 n1 c1, .slice A2 n2 c2, .slice A3 n3 c3, .int .i64 m.cell, .int .i64 m.nonce] 66)).alloc (.cells #[.int .i64 0, .int .i64 0, .int .i64 0, .int .i64 0, .int .i64 0, .int .i64 0, .int .i64 0, .slice none 0 0, .slice none 0 0, .slice none 0 0, .slice none 0 0, .int .i64 0, .int .i64 0] 71)).alloc (.cells #[.int .i64 0, .int .i64 0, .int .i64 0, .int .i64 0, .int .i64 0, .int .i64 0, .int .i64 0, .slice none 0 0, .slice none 0 0, .slice none 0 0, .slice none 0 0, .int .i64 0, .int .i64 0] 71)) := by repeat' (first | with_reducible exact Ext.refl _ | with_reducible assumption | with_reducible refine Ext.set ?_ ?_ _ _ | with_reducible refine Ext.alloc ?_ _ | with_reducible refine Ext.drew ?_ | with_reducible refine Ext.drewN ?_ _ | with_reducible refine Ext.trans ?_ (by with_reducible assumption) | omega | (simp; done) | (simp; omega))
  have zW0 : w.heap.size + 3 ≤ (((w.alloc (.cells #[.int .i64 m.me, .int .i64 m.of, .int .i64 m.mode, .int .i64 m.view, .int .i64 m.normal, .int .i64 m.commit, .int .i64 m.log.base, .slice A0 n0 c0, .slice A1 n1 c1, .slice A2 n2 c2, .slice A3 n3 c3, .int .i64 m.cell, .int .i64 m.nonce] 66)).alloc (.cells #[.int .i64 0, .int .i64 0, .int .i64 0, .int .i64 0, .int .i64 0, .int .i64 0, .int .i64 0, .slice none 0 0, .slice none 0 0, .slice none 0 0, .slice none 0 0, .int .i64 0, .int .i64 0] 71)).alloc (.cells #[.int .i64 0, .int .i64 0, .int .i64 0, .int .i64 0, .int .i64 0, .int .i64 0, .int .i64 0, .slice none 0 0, .slice none 0 0, .slice none 0 0, .slice none 0 0, .int .i64 0, .int .i64 0] 71)).heap.size := by simp
  have x : Blk (((w.alloc (.cells #[.int .i64 m.me, .int .i64 m.of, .int .i64 m.mode, .int .i64 m.view, .int .i64 m.normal, .int .i64 m.commit, .int .i64 m.log.base, .slice A0 n0 c0, .slice A1 n1 c1, .slice A2 n2 c2, .slice A3 n3 c3, .int .i64 m.cell, .int .i64 m.nonce] 66)).alloc (.cells #[.int .i64 0, .int .i64 0, .int .i64 0, .int .i64 0, .int .i64 0, .int .i64 0, .int .i64 0, .slice none 0 0, .slice none 0 0, .slice none 0 0, .slice none 0 0, .int .i64 0, .int .i64 0] 71)).alloc (.cells #[.int .i64 0, .int .i64 0, .int .i64 0, .int .i64 0, .int .i64 0, .int .i64 0, .int .i64 0, .slice none 0 0, .slice none 0 0, .slice none 0 0, .slice none 0 0, .int .i64 0, .int .i64 0] 71)) w.heap.size 66 [.int .i64 m.me, .int .i64 m.of, .int .i64 m.mode, .int .i64 m.view, .int .i64 m.normal, .int .i64 m.commit, .int .i64 m.log.base, .slice A0 n0 c0, .slice A1 n1 c1, .slice A2 n2 c2, .slice A3 n3 c3, .int .i64 m.cell, .int .i64 m.nonce] := (((Blk.new w #[.int .i64 m.me, .int .i64 m.of, .int .i64 m.mode, .int .i64 m.view, .int .i64 m.normal, .int .i64 m.commit, .int .i64 m.log.base, .slice A0 n0 c0, .slice A1 n1 c1, .slice A2 n2 c2, .slice A3 n3 c3, .int .i64 m.cell, .int .i64 m.nonce] 66 (by first | rfl | simp)).alloc (.cells #[.int .i64 0, .int .i64 0, .int .i64 0, .int .i64 0, .int .i64 0, .int .i64 0, .int .i64 0, .slice none 0 0, .slice none 0 0, .slice none 0 0, .slice none 0 0, .int .i64 0, .int .i64 0] 71)).alloc (.cells #[.int .i64 0, .int .i64 0, .int .i64 0, .int .i64 0, .int .i64 0, .int .i64 0, .int .i64 0, .slice none 0 0, .slice none 0 0, .slice none 0 0, .slice none 0 0, .int .i64 0, .int .i64 0] 71))
  have y : Blk (((w.alloc (.cells #[.int .i64 m.me, .int .i64 m.of, .int .i64 m.mode, .int .i64 m.view, .int .i64 m.normal, .int .i64 m.commit, .int .i64 m.log.base, .slice A0 n0 c0, .slice A1 n1 c1, .slice A2 n2 c2, .slice A3 n3 c3, .int .i64 m.cell, .int .i64 m.nonce] 66)).alloc (.cells #[.int .i64 0, .int .i64 0, .int .i64 0, .int .i64 0, .int .i64 0, .int .i64 0, .int .i64 0, .slice none 0 0, .slice none 0 0, .slice none 0 0, .slice none 0 0, .int .i64 0, .int .i64 0] 71)).alloc (.cells #[.int .i64 0, .int .i64 0, .int .i64 0, .int .i64 0, .int .i64 0, .int .i64 0, .int .i64 0, .slice none 0 0, .slice none 0 0, .slice none 0 0, .slice none 0 0, .int .i64 0, .int .i64 0] 71)) (w.heap.size + 1) 71 [.int .i64 0, .int .i64 0, .int .i64 0, .int .i64 0, .int .i64 0, .int .i64 0, .int .i64 0, .slice none 0 0, .slice none 0 0, .slice none 0 0, .slice none 0 0, .int .i64 0, .int .i64 0] := ((Blk.new (w.alloc (.cells #[.int .i64 m.me, .int .i64 m.of, .int .i64 m.mode, .int .i64 m.view, .int .i64 m.normal, .int .i64 m.commit, .int .i64 m.log.base, .slice A0 n0 c0, .slice A1 n1 c1, .slice A2 n2 c2, .slice A3 n3 c3, .int .i64 m.cell, .int .i64 m.nonce] 66)) #[.int .i64 0, .int .i64 0, .int .i64 0, .int .i64 0, .int .i64 0, .int .i64 0, .int .i64 0, .slice none 0 0, .slice none 0 0, .slice none 0 0, .slice none 0 0, .int .i64 0, .int .i64 0] 71 (by first | rfl | simp)).alloc (.cells #[.int .i64 0, .int .i64 0, .int .i64 0, .int .i64 0, .int .i64 0, .int .i64 0, .int .i64 0, .slice none 0 0, .slice none 0 0, .slice none 0 0, .slice none 0 0, .int .i64 0, .int .i64 0] 71))
  have f : Blk (((w.alloc (.cells #[.int .i64 m.me, .int .i64 m.of, .int .i64 m.mode, .int .i64 m.view, .int .i64 m.normal, .int .i64 m.commit, .int .i64 m.log.base, .slice A0 n0 c0, .slice A1 n1 c1, .slice A2 n2 c2, .slice A3 n3 c3, .int .i64 m.cell, .int .i64 m.nonce] 66)).alloc (.cells #[.int .i64 0, .int .i64 0, .int .i64 0, .int .i64 0, .int .i64 0, .int .i64 0, .int .i64 0, .slice none 0 0, .slice none 0 0, .slice none 0 0, .slice none 0 0, .int .i64 0, .int .i64 0] 71)).alloc (.cells #[.int .i64 0, .int .i64 0, .int .i64 0, .int .i64 0, .int .i64 0, .int .i64 0, .int .i64 0, .slice none 0 0, .slice none 0 0, .slice none 0 0, .slice none 0 0, .int .i64 0, .int .i64 0] 71)) (w.heap.size + 2) 71 [.int .i64 0, .int .i64 0, .int .i64 0, .int .i64 0, .int .i64 0, .int .i64 0, .int .i64 0, .slice none 0 0, .slice none 0 0, .slice none 0 0, .slice none 0 0, .int .i64 0, .int .i64 0] := (Blk.new ((w.alloc (.cells #[.int .i64 m.me, .int .i64 m.of, .int .i64 m.mode, .int .i64 m.view, .int .i64 m.normal, .int .i64 m.commit, .int .i64 m.log.base, .slice A0 n0 c0, .slice A1 n1 c1, .slice A2 n2 c2, .slice A3 n3 c3, .int .i64 m.cell, .int .i64 m.nonce] 66)).alloc (.cells #[.int .i64 0, .int .i64 0, .int .i64 0, .int .i64 0, .int .i64 0, .int .i64 0, .int .i64 0, .slice none 0 0, .slice none 0 0, .slice none 0 0, .slice none 0 0, .int .i64 0, .int .i64 0] 71)) #[.int .i64 0, .int .i64 0, .int .i64 0, .int .i64 0, .int .i64 0, .int .i64 0, .int .i64 0, .slice none 0 0, .slice none 0 0, .slice none 0 0, .slice none 0 0, .int .i64 0, .int .i64 0] 71 (by first | rfl | simp))
  replace f : Blk _ (w.heap.size + 1 + 1) _ _ := f
  go_enter Try.func34, Try.ntmps34
  go_upto_region 2 with (fail)
  generalize (((w.alloc (.cells #[.int .i64 m.me, .int .i64 m.of, .int .i64 m.mode, .int .i64 m.view, .int .i64 m.normal, .int .i64 m.commit, .int .i64 m.log.base, .slice A0 n0 c0, .slice A1 n1 c1, .slice A2 n2 c2, .slice A3 n3 c3, .int .i64 m.cell, .int .i64 m.nonce] 66)).alloc (.cells #[.int .i64 0, .int .i64 0, .int .i64 0, .int .i64 0, .int .i64 0, .int .i64 0, .int .i64 0, .slice none 0 0, .slice none 0 0, .slice none 0 0, .slice none 0 0, .int .i64 0, .int .i64 0] 71)).alloc (.cells #[.int .i64 0, .int .i64 0, .int .i64 0, .int .i64 0, .int .i64 0, .int .i64 0, .int .i64 0, .slice none 0 0, .slice none 0 0, .slice none 0 0, .slice none 0 0, .int .i64 0, .int .i64 0] 71)) = W0 at *
  have hX : Ext w W0 := hW0
  have hz : w.heap.size + 3 ≤ W0.heap.size := zW0
  clear hW0 zW0
  obtain ⟨xp, -⟩ := x.at 0 _ rfl
  obtain ⟨fp, ff⟩ := f.at 0 _ rfl
  go_upto_region 3 with (fail)
  clear xp fp ff
  have f1 := (f.set 0 (.int .i64 m.me))
  have hF : Fr (w.heap.size + 1 + 1) (w.heap.size + 1 + 1 + 1) W0 (W0.setCell ⟨w.heap.size + 1 + 1, 0, none⟩ (.int .i64 m.me)) := fr_one _
  have hzn : W0.heap.size ≤ (W0.setCell ⟨w.heap.size + 1 + 1, 0, none⟩ (.int .i64 m.me)).heap.size := hF.size
  replace f := (show Blk _ _ _ [.int .i64 m.me, .int .i64 0, .int .i64 0, .int .i64 0, .int .i64 0, .int .i64 0, .int .i64 0, .slice none 0 0, .slice none 0 0, .slice none 0 0, .slice none 0 0, .int .i64 0, .int .i64 0] from f1)
  replace x := x.fr hF (.inl (by omega))
  replace y := y.fr hF (.inl (by omega))
  replace hX := hX.fr hF (by omega)
  clear hF f1
  generalize (W0.setCell ⟨w.heap.size + 1 + 1, 0, none⟩ (.int .i64 m.me)) = V1 at *
  replace hz : w.heap.size + 3 ≤ V1.heap.size := by omega
  obtain ⟨xp, -⟩ := x.at 1 _ rfl
  obtain ⟨fp, ff⟩ := f.at 1 _ rfl
  go_upto_region 4 with (fail)
  clear xp fp ff
  have f1 := (f.set 1 (.int .i64 m.of))
  have hF : Fr (w.heap.size + 1 + 1) (w.heap.size + 1 + 1 + 1) V1 (V1.setCell ⟨w.heap.size + 1 + 1, 1, none⟩ (.int .i64 m.of)) := fr_one _
  have hzn : V1.heap.size ≤ (V1.setCell ⟨w.heap.size + 1 + 1, 1, none⟩ (.int .i64 m.of)).heap.size := hF.size
  replace f := (show Blk _ _ _ [.int .i64 m.me, .int .i64 m.of, .int .i64 0, .int .i64 0, .int .i64 0, .int .i64 0, .int .i64 0, .slice none 0 0, .slice none 0 0, .slice none 0 0, .slice none 0 0, .int .i64 0, .int .i64 0] from f1)
  replace x := x.fr hF (.inl (by omega))
  replace y := y.fr hF (.inl (by omega))
  replace hX := hX.fr hF (by omega)
  clear hF f1
  generalize (V1.setCell ⟨w.heap.size + 1 + 1, 1, none⟩ (.int .i64 m.of)) = V2 at *
  replace hz : w.heap.size + 3 ≤ V2.heap.size := by omega
  obtain ⟨xp, -⟩ := x.at 2 _ rfl
  obtain ⟨fp, ff⟩ := f.at 2 _ rfl
  go_upto_region 5 with (fail)
  clear xp fp ff
  have f1 := (f.set 2 (.int .i64 m.mode))
  have hF : Fr (w.heap.size + 1 + 1) (w.heap.size + 1 + 1 + 1) V2 (V2.setCell ⟨w.heap.size + 1 + 1, 2, none⟩ (.int .i64 m.mode)) := fr_one _
  have hzn : V2.heap.size ≤ (V2.setCell ⟨w.heap.size + 1 + 1, 2, none⟩ (.int .i64 m.mode)).heap.size := hF.size
  replace f := (show Blk _ _ _ [.int .i64 m.me, .int .i64 m.of, .int .i64 m.mode, .int .i64 0, .int .i64 0, .int .i64 0, .int .i64 0, .slice none 0 0, .slice none 0 0, .slice none 0 0, .slice none 0 0, .int .i64 0, .int .i64 0] from f1)
  replace x := x.fr hF (.inl (by omega))
  replace y := y.fr hF (.inl (by omega))
  replace hX := hX.fr hF (by omega)
  clear hF f1
  generalize (V2.setCell ⟨w.heap.size + 1 + 1, 2, none⟩ (.int .i64 m.mode)) = V3 at *
  replace hz : w.heap.size + 3 ≤ V3.heap.size := by omega
  obtain ⟨xp, -⟩ := x.at 3 _ rfl
  obtain ⟨fp, ff⟩ := f.at 3 _ rfl
  go_upto_region 6 with (fail)
  clear xp fp ff
  have f1 := (f.set 3 (.int .i64 m.view))
  have hF : Fr (w.heap.size + 1 + 1) (w.heap.size + 1 + 1 + 1) V3 (V3.setCell ⟨w.heap.size + 1 + 1, 3, none⟩ (.int .i64 m.view)) := fr_one _
  have hzn : V3.heap.size ≤ (V3.setCell ⟨w.heap.size + 1 + 1, 3, none⟩ (.int .i64 m.view)).heap.size := hF.size
  replace f := (show Blk _ _ _ [.int .i64 m.me, .int .i64 m.of, .int .i64 m.mode, .int .i64 m.view, .int .i64 0, .int .i64 0, .int .i64 0, .slice none 0 0, .slice none 0 0, .slice none 0 0, .slice none 0 0, .int .i64 0, .int .i64 0] from f1)
  replace x := x.fr hF (.inl (by omega))
  replace y := y.fr hF (.inl (by omega))
  replace hX := hX.fr hF (by omega)
  clear hF f1
  generalize (V3.setCell ⟨w.heap.size + 1 + 1, 3, none⟩ (.int .i64 m.view)) = V4 at *
  replace hz : w.heap.size + 3 ≤ V4.heap.size := by omega
  obtain ⟨xp, -⟩ := x.at 4 _ rfl
  obtain ⟨fp, ff⟩ := f.at 4 _ rfl
  go_upto_region 7 with (fail)
  clear xp fp ff
  have f1 := (f.set 4 (.int .i64 m.normal))
  have hF : Fr (w.heap.size + 1 + 1) (w.heap.size + 1 + 1 + 1) V4 (V4.setCell ⟨w.heap.size + 1 + 1, 4, none⟩ (.int .i64 m.normal)) := fr_one _
  have hzn : V4.heap.size ≤ (V4.setCell ⟨w.heap.size + 1 + 1, 4, none⟩ (.int .i64 m.normal)).heap.size := hF.size
  replace f := (show Blk _ _ _ [.int .i64 m.me, .int .i64 m.of, .int .i64 m.mode, .int .i64 m.view, .int .i64 m.normal, .int .i64 0, .int .i64 0, .slice none 0 0, .slice none 0 0, .slice none 0 0, .slice none 0 0, .int .i64 0, .int .i64 0] from f1)
  replace x := x.fr hF (.inl (by omega))
  replace y := y.fr hF (.inl (by omega))
  replace hX := hX.fr hF (by omega)
  clear hF f1
  generalize (V4.setCell ⟨w.heap.size + 1 + 1, 4, none⟩ (.int .i64 m.normal)) = V5 at *
  replace hz : w.heap.size + 3 ≤ V5.heap.size := by omega
  obtain ⟨xp, -⟩ := x.at 5 _ rfl
  obtain ⟨fp, ff⟩ := f.at 5 _ rfl
  go_upto_region 8 with (fail)
  clear xp fp ff
  have f1 := (f.set 5 (.int .i64 m.commit))
  have hF : Fr (w.heap.size + 1 + 1) (w.heap.size + 1 + 1 + 1) V5 (V5.setCell ⟨w.heap.size + 1 + 1, 5, none⟩ (.int .i64 m.commit)) := fr_one _
  have hzn : V5.heap.size ≤ (V5.setCell ⟨w.heap.size + 1 + 1, 5, none⟩ (.int .i64 m.commit)).heap.size := hF.size
  replace f := (show Blk _ _ _ [.int .i64 m.me, .int .i64 m.of, .int .i64 m.mode, .int .i64 m.view, .int .i64 m.normal, .int .i64 m.commit, .int .i64 0, .slice none 0 0, .slice none 0 0, .slice none 0 0, .slice none 0 0, .int .i64 0, .int .i64 0] from f1)
  replace x := x.fr hF (.inl (by omega))
  replace y := y.fr hF (.inl (by omega))
  replace hX := hX.fr hF (by omega)
  clear hF f1
  generalize (V5.setCell ⟨w.heap.size + 1 + 1, 5, none⟩ (.int .i64 m.commit)) = V6 at *
  replace hz : w.heap.size + 3 ≤ V6.heap.size := by omega
  obtain ⟨xp0, -⟩ := x.at 6 _ rfl
  obtain ⟨xp1, -⟩ := x.at 7 _ rfl
  obtain ⟨xp2, -⟩ := x.at 8 _ rfl
  obtain ⟨xp3, -⟩ := x.at 9 _ rfl
  have hzl6 := hz
  go_wp2_with fail
  clear xp0 xp1 xp2 xp3
  refine (toLog_v _ m.log _ B0 (by exact hl0.keep (keepE' hX hB)) (by omega) (by omega)).mono ?_
  rintro e wc6 ⟨v, rfl, oL, hE⟩
  obtain ⟨A5, n5, c5, B5, k5, d5, C5, m5, e5, rfl, -, -, -⟩ := oL.form
  replace x := x.ext hE
  replace y := y.ext hE
  replace f := f.ext hE
  have hzE := hE.size
  replace hX := hX.trans hE
  clear hE
  obtain ⟨fp0, ff0⟩ := f.at 6 _ rfl
  obtain ⟨fp1, ff1⟩ := f.at 7 _ rfl
  obtain ⟨fp2, ff2⟩ := f.at 8 _ rfl
  obtain ⟨fp3, ff3⟩ := f.at 9 _ rfl
  go_upto_region 9 with (fail)
  clear fp0 ff0 fp1 ff1 fp2 ff2 fp3 ff3
  have f1 := ((((f.set 6 (.int .i64 m.log.base)).set 7 (.slice A5 n5 c5)).set 8 (.slice B5 k5 d5)).set 9 (.slice C5 m5 e5))
  have hF : Fr (w.heap.size + 1 + 1) (w.heap.size + 1 + 1 + 1) wc6 ((((wc6.setCell ⟨w.heap.size + 1 + 1, 6, none⟩ (.int .i64 m.log.base)).setCell ⟨w.heap.size + 1 + 1, 7, none⟩ (.slice A5 n5 c5)).setCell ⟨w.heap.size + 1 + 1, 8, none⟩ (.slice B5 k5 d5)).setCell ⟨w.heap.size + 1 + 1, 9, none⟩ (.slice C5 m5 e5)) := (((fr_one _).trans (fr_one _)).trans (fr_one _)).trans (fr_one _)
  have hzn : wc6.heap.size ≤ ((((wc6.setCell ⟨w.heap.size + 1 + 1, 6, none⟩ (.int .i64 m.log.base)).setCell ⟨w.heap.size + 1 + 1, 7, none⟩ (.slice A5 n5 c5)).setCell ⟨w.heap.size + 1 + 1, 8, none⟩ (.slice B5 k5 d5)).setCell ⟨w.heap.size + 1 + 1, 9, none⟩ (.slice C5 m5 e5)).heap.size := hF.size
  replace f := (show Blk _ _ _ [.int .i64 m.me, .int .i64 m.of, .int .i64 m.mode, .int .i64 m.view, .int .i64 m.normal, .int .i64 m.commit, .int .i64 m.log.base, .slice A5 n5 c5, .slice B5 k5 d5, .slice C5 m5 e5, .slice none 0 0, .int .i64 0, .int .i64 0] from f1)
  replace x := x.fr hF (.inl (by omega))
  replace y := y.fr hF (.inl (by omega))
  replace hX := hX.fr hF (by omega)
  replace oL := oL.keep (keepF hF (by omega) (.inr (by omega)))
  clear hF f1
  generalize ((((wc6.setCell ⟨w.heap.size + 1 + 1, 6, none⟩ (.int .i64 m.log.base)).setCell ⟨w.heap.size + 1 + 1, 7, none⟩ (.slice A5 n5 c5)).setCell ⟨w.heap.size + 1 + 1, 8, none⟩ (.slice B5 k5 d5)).setCell ⟨w.heap.size + 1 + 1, 9, none⟩ (.slice C5 m5 e5)) = V7 at *
  replace hz : w.heap.size + 3 ≤ V7.heap.size := by omega
  obtain ⟨xp0, -⟩ := x.at 10 _ rfl
  have hzl10 := hz
  go_wp2_with fail
  clear xp0
  refine (toVoteS_v _ m.votes _ B0 (by exact h0q.keep (keepE' hX hB)) (by omega) (by omega)).mono ?_
  rintro e wc10 ⟨v, rfl, oV, hE⟩
  obtain ⟨A6, n6, c6, rfl⟩ := oV.form
  replace x := x.ext hE
  replace y := y.ext hE
  replace f := f.ext hE
  have hzE := hE.size
  replace hX := hX.trans hE
  replace oL := oL.keep (keepE hE (by omega))
  clear hE
  obtain ⟨fp0, ff0⟩ := f.at 10 _ rfl
  go_upto_region 10 with (fail)
  clear fp0 ff0
  have f1 := (f.set 10 (.slice A6 n6 c6))
  have hF : Fr (w.heap.size + 1 + 1) (w.heap.size + 1 + 1 + 1) wc10 (wc10.setCell ⟨w.heap.size + 1 + 1, 10, none⟩ (.slice A6 n6 c6)) := fr_one _
  have hzn : wc10.heap.size ≤ (wc10.setCell ⟨w.heap.size + 1 + 1, 10, none⟩ (.slice A6 n6 c6)).heap.size := hF.size
  replace f := (show Blk _ _ _ [.int .i64 m.me, .int .i64 m.of, .int .i64 m.mode, .int .i64 m.view, .int .i64 m.normal, .int .i64 m.commit, .int .i64 m.log.base, .slice A5 n5 c5, .slice B5 k5 d5, .slice C5 m5 e5, .slice A6 n6 c6, .int .i64 0, .int .i64 0] from f1)
  replace x := x.fr hF (.inl (by omega))
  replace y := y.fr hF (.inl (by omega))
  replace hX := hX.fr hF (by omega)
  replace oL := oL.keep (keepF hF (by omega) (.inr (by omega)))
  replace oV := oV.keep (keepF hF (by omega) (.inr (by omega)))
  clear hF f1
  generalize (wc10.setCell ⟨w.heap.size + 1 + 1, 10, none⟩ (.slice A6 n6 c6)) = V8 at *
  replace hz : w.heap.size + 3 ≤ V8.heap.size := by omega
  obtain ⟨xp, -⟩ := x.at 11 _ rfl
  obtain ⟨fp, ff⟩ := f.at 11 _ rfl
  go_upto_region 11 with (fail)
  clear xp fp ff
  have f1 := (f.set 11 (.int .i64 m.cell))
  have hF : Fr (w.heap.size + 1 + 1) (w.heap.size + 1 + 1 + 1) V8 (V8.setCell ⟨w.heap.size + 1 + 1, 11, none⟩ (.int .i64 m.cell)) := fr_one _
  have hzn : V8.heap.size ≤ (V8.setCell ⟨w.heap.size + 1 + 1, 11, none⟩ (.int .i64 m.cell)).heap.size := hF.size
  replace f := (show Blk _ _ _ [.int .i64 m.me, .int .i64 m.of, .int .i64 m.mode, .int .i64 m.view, .int .i64 m.normal, .int .i64 m.commit, .int .i64 m.log.base, .slice A5 n5 c5, .slice B5 k5 d5, .slice C5 m5 e5, .slice A6 n6 c6, .int .i64 m.cell, .int .i64 0] from f1)
  replace x := x.fr hF (.inl (by omega))
  replace y := y.fr hF (.inl (by omega))
  replace hX := hX.fr hF (by omega)
  replace oL := oL.keep (keepF hF (by omega) (.inr (by omega)))
  replace oV := oV.keep (keepF hF (by omega) (.inr (by omega)))
  clear hF f1
  generalize (V8.setCell ⟨w.heap.size + 1 + 1, 11, none⟩ (.int .i64 m.cell)) = V9 at *
  replace hz : w.heap.size + 3 ≤ V9.heap.size := by omega
  obtain ⟨xp, -⟩ := x.at 12 _ rfl
  obtain ⟨fp, ff⟩ := f.at 12 _ rfl
  go_upto_region 12 with (fail)
  clear xp fp ff
  have f1 := (f.set 12 (.int .i64 m.nonce))
  have hF : Fr (w.heap.size + 1 + 1) (w.heap.size + 1 + 1 + 1) V9 (V9.setCell ⟨w.heap.size + 1 + 1, 12, none⟩ (.int .i64 m.nonce)) := fr_one _
  have hzn : V9.heap.size ≤ (V9.setCell ⟨w.heap.size + 1 + 1, 12, none⟩ (.int .i64 m.nonce)).heap.size := hF.size
  replace f := (show Blk _ _ _ [.int .i64 m.me, .int .i64 m.of, .int .i64 m.mode, .int .i64 m.view, .int .i64 m.normal, .int .i64 m.commit, .int .i64 m.log.base, .slice A5 n5 c5, .slice B5 k5 d5, .slice C5 m5 e5, .slice A6 n6 c6, .int .i64 m.cell, .int .i64 m.nonce] from f1)
  replace x := x.fr hF (.inl (by omega))
  replace y := y.fr hF (.inl (by omega))
  replace hX := hX.fr hF (by omega)
  replace oL := oL.keep (keepF hF (by omega) (.inr (by omega)))
  replace oV := oV.keep (keepF hF (by omega) (.inr (by omega)))
  clear hF f1
  generalize (V9.setCell ⟨w.heap.size + 1 + 1, 12, none⟩ (.int .i64 m.nonce)) = V10 at *
  replace hz : w.heap.size + 3 ≤ V10.heap.size := by omega
  refine region_copy (e := 71) (d := _) rfl rfl rfl rfl rfl f rfl rfl y rfl Try.underlying71 rfl (by kernel_rfl) (by intro v hv; simp at hv; rcases hv with rfl | rfl | rfl | rfl | rfl | rfl | rfl | rfl | rfl | rfl | rfl | rfl | rfl <;> rfl) ?_
  have y1 := y.whole [.int .i64 m.me, .int .i64 m.of, .int .i64 m.mode, .int .i64 m.view, .int .i64 m.normal, .int .i64 m.commit, .int .i64 m.log.base, .slice A5 n5 c5, .slice B5 k5 d5, .slice C5 m5 e5, .slice A6 n6 c6, .int .i64 m.cell, .int .i64 m.nonce] rfl
  have hF := fr_cells (w.heap.size + 1) [.int .i64 m.me, .int .i64 m.of, .int .i64 m.mode, .int .i64 m.view, .int .i64 m.normal, .int .i64 m.commit, .int .i64 m.log.base, .slice A5 n5 c5, .slice B5 k5 d5, .slice C5 m5 e5, .slice A6 n6 c6, .int .i64 m.cell, .int .i64 m.nonce] 0 V10
  have hzn := hF.size
  replace hX := hX.fr hF (by omega)
  replace oL := oL.keep (keepF hF (by omega) (.inr (by omega)))
  replace oV := oV.keep (keepF hF (by omega) (.inr (by omega)))
  clear x y f hF
  generalize V10.setCells (w.heap.size + 1) 0 [.int .i64 m.me, .int .i64 m.of, .int .i64 m.mode, .int .i64 m.view, .int .i64 m.normal, .int .i64 m.commit, .int .i64 m.log.base, .slice A5 n5 c5, .slice B5 k5 d5, .slice C5 m5 e5, .slice A6 n6 c6, .int .i64 m.cell, .int .i64 m.nonce] = VZ at *
  obtain ⟨y1_p0, y1_f0⟩ := y1.at 0 _ rfl
  obtain ⟨y1_p1, y1_f1⟩ := y1.at 1 _ rfl
  obtain ⟨y1_p2, y1_f2⟩ := y1.at 2 _ rfl
  obtain ⟨y1_p3, y1_f3⟩ := y1.at 3 _ rfl
  obtain ⟨y1_p4, y1_f4⟩ := y1.at 4 _ rfl
  obtain ⟨y1_p5, y1_f5⟩ := y1.at 5 _ rfl
  obtain ⟨y1_p6, y1_f6⟩ := y1.at 6 _ rfl
  obtain ⟨y1_p7, y1_f7⟩ := y1.at 7 _ rfl
  obtain ⟨y1_p8, y1_f8⟩ := y1.at 8 _ rfl
  obtain ⟨y1_p9, y1_f9⟩ := y1.at 9 _ rfl
  obtain ⟨y1_p10, y1_f10⟩ := y1.at 10 _ rfl
  obtain ⟨y1_p11, y1_f11⟩ := y1.at 11 _ rfl
  obtain ⟨y1_p12, y1_f12⟩ := y1.at 12 _ rfl
  obtain ⟨u3, s3, t3, e3, k1, k2, k3⟩ := oL
  injection e3 with e3
  simp only [Array.mk.injEq, List.cons.injEq, and_true, true_and] at e3
  obtain ⟨e31, e32, e33⟩ := e3
  subst e31 e32 e33
  go_wp2
  exact bodyPost_ret (v := .agg #[.int .i64 m.me, .int .i64 m.of, .int .i64 m.mode, .int .i64 m.view, .int .i64 m.normal, .int .i64 m.commit, .int .i64 m.log.base, .slice A5 n5 c5, .slice B5 k5 d5, .slice C5 m5 e5, .slice A6 n6 c6, .int .i64 m.cell, .int .i64 m.nonce]) (by simp [results, Try.results34, go_sem, y1_p0, y1_p1, y1_p2, y1_p3, y1_p4, y1_p5, y1_p6, y1_p7, y1_p8, y1_p9, y1_p10, y1_p11, y1_p12]) rfl ⟨_, rfl, ⟨_, _, _, _, rfl, k1.wide (by omega) (by omega), k2.wide (by omega) (by omega), k3.wide (by omega) (by omega), oV.wide (by omega) (by omega)⟩, hX⟩
set_option maxRecDepth 100000 in
set_option maxHeartbeats 4000000 in
theorem eqReplica_same (u v : Value) (m : ReplicaD) (w : World) (B0 B3 : Nat) (hu : R_Replica w B0 u m) (hX : B0 ≤ w.heap.size) (hv : R_Replica w B3 v m) (hY : B3 ≤ w.heap.size) :
    Calls Try.prog 36 #[u, v] w fun e w' => e = .returned (.bool true) ∧ Ext w w' := by
  obtain ⟨u0, s0, t0, q0, rfl, h0u, h0s, h0t, h0q⟩ := hu
  obtain ⟨A0, n0, c0, hv0, -⟩ := id h0u
  obtain ⟨A1, n1, c1, hv1, -⟩ := id h0s
  obtain ⟨A2, n2, c2, hv2, -⟩ := id h0t
  subst hv0 hv1 hv2
  have hl0 : R_Log w B0 (.agg #[.int .i64 m.log.base, .slice A0 n0 c0, .slice A1 n1 c1, .slice A2 n2 c2]) m.log := ⟨_, _, _, rfl, h0u, h0s, h0t⟩
  clear h0u h0s h0t
  obtain ⟨V0, r0, d0, hvq0⟩ := h0q.form
  subst hvq0
  obtain ⟨u3, s3, t3, q3, rfl, h3u, h3s, h3t, h3q⟩ := hv
  obtain ⟨A3, n3, c3, hv3, -⟩ := id h3u
  obtain ⟨A4, n4, c4, hv4, -⟩ := id h3s
  obtain ⟨A5, n5, c5, hv5, -⟩ := id h3t
  subst hv3 hv4 hv5
  have hl3 : R_Log w B3 (.agg #[.int .i64 m.log.base, .slice A3 n3 c3, .slice A4 n4 c4, .slice A5 n5 c5]) m.log := ⟨_, _, _, rfl, h3u, h3s, h3t⟩
  clear h3u h3s h3t
  obtain ⟨V3, r3, d3, hvq3⟩ := h3q.form
  subst hvq3
  have hW0 : Ext w ((w.alloc (.cells #[.int .i64 m.me, .int .i64 m.of, .int .i64 m.mode, .int .i64 m.view, .int .i64 m.normal, .int .i64 m.commit, .int .i64 m.log.base, .slice A0 n0 c0, .slice A1 n1 c1, .slice A2 n2 c2, .slice V0 r0 d0, .int .i64 m.cell, .int .i64 m.nonce] 71)).alloc (.cells #[.int .i64 m.me, .int .i64 m.of, .int .i64 m.mode, .int .i64 m.view, .int .i64 m.normal, .int .i64 m.commit, .int .i64 m.log.base, .slice A3 n3 c3, .slice A4 n4 c4, .slice A5 n5 c5, .slice V3 r3 d3, .int .i64 m.cell, .int .i64 m.nonce] 71)) := by repeat' (first | with_reducible exact Ext.refl _ | with_reducible assumption | with_reducible refine Ext.set ?_ ?_ _ _ | with_reducible refine Ext.alloc ?_ _ | with_reducible refine Ext.drew ?_ | with_reducible refine Ext.drewN ?_ _ | with_reducible refine Ext.trans ?_ (by with_reducible assumption) | omega | (simp; done) | (simp; omega))
  have zW0 : w.heap.size + 2 ≤ ((w.alloc (.cells #[.int .i64 m.me, .int .i64 m.of, .int .i64 m.mode, .int .i64 m.view, .int .i64 m.normal, .int .i64 m.commit, .int .i64 m.log.base, .slice A0 n0 c0, .slice A1 n1 c1, .slice A2 n2 c2, .slice V0 r0 d0, .int .i64 m.cell, .int .i64 m.nonce] 71)).alloc (.cells #[.int .i64 m.me, .int .i64 m.of, .int .i64 m.mode, .int .i64 m.view, .int .i64 m.normal, .int .i64 m.commit, .int .i64 m.log.base, .slice A3 n3 c3, .slice A4 n4 c4, .slice A5 n5 c5, .slice V3 r3 d3, .int .i64 m.cell, .int .i64 m.nonce] 71)).heap.size := by simp
  have x : Blk ((w.alloc (.cells #[.int .i64 m.me, .int .i64 m.of, .int .i64 m.mode, .int .i64 m.view, .int .i64 m.normal, .int .i64 m.commit, .int .i64 m.log.base, .slice A0 n0 c0, .slice A1 n1 c1, .slice A2 n2 c2, .slice V0 r0 d0, .int .i64 m.cell, .int .i64 m.nonce] 71)).alloc (.cells #[.int .i64 m.me, .int .i64 m.of, .int .i64 m.mode, .int .i64 m.view, .int .i64 m.normal, .int .i64 m.commit, .int .i64 m.log.base, .slice A3 n3 c3, .slice A4 n4 c4, .slice A5 n5 c5, .slice V3 r3 d3, .int .i64 m.cell, .int .i64 m.nonce] 71)) w.heap.size 71 [.int .i64 m.me, .int .i64 m.of, .int .i64 m.mode, .int .i64 m.view, .int .i64 m.normal, .int .i64 m.commit, .int .i64 m.log.base, .slice A0 n0 c0, .slice A1 n1 c1, .slice A2 n2 c2, .slice V0 r0 d0, .int .i64 m.cell, .int .i64 m.nonce] := ((Blk.new w #[.int .i64 m.me, .int .i64 m.of, .int .i64 m.mode, .int .i64 m.view, .int .i64 m.normal, .int .i64 m.commit, .int .i64 m.log.base, .slice A0 n0 c0, .slice A1 n1 c1, .slice A2 n2 c2, .slice V0 r0 d0, .int .i64 m.cell, .int .i64 m.nonce] 71 (by first | rfl | simp)).alloc (.cells #[.int .i64 m.me, .int .i64 m.of, .int .i64 m.mode, .int .i64 m.view, .int .i64 m.normal, .int .i64 m.commit, .int .i64 m.log.base, .slice A3 n3 c3, .slice A4 n4 c4, .slice A5 n5 c5, .slice V3 r3 d3, .int .i64 m.cell, .int .i64 m.nonce] 71))
  have y : Blk ((w.alloc (.cells #[.int .i64 m.me, .int .i64 m.of, .int .i64 m.mode, .int .i64 m.view, .int .i64 m.normal, .int .i64 m.commit, .int .i64 m.log.base, .slice A0 n0 c0, .slice A1 n1 c1, .slice A2 n2 c2, .slice V0 r0 d0, .int .i64 m.cell, .int .i64 m.nonce] 71)).alloc (.cells #[.int .i64 m.me, .int .i64 m.of, .int .i64 m.mode, .int .i64 m.view, .int .i64 m.normal, .int .i64 m.commit, .int .i64 m.log.base, .slice A3 n3 c3, .slice A4 n4 c4, .slice A5 n5 c5, .slice V3 r3 d3, .int .i64 m.cell, .int .i64 m.nonce] 71)) (w.heap.size + 1) 71 [.int .i64 m.me, .int .i64 m.of, .int .i64 m.mode, .int .i64 m.view, .int .i64 m.normal, .int .i64 m.commit, .int .i64 m.log.base, .slice A3 n3 c3, .slice A4 n4 c4, .slice A5 n5 c5, .slice V3 r3 d3, .int .i64 m.cell, .int .i64 m.nonce] := (Blk.new (w.alloc (.cells #[.int .i64 m.me, .int .i64 m.of, .int .i64 m.mode, .int .i64 m.view, .int .i64 m.normal, .int .i64 m.commit, .int .i64 m.log.base, .slice A0 n0 c0, .slice A1 n1 c1, .slice A2 n2 c2, .slice V0 r0 d0, .int .i64 m.cell, .int .i64 m.nonce] 71)) #[.int .i64 m.me, .int .i64 m.of, .int .i64 m.mode, .int .i64 m.view, .int .i64 m.normal, .int .i64 m.commit, .int .i64 m.log.base, .slice A3 n3 c3, .slice A4 n4 c4, .slice A5 n5 c5, .slice V3 r3 d3, .int .i64 m.cell, .int .i64 m.nonce] 71 (by first | rfl | simp))
  go_enter Try.func36, Try.ntmps36
  go_upto_region 1 with (fail)
  generalize ((w.alloc (.cells #[.int .i64 m.me, .int .i64 m.of, .int .i64 m.mode, .int .i64 m.view, .int .i64 m.normal, .int .i64 m.commit, .int .i64 m.log.base, .slice A0 n0 c0, .slice A1 n1 c1, .slice A2 n2 c2, .slice V0 r0 d0, .int .i64 m.cell, .int .i64 m.nonce] 71)).alloc (.cells #[.int .i64 m.me, .int .i64 m.of, .int .i64 m.mode, .int .i64 m.view, .int .i64 m.normal, .int .i64 m.commit, .int .i64 m.log.base, .slice A3 n3 c3, .slice A4 n4 c4, .slice A5 n5 c5, .slice V3 r3 d3, .int .i64 m.cell, .int .i64 m.nonce] 71)) = W0 at *
  obtain ⟨x_p0, x_f0⟩ := x.at 0 _ rfl
  obtain ⟨x_p1, x_f1⟩ := x.at 1 _ rfl
  obtain ⟨x_p2, x_f2⟩ := x.at 2 _ rfl
  obtain ⟨x_p3, x_f3⟩ := x.at 3 _ rfl
  obtain ⟨x_p4, x_f4⟩ := x.at 4 _ rfl
  obtain ⟨x_p5, x_f5⟩ := x.at 5 _ rfl
  obtain ⟨x_p6, x_f6⟩ := x.at 6 _ rfl
  obtain ⟨x_p7, x_f7⟩ := x.at 7 _ rfl
  obtain ⟨x_p8, x_f8⟩ := x.at 8 _ rfl
  obtain ⟨x_p9, x_f9⟩ := x.at 9 _ rfl
  obtain ⟨y_p0, y_f0⟩ := y.at 0 _ rfl
  obtain ⟨y_p1, y_f1⟩ := y.at 1 _ rfl
  obtain ⟨y_p2, y_f2⟩ := y.at 2 _ rfl
  obtain ⟨y_p3, y_f3⟩ := y.at 3 _ rfl
  obtain ⟨y_p4, y_f4⟩ := y.at 4 _ rfl
  obtain ⟨y_p5, y_f5⟩ := y.at 5 _ rfl
  obtain ⟨y_p6, y_f6⟩ := y.at 6 _ rfl
  obtain ⟨y_p7, y_f7⟩ := y.at 7 _ rfl
  obtain ⟨y_p8, y_f8⟩ := y.at 8 _ rfl
  obtain ⟨y_p9, y_f9⟩ := y.at 9 _ rfl
  go_wp2_with fail
  refine (eqLog_v _ _ m.log m.log _ B0 B3 (by exact hl0.keep (keepE' hW0 hX)) (by omega) (by exact hl3.keep (keepE' hW0 hY)) (by omega)).mono ?_
  rw [decide_eq_true (rfl : m.log = m.log)]
  rintro e w1 ⟨rfl, hE1⟩
  clear x_p0 x_f0 x_p1 x_f1 x_p2 x_f2 x_p3 x_f3 x_p4 x_f4 x_p5 x_f5 x_p6 x_f6 x_p7 x_f7 x_p8 x_f8 x_p9 x_f9 y_p0 y_f0 y_p1 y_f1 y_p2 y_f2 y_p3 y_f3 y_p4 y_f4 y_p5 y_f5 y_p6 y_f6 y_p7 y_f7 y_p8 y_f8 y_p9 y_f9
  replace x := x.ext hE1
  replace y := y.ext hE1
  have hX1 := hW0.trans hE1
  have hz1 := hX1.size
  clear hE1 hW0
  obtain ⟨x_p10, x_f10⟩ := x.at 10 _ rfl
  obtain ⟨y_p10, y_f10⟩ := y.at 10 _ rfl
  go_wp2_with fail
  refine (eqVoteS_same _ _ m.votes _ B0 B3 (by exact h0q.keep (keepE' hX1 hX)) (by omega) (by exact h3q.keep (keepE' hX1 hY)) (by omega)).mono ?_
  rintro e w2 ⟨rfl, hE2⟩
  clear x_p10 x_f10 y_p10 y_f10
  replace x := x.ext hE2
  replace y := y.ext hE2
  have hX2 := hX1.trans hE2
  clear hE2 hX1
  obtain ⟨x_p11, x_f11⟩ := x.at 11 _ rfl
  obtain ⟨x_p12, x_f12⟩ := x.at 12 _ rfl
  obtain ⟨y_p11, y_f11⟩ := y.at 11 _ rfl
  obtain ⟨y_p12, y_f12⟩ := y.at 12 _ rfl
  go_wp2
  go_ret
  exact ⟨rfl, hX2⟩
end Go.Proofs.Ytbfbdhjeoknjkaa
