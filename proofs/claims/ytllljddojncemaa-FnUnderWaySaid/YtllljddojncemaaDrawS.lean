/-
  DrawNetSpoil: a net, a place, a bit, as the reference draws them.
-/
import Derived.Test.YtllljddojncemaaDrawT
namespace Go.Proofs.Ytllljddojncemaa
open Go.RowKit

set_option maxRecDepth 100000 in
set_option maxHeartbeats 4000000 in
theorem drawNetSpoil_s (A : Option Addr) (n c : Nat) (l : List UInt8) (w : World) (hr : Rd w w.heap.size 1 A n (l.flatMap eB)) (hl : l.length = n) (hn : n ≤ 4611686018427387904) : Calls Try.prog 35 #[.slice A n c] w fun e w' => ∃ v net i bit, e = .returned (.tuple #[v, .int .i64 i, .int .i64 bit]) ∧ O_Net w' w.heap.size w'.heap.size v net ∧ net.list.length ≤ 61 ∧ (-9223372036854775808 ≤ bit ∧ bit ≤ 9223372036854775807) ∧ Ext w w' := by
  have hW0 : Ext w (w.alloc (.cells #[.int .i64 0, .slice none 0 0] 29)) := by repeat' (first | with_reducible exact Ext.refl _ | with_reducible assumption | with_reducible refine Ext.set ?_ ?_ _ _ | with_reducible refine Ext.alloc ?_ _ | with_reducible refine Ext.drew ?_ | with_reducible refine Ext.drewN ?_ _ | with_reducible refine Ext.trans ?_ (by with_reducible assumption) | omega | (simp; done) | (simp; omega))
  have zW0 : w.heap.size + 1 ≤ (w.alloc (.cells #[.int .i64 0, .slice none 0 0] 29)).heap.size := by simp
  have y : Blk (w.alloc (.cells #[.int .i64 0, .slice none 0 0] 29)) w.heap.size 29 [.int .i64 0, .slice none 0 0] := (Blk.new w #[.int .i64 0, .slice none 0 0] 29 (by first | rfl | simp))
  go_enter Try.func35, Try.ntmps35
  go_wp2_with fail
  generalize (w.alloc (.cells #[.int .i64 0, .slice none 0 0] 29)) = W0 at *
  refine (l1New_s A n c l _ ((hW0.rd hr (Nat.le_refl _)).more hW0.size) hl hn).mono ?_
  rintro e w1 ⟨rfl, hc1, hE1⟩
  have hX1 := hW0.trans hE1
  replace y := y.ext hE1
  have hly := y.lt
  have hz1 := hE1.size
  have hgW : w.heap.size + 1 ≤ W0.heap.size := zW0
  clear hE1 hW0
  generalize hg : W0.heap.size = g at *
  clear hg
  go_wp2_with fail
  refine (l5DrawNet_s g _ hc1).mono ?_
  rintro e w2 ⟨v2, net, rfl, o2, hlen, hc2, hF2⟩
  obtain ⟨u2, rfl, k2⟩ := o2
  obtain ⟨A2, m2, c2, hv2, hl2, -⟩ := id k2
  subst hv2
  have hz2 := hF2.size
  have hgl := hc1.lt
  replace y := y.fr hF2 (.inl (by omega))
  have hX2 : Ext w w2 := hX1.fr hF2 (by omega)
  clear hF2 hc1
  have hW2 : Ext w2 (w2.alloc (.cells #[.int .i64 net.next, .slice A2 m2 c2] 29)) := by repeat' (first | with_reducible exact Ext.refl _ | with_reducible assumption | with_reducible refine Ext.set ?_ ?_ _ _ | with_reducible refine Ext.alloc ?_ _ | with_reducible refine Ext.drew ?_ | with_reducible refine Ext.drewN ?_ _ | with_reducible refine Ext.trans ?_ (by with_reducible assumption) | omega | (simp; done) | (simp; omega))
  have zW2 : w2.heap.size + 1 ≤ (w2.alloc (.cells #[.int .i64 net.next, .slice A2 m2 c2] 29)).heap.size := by simp
  have q : Blk (w2.alloc (.cells #[.int .i64 net.next, .slice A2 m2 c2] 29)) w2.heap.size 29 [.int .i64 net.next, .slice A2 m2 c2] := (Blk.new w2 #[.int .i64 net.next, .slice A2 m2 c2] 29 (by first | rfl | simp))
  go_upto_region 3 with (fail)
  replace y := y.ext hW2
  replace hc2 := hc2.ext hW2
  replace hX2 := hX2.trans hW2
  have k3 := O_FlightS.keep k2 (show Kp _ _ w2 (w2.alloc (.cells #[.int .i64 net.next, .slice A2 m2 c2] 29)) from (show Kp _ _ _ _ by repeat' (first | with_reducible exact Kp.refl _ _ _ | with_reducible assumption | with_reducible refine Kp.set ?_ ?_ _ _ | with_reducible refine Kp.alloc ?_ ?_ _ | with_reducible refine Kp.drew ?_ | with_reducible refine Kp.drewN ?_ _ | with_reducible refine Kp.ext ?_ ?_ (by with_reducible assumption) | with_reducible refine Kp.fr ?_ ?_ ?_ (by with_reducible assumption) | omega | (simp; done) | (simp; omega))))
  clear hW2 k2
  generalize (w2.alloc (.cells #[.int .i64 net.next, .slice A2 m2 c2] 29)) = W2 at *
  have hlq := q.lt
  obtain ⟨q_p0, q_f0⟩ := q.at 0 _ rfl
  obtain ⟨q_p1, q_f1⟩ := q.at 1 _ rfl
  go_wp2_with fail
  refine (l5DrawAt_s g m2 _ hc2 (by omega)).mono ?_
  rintro e w4 ⟨ii, rfl, hc4, hF4⟩
  clear q_p0 q_f0 q_p1 q_f1
  replace y := y.fr hF4 (.inl (by omega))
  replace q := q.fr hF4 (.inr (by omega))
  replace hX2 : Ext w w4 := hX2.fr hF4 (by omega)
  have hz4 := hF4.size
  replace k3 := O_FlightS.keep k3 (keepF hF4 (by omega) (.inr (by omega)))
  clear hF4 hc2
  obtain ⟨q_p0, q_f0⟩ := q.at 0 _ rfl
  obtain ⟨q_p1, q_f1⟩ := q.at 1 _ rfl
  go_upto_region 4 with (fail)
  refine wp_region_held_drew (S := (fun w' => w'.cell? ⟨w2.heap.size, 0, none⟩ = some (.int .i64 net.next) ∧ w'.cell? ⟨w2.heap.size, 1, none⟩ = some (.slice A2 m2 c2))) (by kernel_rfl) ⟨q_p0, q_p1⟩ (fun hHeld => ?_)
  refine wpAnyH_take (i := 0) (v := ?_) rfl (by kernel_rfl) (by kernel_rfl) (by kernel_rfl) (fun _ _ _ h => h) (Or.inl ⟨by rfl, ?_⟩) (by assumption) ?_
  rotate_left
  · (intro w hSw; (try dsimp only at hSw); go_simp; (try with_reducible rfl))
  try simp only [Act.put, List.getElem_toArray, List.getElem_cons_zero, List.getElem_cons_succ, List.setIfInBounds_toArray, List.set_cons_zero, List.set_cons_succ]
  refine wpAnyH_take (i := 1) (v := ?_) rfl (by kernel_rfl) (by kernel_rfl) (by kernel_rfl) (fun _ _ _ h => h) (Or.inl ⟨by rfl, ?_⟩) (by assumption) ?_
  rotate_left
  · (intro w hSw; (try dsimp only at hSw); go_simp; (try with_reducible rfl))
  try simp only [Act.put, List.getElem_toArray, List.getElem_cons_zero, List.getElem_cons_succ, List.setIfInBounds_toArray, List.set_cons_zero, List.set_cons_succ]
  refine wpAnyH_take (i := 2) (v := ?_) rfl (by kernel_rfl) (by kernel_rfl) (by kernel_rfl) (fun _ _ _ h => h) (Or.inl ⟨by rfl, ?_⟩) (by assumption) ?_
  rotate_left
  · (intro w hSw; (try dsimp only at hSw); go_simp; (try with_reducible rfl))
  try simp only [Act.put, List.getElem_toArray, List.getElem_cons_zero, List.getElem_cons_succ, List.setIfInBounds_toArray, List.set_cons_zero, List.set_cons_succ]
  refine wpAnyH_take (i := 4) (v := ?_) rfl (by kernel_rfl) (by kernel_rfl) (by kernel_rfl) (fun _ _ _ h => h) (Or.inl ⟨by rfl, ?_⟩) (by assumption) ?_
  rotate_left
  · (intro w hSw; (try dsimp only at hSw); go_simp; (try with_reducible rfl))
  try simp only [Act.put, List.getElem_toArray, List.getElem_cons_zero, List.getElem_cons_succ, List.setIfInBounds_toArray, List.set_cons_zero, List.set_cons_succ]
  refine wpAnyH_ready (rs := [3]) (by kernel_rfl) (by simp) ?_
  refine AllReadyH.cons rfl (fun K hK => ?_) AllReadyH.nil
  go_simp
  go_at_call 60
  refine (l1Below_s g _ _ (hc4.ext (Ext.refl _).drew) (by omega)).mono ?_
  rintro e w5 ⟨x5, rfl, hx5, -, hc5, hF5⟩
  have hx5' := hx5 (by omega)
  (clear q_p0 q_f0 q_p1 q_f1 hx5)
  replace y := y.drew.fr hF5 (.inl (by omega))
  replace q := q.drew.fr hF5 (.inr (by omega))
  have hz5 : w4.heap.size ≤ w5.heap.size := hF5.size
  replace hX2 : Ext w w5 := hX2.drew.fr hF5 (by omega)
  replace k3 := O_FlightS.keep (show O_FlightS w4.drew _ _ _ _ from k3) (keepF hF5 (by have hq9 : w4.drew.heap.size = w4.heap.size := rfl; omega) (.inr (by omega)))
  obtain ⟨q_p0, q_f0⟩ := q.at 0 _ rfl
  obtain ⟨q_p1, q_f1⟩ := q.at 1 _ rfl
  clear hF5 hc4
  (try dsimp only)
  refine hK.out _ _ ⟨q_p0, q_p1⟩ (fun hHeld => ?_)
  clear hK K
  try simp only [Act.put, List.getElem_toArray, List.getElem_cons_zero, List.getElem_cons_succ, List.setIfInBounds_toArray, List.set_cons_zero, List.set_cons_succ]

  refine wpAnyH_ready (rs := [5]) (by kernel_rfl) (by simp) ?_
  refine AllReadyH.cons rfl (fun K hK => ?_) AllReadyH.nil
  go_simp
  go_at_call 60
  refine (l1Below_s g _ _ hc5 (by omega)).mono ?_
  rintro e w6 ⟨x6, rfl, hx6, -, hc6, hF6⟩
  have hx6' := hx6 (by omega)
  (clear q_p0 q_f0 q_p1 q_f1 hx6)
  replace y := y.fr hF6 (.inl (by omega))
  replace q := q.fr hF6 (.inr (by omega))
  have hz6 := hF6.size
  replace hX2 : Ext w w6 := hX2.fr hF6 (by omega)
  replace k3 := O_FlightS.keep k3 (keepF hF6 (by omega) (.inr (by omega)))
  obtain ⟨q_p0, q_f0⟩ := q.at 0 _ rfl
  obtain ⟨q_p1, q_f1⟩ := q.at 1 _ rfl
  obtain ⟨y_p0, y_f0⟩ := y.at 0 _ rfl
  obtain ⟨y_p1, y_f1⟩ := y.at 1 _ rfl
  have hqd : (x6 : Int).tdiv 19 = (x6 : Int) / 19 := Int.tdiv_eq_ediv_of_nonneg (by omega)
  have hw1 : IntKind.i64.wrap ((x6 : Int) / 19) = (x6 : Int) / 19 := IntWalk.i64_in _ (by omega)
  have hw2 : IntKind.i64.wrap ((x5 : Int) - (x6 : Int) / 19) = (x5 : Int) - (x6 : Int) / 19 := IntWalk.i64_in _ (by omega)
  clear hF6 hc5
  (try dsimp only)
  refine hK.out _ _ ⟨q_p0, q_p1⟩ (fun hHeld => ?_)
  clear hK K
  try simp only [Act.put, List.getElem_toArray, List.getElem_cons_zero, List.getElem_cons_succ, List.setIfInBounds_toArray, List.set_cons_zero, List.set_cons_succ]
  refine wpAnyH_take (i := 6) (v := ?_) rfl (by kernel_rfl) (by kernel_rfl) (by kernel_rfl) (fun _ _ _ h => h) (Or.inl ⟨by rfl, ?_⟩) (by assumption) ?_
  rotate_left
  · (intro w hSw; (try dsimp only at hSw); go_simp; (try with_reducible rfl))
  try simp only [Act.put, List.getElem_toArray, List.getElem_cons_zero, List.getElem_cons_succ, List.setIfInBounds_toArray, List.set_cons_zero, List.set_cons_succ]
  refine wpAnyH_take (i := 7) (v := ?_) rfl (by kernel_rfl) (by kernel_rfl) (by kernel_rfl) (fun _ _ _ h => h) (Or.inl ⟨by rfl, ?_⟩) (by assumption) ?_
  rotate_left
  · (intro w hSw; (try dsimp only at hSw); go_simp; (try with_reducible rfl))
  try simp only [Act.put, List.getElem_toArray, List.getElem_cons_zero, List.getElem_cons_succ, List.setIfInBounds_toArray, List.set_cons_zero, List.set_cons_succ]
  refine wpAnyH_ready (rs := [8]) (by kernel_rfl) (by simp) ?_
  refine AllReadyH.cons rfl (fun K hK => ?_) AllReadyH.nil
  go_simp
  (try dsimp only)
  refine hK.out _ _ ⟨(by (try rw [cell_drew]); (repeat rw [cell_set_ne _ _ _ _ _ _ (by omega)]); exact q_p0), (by (try rw [cell_drew]); (repeat rw [cell_set_ne _ _ _ _ _ _ (by omega)]); exact q_p1)⟩ (fun hHeld => ?_)
  clear hK K
  try simp only [Act.put, List.getElem_toArray, List.getElem_cons_zero, List.getElem_cons_succ, List.setIfInBounds_toArray, List.set_cons_zero, List.set_cons_succ]
  refine wpAnyH_take (i := 9) (v := ?_) rfl (by kernel_rfl) (by kernel_rfl) (by kernel_rfl) (fun _ _ _ h => h) (Or.inl ⟨by rfl, ?_⟩) (by assumption) ?_
  rotate_left
  · (intro w hSw; (try dsimp only at hSw); go_simp; (try with_reducible rfl))
  try simp only [Act.put, List.getElem_toArray, List.getElem_cons_zero, List.getElem_cons_succ, List.setIfInBounds_toArray, List.set_cons_zero, List.set_cons_succ]
  refine wpAnyH_take (i := 10) (v := ?_) rfl (by kernel_rfl) (by kernel_rfl) (by kernel_rfl) (fun _ _ _ h => h) (Or.inl ⟨by rfl, ?_⟩) (by assumption) ?_
  rotate_left
  · (intro w hSw; (try dsimp only at hSw); go_simp; (try with_reducible rfl))
  try simp only [Act.put, List.getElem_toArray, List.getElem_cons_zero, List.getElem_cons_succ, List.setIfInBounds_toArray, List.set_cons_zero, List.set_cons_succ]
  refine wpAnyH_done (by kernel_rfl) ?_ _
  clear hHeld
  go_wp2
  exact bodyPost_ret (v := .tuple #[.agg #[.int .i64 net.next, .slice A2 m2 c2], .int .i64 ii, .int .i64 ((x5 : Int) - (x6 : Int) / 19)]) (by simp [results, Try.results35, go_sem, y_p0, y_p1]) rfl ⟨_, net, _, _, rfl, ⟨_, rfl, (O_FlightS.keep k3 (show Kp _ _ _ _ by repeat' (first | with_reducible exact Kp.refl _ _ _ | with_reducible assumption | with_reducible refine Kp.set ?_ ?_ _ _ | with_reducible refine Kp.alloc ?_ ?_ _ | with_reducible refine Kp.drew ?_ | with_reducible refine Kp.drewN ?_ _ | with_reducible refine Kp.ext ?_ ?_ (by with_reducible assumption) | with_reducible refine Kp.fr ?_ ?_ ?_ (by with_reducible assumption) | omega | (simp; done) | (simp; omega)))).wide (by omega) (by first | omega | (simp; done) | (simp; omega))⟩, hlen, by omega, by repeat' (first | with_reducible exact Ext.refl _ | with_reducible assumption | with_reducible refine Ext.set ?_ ?_ _ _ | with_reducible refine Ext.alloc ?_ _ | with_reducible refine Ext.drew ?_ | with_reducible refine Ext.drewN ?_ _ | with_reducible refine Ext.trans ?_ (by with_reducible assumption) | omega | (simp; done) | (simp; omega))⟩

end Go.Proofs.Ytllljddojncemaa
