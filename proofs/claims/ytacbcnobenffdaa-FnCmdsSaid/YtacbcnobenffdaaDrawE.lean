/-
  An image and a command, an image and an entry, as the reference draws them.
-/
import Derived.Test.YtacbcnobenffdaaDrawM
import Derived.Test.YtacbcnobenffdaaRunAllB
import Derived.Test.YtacbcnobenffdaaBT
namespace Go.Proofs.Ytacbcnobenffdaa
open Go.RowKit


theorem O_Image.dodge1 {w : World} {lo hi k : Nat} {e : TypeId} {v : Value} {m : ImageD} (h : O_Image w lo hi v m) (hk : BT w k e) (h1 : 48 ≠ e) (h2 : 56 ≠ e) (j : Nat) (u : Value) : O_Image (w.setCell ⟨k, j, none⟩ u) lo hi v m := by
  obtain ⟨a, b, rfl, g1, g2⟩ := h
  exact ⟨_, _, rfl, OwnS.dodge g1 hk h1 j u, OwnS.dodge g2 hk h2 j u⟩
theorem O_Image.drew {w : World} {lo hi : Nat} {v : Value} {m : ImageD} (h : O_Image w lo hi v m) : O_Image w.drew lo hi v m := h
theorem O_Image.dodge2 {w : World} {lo hi k : Nat} {v : Value} {m : ImageD} (h : O_Image w lo hi v m) (hk : BT w k 32) (a b : Value) : O_Image ((w.setCell ⟨k, 0, none⟩ a).setCell ⟨k, 1, none⟩ b) lo hi v m :=
  (h.dodge1 hk (by decide) (by decide) 0 a).dodge1 (hk.set _ 0 _) (by decide) (by decide) 1 b
theorem O_Image.dodge3 {w : World} {lo hi k : Nat} {v : Value} {m : ImageD} (h : O_Image w lo hi v m) (hk : BT w k 36) (a b c : Value) : O_Image (((w.setCell ⟨k, 0, none⟩ a).setCell ⟨k, 1, none⟩ b).setCell ⟨k, 2, none⟩ c) lo hi v m :=
  ((h.dodge1 hk (by decide) (by decide) 0 a).dodge1 (hk.set _ 0 _) (by decide) (by decide) 1 b).dodge1 ((hk.set _ 0 _).set _ 1 _) (by decide) (by decide) 2 c
theorem O_Image.dodge5 {w : World} {lo hi k : Nat} {v : Value} {m : ImageD} (h : O_Image w lo hi v m) (hk : BT w k 50) (a b c d f : Value) : O_Image (((((w.setCell ⟨k, 0, none⟩ a).setCell ⟨k, 1, none⟩ b).setCell ⟨k, 2, none⟩ c).setCell ⟨k, 3, none⟩ d).setCell ⟨k, 4, none⟩ f) lo hi v m :=
  ((((h.dodge1 hk (by decide) (by decide) 0 a).dodge1 (hk.set _ 0 _) (by decide) (by decide) 1 b).dodge1 ((hk.set _ 0 _).set _ 1 _) (by decide) (by decide) 2 c).dodge1 (((hk.set _ 0 _).set _ 1 _).set _ 2 _) (by decide) (by decide) 3 d).dodge1 ((((hk.set _ 0 _).set _ 1 _).set _ 2 _).set _ 3 _) (by decide) (by decide) 4 f

set_option maxRecDepth 100000 in
set_option maxHeartbeats 4000000 in
theorem drawRunCmd_s (A : Option Addr) (n c : Nat) (l : List UInt8) (w : World) (hr : Rd w w.heap.size 1 A n (l.flatMap eB)) (hl : l.length = n) (hn : n ≤ 4611686018427387904) : Calls Try.prog 16 #[.slice A n c] w fun e w' => ∃ v m, ∃ k x y : Int, Near x ∧ e = .returned (.tuple #[v, .agg #[.int .i64 k, .int .i64 x, .int .i64 y]]) ∧ O_Image w' w.heap.size w'.heap.size v m ∧ szI m ≤ 111 ∧ Ext w w' := by
  have hW0 : Ext w ((w.alloc (.cells #[.slice none 0 0, .slice none 0 0] 32)).alloc (.cells #[.int .i64 0, .int .i64 0, .int .i64 0] 36)) := by repeat' (first | with_reducible exact Ext.refl _ | with_reducible assumption | with_reducible refine Ext.set ?_ ?_ _ _ | with_reducible refine Ext.alloc ?_ _ | with_reducible refine Ext.drew ?_ | with_reducible refine Ext.drewN ?_ _ | with_reducible refine Ext.trans ?_ (by with_reducible assumption) | omega | (simp; done) | (simp; omega))
  have zW0 : w.heap.size + 2 ≤ ((w.alloc (.cells #[.slice none 0 0, .slice none 0 0] 32)).alloc (.cells #[.int .i64 0, .int .i64 0, .int .i64 0] 36)).heap.size := by simp
  have r : Blk ((w.alloc (.cells #[.slice none 0 0, .slice none 0 0] 32)).alloc (.cells #[.int .i64 0, .int .i64 0, .int .i64 0] 36)) w.heap.size 32 [.slice none 0 0, .slice none 0 0] := ((Blk.new w #[.slice none 0 0, .slice none 0 0] 32 (by first | rfl | simp)).alloc (.cells #[.int .i64 0, .int .i64 0, .int .i64 0] 36))
  have s : Blk ((w.alloc (.cells #[.slice none 0 0, .slice none 0 0] 32)).alloc (.cells #[.int .i64 0, .int .i64 0, .int .i64 0] 36)) (w.heap.size + 1) 36 [.int .i64 0, .int .i64 0, .int .i64 0] := (Blk.new (w.alloc (.cells #[.slice none 0 0, .slice none 0 0] 32)) #[.int .i64 0, .int .i64 0, .int .i64 0] 36 (by first | rfl | simp))
  go_enter Try.func16, Try.ntmps16
  go_wp2_with fail
  generalize ((w.alloc (.cells #[.slice none 0 0, .slice none 0 0] 32)).alloc (.cells #[.int .i64 0, .int .i64 0, .int .i64 0] 36)) = W0 at *
  refine (l1New_s A n c l _ ((hW0.rd hr (Nat.le_refl _)).more hW0.size) hl hn).mono ?_
  rintro e w1 ⟨rfl, hc1, hE1⟩
  have hX1 := hW0.trans hE1
  replace r := r.ext hE1
  replace s := s.ext hE1
  have hlr := r.lt
  have hz1 := hE1.size
  have hgW : w.heap.size + 2 ≤ W0.heap.size := zW0
  clear hE1 hW0
  generalize hg : W0.heap.size = g at *
  clear hg
  go_wp2_with fail
  refine (l1Size_s A n c 20 _ hn (by omega)).mono ?_
  rintro e w1_ ⟨x, hx, rfl, rfl⟩
  go_wp2_with fail
  refine (l2DrawImage_s g x _ hc1 (by omega) (by omega)).mono ?_
  rintro e w2 ⟨v2, M, rfl, o2, hsz, -, hc2, hF2⟩
  obtain ⟨u2, s2, rfl, oC, oS⟩ := o2
  obtain ⟨A2, n2, c2, hv2, -⟩ := id oC
  obtain ⟨B2, m2, d2, hv3, -⟩ := id oS
  subst hv2 hv3
  have hz2 := hF2.size
  have hgl := hc1.lt
  replace r := r.fr hF2 (.inl (by omega))
  replace s := s.fr hF2 (.inl (by omega))
  have hX2 : Ext w w2 := hX1.fr hF2 (by omega)
  clear hF2 hc1
  have hW2 : Ext w2 (w2.alloc (.cells #[.slice A2 n2 c2, .slice B2 m2 d2] 32)) := by repeat' (first | with_reducible exact Ext.refl _ | with_reducible assumption | with_reducible refine Ext.set ?_ ?_ _ _ | with_reducible refine Ext.alloc ?_ _ | with_reducible refine Ext.drew ?_ | with_reducible refine Ext.drewN ?_ _ | with_reducible refine Ext.trans ?_ (by with_reducible assumption) | omega | (simp; done) | (simp; omega))
  have zW2 : w2.heap.size + 1 ≤ (w2.alloc (.cells #[.slice A2 n2 c2, .slice B2 m2 d2] 32)).heap.size := by simp
  have q : Blk (w2.alloc (.cells #[.slice A2 n2 c2, .slice B2 m2 d2] 32)) w2.heap.size 32 [.slice A2 n2 c2, .slice B2 m2 d2] := (Blk.new w2 #[.slice A2 n2 c2, .slice B2 m2 d2] 32 (by first | rfl | simp))
  go_upto_region 3 with (fail)
  replace r := r.ext hW2
  replace s := s.ext hW2
  replace hc2 := hc2.ext hW2
  replace hX2 := hX2.trans hW2
  replace oC := (hW2.owns oC (Nat.le_refl _)).wide (Nat.le_refl _) hW2.size
  replace oS := (hW2.owns oS (Nat.le_refl _)).wide (Nat.le_refl _) hW2.size
  clear hW2
  generalize (w2.alloc (.cells #[.slice A2 n2 c2, .slice B2 m2 d2] 32)) = W2 at *
  have hlq := q.lt
  have hlr2 := r.lt
  obtain ⟨q_p0, q_f0⟩ := q.at 0 _ rfl
  obtain ⟨q_p1, q_f1⟩ := q.at 1 _ rfl
  obtain ⟨r_p0, r_f0⟩ := r.at 0 _ rfl
  obtain ⟨r_p1, r_f1⟩ := r.at 1 _ rfl
  obtain ⟨s_p0, s_f0⟩ := s.at 0 _ rfl
  obtain ⟨s_p1, s_f1⟩ := s.at 1 _ rfl
  obtain ⟨s_p2, s_f2⟩ := s.at 2 _ rfl
  refine wp_region_held_drew (S := (fun w' => w'.cell? ⟨w2.heap.size, 0, none⟩ = some (.slice A2 n2 c2) ∧ w'.cell? ⟨w2.heap.size, 1, none⟩ = some (.slice B2 m2 d2))) (by kernel_rfl) ⟨q_p0, q_p1⟩ (fun hHeld => ?_)
  refine wpAnyH_take (i := 0) (v := ?_) rfl (by kernel_rfl) (by kernel_rfl) (by kernel_rfl) (fun _ _ _ h => h) (Or.inl ⟨by rfl, ?_⟩) (by assumption) ?_
  rotate_left
  · (intro w hSw; (try dsimp only at hSw); go_simp; (try with_reducible rfl))
  try simp only [Act.put, List.getElem_toArray, List.getElem_cons_zero, List.getElem_cons_succ, List.setIfInBounds_toArray, List.set_cons_zero, List.set_cons_succ]
  refine wpAnyH_take (i := 1) (v := ?_) rfl (by kernel_rfl) (by kernel_rfl) (by kernel_rfl) (fun _ _ _ h => h) (Or.inl ⟨by rfl, ?_⟩) (by assumption) ?_
  rotate_left
  · (intro w hSw; (try dsimp only at hSw); go_simp; (try with_reducible rfl))
  try simp only [Act.put, List.getElem_toArray, List.getElem_cons_zero, List.getElem_cons_succ, List.setIfInBounds_toArray, List.set_cons_zero, List.set_cons_succ]
  refine wpAnyH_ready (rs := [2]) (by kernel_rfl) (by simp) ?_
  refine AllReadyH.cons rfl (fun K hK => ?_) AllReadyH.nil
  go_simp
  go_at_call 46
  refine (l2DrawAny_s g _ (hc2.ext (Ext.refl _).drew)).mono ?_
  rintro e w5 ⟨kd, ky, vl, hnk, rfl, hc5, hF5⟩
  (clear q_p0 q_f0 q_p1 q_f1 r_p0 r_f0 r_p1 r_f1 s_p0 s_f0 s_p1 s_f1 s_p2 s_f2)
  have hz5 : W2.heap.size ≤ w5.heap.size := hF5.size
  replace r := r.drew.fr hF5 (.inl (by omega))
  replace s := s.drew.fr hF5 (.inl (by omega))
  replace q := q.drew.fr hF5 (.inr (by omega))
  replace oC := (hF5.owns (show O_CellS W2.drew _ _ _ _ from oC) (.inr (by omega))).wide (Nat.le_refl _) hz5
  replace oS := (hF5.owns (show O_SeatS W2.drew _ _ _ _ from oS) (.inr (by omega))).wide (Nat.le_refl _) hz5
  replace hX2 : Ext w w5 := hX2.drew.fr hF5 (by omega)
  obtain ⟨q_p0, q_f0⟩ := q.at 0 _ rfl
  obtain ⟨q_p1, q_f1⟩ := q.at 1 _ rfl
  obtain ⟨r_p0, r_f0⟩ := r.at 0 _ rfl
  obtain ⟨r_p1, r_f1⟩ := r.at 1 _ rfl
  obtain ⟨s_p0, s_f0⟩ := s.at 0 _ rfl
  obtain ⟨s_p1, s_f1⟩ := s.at 1 _ rfl
  obtain ⟨s_p2, s_f2⟩ := s.at 2 _ rfl
  clear hF5 hc2
  (try dsimp only)
  refine hK.out _ _ ⟨q_p0, q_p1⟩ (fun hHeld => ?_)
  clear hK K
  try simp only [Act.put, List.getElem_toArray, List.getElem_cons_zero, List.getElem_cons_succ, List.setIfInBounds_toArray, List.set_cons_zero, List.set_cons_succ]
  have hlr5 := r.lt
  have hls5 := s.lt
  refine wpAnyH_ready (rs := [3]) (by kernel_rfl) (by simp) ?_
  refine AllReadyH.cons rfl (fun K hK => ?_) AllReadyH.nil
  go_simp
  (try dsimp only)
  refine hK.out _ _ ⟨(by (try rw [cell_drew]); (repeat rw [cell_set_ne _ _ _ _ _ _ (by omega)]); exact q_p0), (by (try rw [cell_drew]); (repeat rw [cell_set_ne _ _ _ _ _ _ (by omega)]); exact q_p1)⟩ (fun hHeld => ?_)
  clear hK K
  try simp only [Act.put, List.getElem_toArray, List.getElem_cons_zero, List.getElem_cons_succ, List.setIfInBounds_toArray, List.set_cons_zero, List.set_cons_succ]
  refine wpAnyH_ready (rs := [4]) (by kernel_rfl) (by simp) ?_
  refine AllReadyH.cons rfl (fun K hK => ?_) AllReadyH.nil
  go_simp
  (try dsimp only)
  refine hK.out _ _ ⟨(by (try rw [cell_drew]); (repeat rw [cell_set_ne _ _ _ _ _ _ (by omega)]); exact q_p0), (by (try rw [cell_drew]); (repeat rw [cell_set_ne _ _ _ _ _ _ (by omega)]); exact q_p1)⟩ (fun hHeld => ?_)
  clear hK K
  try simp only [Act.put, List.getElem_toArray, List.getElem_cons_zero, List.getElem_cons_succ, List.setIfInBounds_toArray, List.set_cons_zero, List.set_cons_succ]
  refine wpAnyH_done (by kernel_rfl) ?_ _
  clear hHeld
  go_wp2
  have hbr := r.bt
  have hbs := s.bt
  have oI : O_Image _ _ _ _ M := ⟨_, _, rfl, oC, oS⟩
  exact bodyPost_ret (v := .tuple #[.agg #[.slice A2 n2 c2, .slice B2 m2 d2], .agg #[.int .i64 kd, .int .i64 ky, .int .i64 vl]]) (by simp [results, Try.results16, go_sem, r_p0, r_p1, s_p0, s_p1, s_p2]) rfl ⟨_, M, kd, ky, vl, hnk, rfl, (O_Image.dodge3 (O_Image.dodge2 oI hbr _ _) ((hbs.set _ 0 _).set _ 1 _) _ _ _).wide (by omega) (by first | (simp; done) | (simp; omega)), hsz, by repeat' (first | with_reducible exact Ext.refl _ | with_reducible assumption | with_reducible refine Ext.set ?_ ?_ _ _ | with_reducible refine Ext.alloc ?_ _ | with_reducible refine Ext.drew ?_ | with_reducible refine Ext.drewN ?_ _ | with_reducible refine Ext.trans ?_ (by with_reducible assumption) | omega | (simp; done) | (simp; omega))⟩

end Go.Proofs.Ytacbcnobenffdaa
