/-
  An image and an entry as the reference draws them.
-/
import Derived.Test.YtacbcnobenffdaaDrawE
namespace Go.Proofs.Ytacbcnobenffdaa
open Go.RowKit

set_option maxRecDepth 100000 in
set_option maxHeartbeats 16000000 in
theorem drawRunEntry_s (A : Option Addr) (n c : Nat) (l : List UInt8) (w : World) (hr : Rd w w.heap.size 1 A n (l.flatMap eB)) (hl : l.length = n) (hn : n ≤ 4611686018427387904) : Calls Try.prog 22 #[.slice A n c] w fun e w' => ∃ v m, ∃ (p : Nat) (q k x y : Int), p ≤ 3 ∧ Near x ∧ (∀ s ∈ m.seats, s.req ≤ 100) ∧ e = .returned (.tuple #[v, .agg #[.int .i64 (p : Int), .int .i64 q, .int .i64 k, .int .i64 x, .int .i64 y]]) ∧ O_Image w' w.heap.size w'.heap.size v m ∧ szI m ≤ 111 ∧ Ext w w' := by
  have hW0 : Ext w ((w.alloc (.cells #[.slice none 0 0, .slice none 0 0] 32)).alloc (.cells #[.int .i64 0, .int .i64 0, .int .i64 0, .int .i64 0, .int .i64 0] 50)) := by repeat' (first | with_reducible exact Ext.refl _ | with_reducible assumption | with_reducible refine Ext.set ?_ ?_ _ _ | with_reducible refine Ext.alloc ?_ _ | with_reducible refine Ext.drew ?_ | with_reducible refine Ext.drewN ?_ _ | with_reducible refine Ext.trans ?_ (by with_reducible assumption) | omega | (simp; done) | (simp; omega))
  have zW0 : w.heap.size + 2 ≤ ((w.alloc (.cells #[.slice none 0 0, .slice none 0 0] 32)).alloc (.cells #[.int .i64 0, .int .i64 0, .int .i64 0, .int .i64 0, .int .i64 0] 50)).heap.size := by simp
  have r : Blk ((w.alloc (.cells #[.slice none 0 0, .slice none 0 0] 32)).alloc (.cells #[.int .i64 0, .int .i64 0, .int .i64 0, .int .i64 0, .int .i64 0] 50)) w.heap.size 32 [.slice none 0 0, .slice none 0 0] := ((Blk.new w #[.slice none 0 0, .slice none 0 0] 32 (by first | rfl | simp)).alloc (.cells #[.int .i64 0, .int .i64 0, .int .i64 0, .int .i64 0, .int .i64 0] 50))
  have s : Blk ((w.alloc (.cells #[.slice none 0 0, .slice none 0 0] 32)).alloc (.cells #[.int .i64 0, .int .i64 0, .int .i64 0, .int .i64 0, .int .i64 0] 50)) (w.heap.size + 1) 50 [.int .i64 0, .int .i64 0, .int .i64 0, .int .i64 0, .int .i64 0] := (Blk.new (w.alloc (.cells #[.slice none 0 0, .slice none 0 0] 32)) #[.int .i64 0, .int .i64 0, .int .i64 0, .int .i64 0, .int .i64 0] 50 (by first | rfl | simp))
  go_enter Try.func22, Try.ntmps22
  go_wp2_with fail
  generalize ((w.alloc (.cells #[.slice none 0 0, .slice none 0 0] 32)).alloc (.cells #[.int .i64 0, .int .i64 0, .int .i64 0, .int .i64 0, .int .i64 0] 50)) = W0 at *
  refine (l1New_s A n c l _ ((hW0.rd hr (Nat.le_refl _)).more hW0.size) hl hn).mono ?_
  rintro e w1 ⟨rfl, hc1, hE1⟩
  have hX1 := hW0.trans hE1
  replace r := r.ext hE1
  replace s := s.ext hE1
  have hlr := r.lt
  have hz1 := hE1.size
  have hgW : w.heap.size + 2 ≤ W0.heap.size := zW0
  clear hE1 hW0
  generalize hg : W0.heap.size = g at *
  clear hg
  go_wp2_with fail
  refine (l1Size_s A n c 20 _ hn (by omega)).mono ?_
  rintro e w1_ ⟨x, hx, rfl, rfl⟩
  go_wp2_with fail
  refine (l2DrawImage_s g x _ hc1 (by omega) (by omega)).mono ?_
  rintro e w2 ⟨v2, M, rfl, o2, hsz, hQ2, hc2, hF2⟩
  have HQ := Lib.hid hQ2
  clear hQ2
  obtain ⟨u2, s2, rfl, oC, oS⟩ := o2
  obtain ⟨A2, n2, c2, hv2, -⟩ := id oC
  obtain ⟨B2, m2, d2, hv3, -⟩ := id oS
  subst hv2 hv3
  have hz2 := hF2.size
  have hgl := hc1.lt
  replace r := r.fr hF2 (.inl (by omega))
  replace s := s.fr hF2 (.inl (by omega))
  have hX2 : Ext w w2 := hX1.fr hF2 (by omega)
  clear hF2 hc1
  have hW2 : Ext w2 (w2.alloc (.cells #[.slice A2 n2 c2, .slice B2 m2 d2] 32)) := by repeat' (first | with_reducible exact Ext.refl _ | with_reducible assumption | with_reducible refine Ext.set ?_ ?_ _ _ | with_reducible refine Ext.alloc ?_ _ | with_reducible refine Ext.drew ?_ | with_reducible refine Ext.drewN ?_ _ | with_reducible refine Ext.trans ?_ (by with_reducible assumption) | omega | (simp; done) | (simp; omega))
  have zW2 : w2.heap.size + 1 ≤ (w2.alloc (.cells #[.slice A2 n2 c2, .slice B2 m2 d2] 32)).heap.size := by simp
  have q : Blk (w2.alloc (.cells #[.slice A2 n2 c2, .slice B2 m2 d2] 32)) w2.heap.size 32 [.slice A2 n2 c2, .slice B2 m2 d2] := (Blk.new w2 #[.slice A2 n2 c2, .slice B2 m2 d2] 32 (by first | rfl | simp))
  go_upto_region 3 with (fail)
  replace r := r.ext hW2
  replace s := s.ext hW2
  replace hc2 := hc2.ext hW2
  replace hX2 := hX2.trans hW2
  replace oC := (hW2.owns oC (Nat.le_refl _)).wide (Nat.le_refl _) hW2.size
  replace oS := (hW2.owns oS (Nat.le_refl _)).wide (Nat.le_refl _) hW2.size
  clear hW2
  generalize (w2.alloc (.cells #[.slice A2 n2 c2, .slice B2 m2 d2] 32)) = W2 at *
  have hlq := q.lt
  have hlr2 := r.lt
  go_wp2_with fail
  refine (l2DrawEntry_s g _ hc2).mono ?_
  rintro e w3 ⟨p, qq, kd, ky, vl, hp, -, hnx, rfl, hc3, hF3⟩
  have hz3 := hF3.size
  replace r := r.fr hF3 (.inl (by omega))
  replace s := s.fr hF3 (.inl (by omega))
  replace q := q.fr hF3 (.inr (by omega))
  replace oC := (hF3.owns oC (.inr (by omega))).wide (Nat.le_refl _) hz3
  replace oS := (hF3.owns oS (.inr (by omega))).wide (Nat.le_refl _) hz3
  replace hX2 : Ext w w3 := hX2.fr hF3 (by omega)
  clear hF3 hc2
  have hW3 : Ext w3 (w3.alloc (.cells #[.int .i64 (p : Int), .int .i64 qq, .int .i64 kd, .int .i64 ky, .int .i64 vl] 50)) := by repeat' (first | with_reducible exact Ext.refl _ | with_reducible assumption | with_reducible refine Ext.set ?_ ?_ _ _ | with_reducible refine Ext.alloc ?_ _ | with_reducible refine Ext.drew ?_ | with_reducible refine Ext.drewN ?_ _ | with_reducible refine Ext.trans ?_ (by with_reducible assumption) | omega | (simp; done) | (simp; omega))
  have zW3 : w3.heap.size + 1 ≤ (w3.alloc (.cells #[.int .i64 (p : Int), .int .i64 qq, .int .i64 kd, .int .i64 ky, .int .i64 vl] 50)).heap.size := by simp
  have t : Blk (w3.alloc (.cells #[.int .i64 (p : Int), .int .i64 qq, .int .i64 kd, .int .i64 ky, .int .i64 vl] 50)) w3.heap.size 50 [.int .i64 (p : Int), .int .i64 qq, .int .i64 kd, .int .i64 ky, .int .i64 vl] := (Blk.new w3 #[.int .i64 (p : Int), .int .i64 qq, .int .i64 kd, .int .i64 ky, .int .i64 vl] 50 (by first | rfl | simp))
  go_upto_region 4 with (fail)
  replace r := r.ext hW3
  replace s := s.ext hW3
  replace q := q.ext hW3
  replace hc3 := hc3.ext hW3
  replace hX2 := hX2.trans hW3
  replace oC := (hW3.owns oC (Nat.le_refl _)).wide (Nat.le_refl _) hW3.size
  replace oS := (hW3.owns oS (Nat.le_refl _)).wide (Nat.le_refl _) hW3.size
  clear hW3
  generalize (w3.alloc (.cells #[.int .i64 (p : Int), .int .i64 qq, .int .i64 kd, .int .i64 ky, .int .i64 vl] 50)) = W3 at *
  go_wp2_with fail
  refine (l1Once_s g _ _ hc3 (by omega)).mono ?_
  rintro e w4 ⟨bb, rfl, hc4, hF4⟩
  have hz4 := hF4.size
  replace r := r.fr hF4 (.inl (by omega))
  replace s := s.fr hF4 (.inl (by omega))
  replace q := q.fr hF4 (.inr (by omega))
  replace oC := (hF4.owns oC (.inr (by omega))).wide (Nat.le_refl _) hz4
  replace oS := (hF4.owns oS (.inr (by omega))).wide (Nat.le_refl _) hz4
  replace hX2 : Ext w w4 := hX2.fr hF4 (by omega)
  replace t := t.fr hF4 (.inr (by omega))
  clear hF4 hc3
  have oI : O_Image w4 _ _ (.agg #[.slice A2 n2 c2, .slice B2 m2 d2]) M := ⟨_, _, rfl, oC, oS⟩
  clear oC oS
  go_upto_if 16 with (fail)
  go_cut [] (fun wx => ∃ kd ky vl : Int, Near ky ∧ Ext w wx ∧ w3.heap.size < wx.heap.size ∧ O_Image wx (w.heap.size) wx.heap.size (.agg #[.slice A2 n2 c2, .slice B2 m2 d2]) M ∧ Blk wx w.heap.size 32 [.slice none 0 0, .slice none 0 0] ∧ Blk wx (w.heap.size + 1) 50 [.int .i64 0, .int .i64 0, .int .i64 0, .int .i64 0, .int .i64 0] ∧ Blk wx w2.heap.size 32 [.slice A2 n2 c2, .slice B2 m2 d2] ∧ Blk wx w3.heap.size 50 [.int .i64 (p : Int), .int .i64 qq, .int .i64 kd, .int .i64 ky, .int .i64 vl])
  case first =>
    cases bb with
    | false =>
      go_wp2_with fail
      go_meet
      exact ⟨kd, ky, vl, hnx, hX2, t.lt, oI.wide (by omega) (Nat.le_refl _), r, s, q, t⟩
    | true =>
      go_wp2_with fail
      refine (l2DrawAny_s g _ hc4).mono ?_
      rintro e w5 ⟨kd2, ky2, vl2, hny, rfl, hc5, hF5⟩
      have hz5 := hF5.size
      replace r := r.fr hF5 (.inl (by omega))
      replace s := s.fr hF5 (.inl (by omega))
      replace q := q.fr hF5 (.inr (by omega))
      replace oI := (oI.keep (keepF hF5 (Nat.le_refl _) (.inr (by omega)))).wide (Nat.le_refl _) hz5
      replace hX2 : Ext w w5 := hX2.fr hF5 (by omega)
      replace t := t.fr hF5 (.inr (by omega))
      clear hF5 hc4 hnx hc5
      have hlr5 := r.lt
      have hls5 := s.lt
      have hlq5 := q.lt
      have hlt5 := t.lt
      obtain ⟨t_p0, t_f0⟩ := t.at 0 _ rfl
      obtain ⟨t_p1, t_f1⟩ := t.at 1 _ rfl
      obtain ⟨t_p2, t_f2⟩ := t.at 2 _ rfl
      obtain ⟨t_p3, t_f3⟩ := t.at 3 _ rfl
      obtain ⟨t_p4, t_f4⟩ := t.at 4 _ rfl
      go_wp2_with fail
      clear t_p0 t_f0 t_p1 t_f1 t_p2 t_f2 t_p3 t_f3 t_p4 t_f4
      have hbt5 := t.bt
      have t' := ((t.set 2 (.int .i64 kd2)).set 3 (.int .i64 ky2)).set 4 (.int .i64 vl2)
      go_meet
      exact ⟨kd2, ky2, vl2, hny, by repeat' (first | with_reducible exact Ext.refl _ | with_reducible assumption | with_reducible refine Ext.set ?_ ?_ _ _ | with_reducible refine Ext.alloc ?_ _ | with_reducible refine Ext.drew ?_ | with_reducible refine Ext.drewN ?_ _ | with_reducible refine Ext.trans ?_ (by with_reducible assumption) | omega | (simp; done) | (simp; omega)), by simp; omega, (((oI.dodge1 hbt5 (by decide) (by decide) 2 _).dodge1 (hbt5.set _ 2 _) (by decide) (by decide) 3 _).dodge1 ((hbt5.set _ 2 _).set _ 3 _) (by decide) (by decide) 4 _).wide (by omega) (by simp), ((r.far (h := w3.heap.size) (by omega) 2 _).far (h := w3.heap.size) (by omega) 3 _).far (h := w3.heap.size) (by omega) 4 _, ((s.far (h := w3.heap.size) (by omega) 2 _).far (h := w3.heap.size) (by omega) 3 _).far (h := w3.heap.size) (by omega) 4 _, ((q.far (h := w3.heap.size) (by omega) 2 _).far (h := w3.heap.size) (by omega) 3 _).far (h := w3.heap.size) (by omega) 4 _, t'⟩
  clear r s q t oI hX2 hnx
  obtain ⟨kd, ky, vl, hnx, hX2, hlt3, oI, r, s, q, t⟩ := hcut
  rename World => w6
  clear hc4
  obtain ⟨q_p0, q_f0⟩ := q.at 0 _ rfl
  obtain ⟨q_p1, q_f1⟩ := q.at 1 _ rfl
  obtain ⟨r_p0, r_f0⟩ := r.at 0 _ rfl
  obtain ⟨r_p1, r_f1⟩ := r.at 1 _ rfl
  obtain ⟨s_p0, s_f0⟩ := s.at 0 _ rfl
  obtain ⟨s_p1, s_f1⟩ := s.at 1 _ rfl
  obtain ⟨s_p2, s_f2⟩ := s.at 2 _ rfl
  obtain ⟨s_p3, s_f3⟩ := s.at 3 _ rfl
  obtain ⟨s_p4, s_f4⟩ := s.at 4 _ rfl
  obtain ⟨t_p0, t_f0⟩ := t.at 0 _ rfl
  obtain ⟨t_p1, t_f1⟩ := t.at 1 _ rfl
  obtain ⟨t_p2, t_f2⟩ := t.at 2 _ rfl
  obtain ⟨t_p3, t_f3⟩ := t.at 3 _ rfl
  obtain ⟨t_p4, t_f4⟩ := t.at 4 _ rfl
  go_upto_region 6 with (fail)
  refine wp_region_held_drew (S := (fun w' => w'.cell? ⟨w2.heap.size, 0, none⟩ = some (.slice A2 n2 c2) ∧ w'.cell? ⟨w2.heap.size, 1, none⟩ = some (.slice B2 m2 d2) ∧ w'.cell? ⟨w3.heap.size, 0, none⟩ = some (.int .i64 (p : Int)) ∧ w'.cell? ⟨w3.heap.size, 1, none⟩ = some (.int .i64 qq) ∧ w'.cell? ⟨w3.heap.size, 2, none⟩ = some (.int .i64 kd) ∧ w'.cell? ⟨w3.heap.size, 3, none⟩ = some (.int .i64 ky) ∧ w'.cell? ⟨w3.heap.size, 4, none⟩ = some (.int .i64 vl))) (by kernel_rfl) ⟨q_p0, q_p1, t_p0, t_p1, t_p2, t_p3, t_p4⟩ (fun hHeld => ?_)
  refine wpAnyH_take (i := 0) (v := ?_) rfl (by kernel_rfl) (by kernel_rfl) (by kernel_rfl) (fun _ _ _ h => h) (Or.inl ⟨by rfl, ?_⟩) (by assumption) ?_
  rotate_left
  · (intro w hSw; (try dsimp only at hSw); go_simp; (try with_reducible rfl))
  try simp only [Act.put, List.getElem_toArray, List.getElem_cons_zero, List.getElem_cons_succ, List.setIfInBounds_toArray, List.set_cons_zero, List.set_cons_succ]
  refine wpAnyH_take (i := 1) (v := ?_) rfl (by kernel_rfl) (by kernel_rfl) (by kernel_rfl) (fun _ _ _ h => h) (Or.inl ⟨by rfl, ?_⟩) (by assumption) ?_
  rotate_left
  · (intro w hSw; (try dsimp only at hSw); go_simp; (try with_reducible rfl))
  try simp only [Act.put, List.getElem_toArray, List.getElem_cons_zero, List.getElem_cons_succ, List.setIfInBounds_toArray, List.set_cons_zero, List.set_cons_succ]
  refine wpAnyH_ready (rs := [2]) (by kernel_rfl) (by simp) ?_
  refine AllReadyH.cons rfl (fun K hK => ?_) AllReadyH.nil
  go_simp
  (try dsimp only)
  refine hK.out _ _ ⟨(by (try rw [cell_drew]); (repeat rw [cell_set_ne _ _ _ _ _ _ (by omega)]); exact q_p0), (by (try rw [cell_drew]); (repeat rw [cell_set_ne _ _ _ _ _ _ (by omega)]); exact q_p1), (by (try rw [cell_drew]); (repeat rw [cell_set_ne _ _ _ _ _ _ (by omega)]); exact t_p0), (by (try rw [cell_drew]); (repeat rw [cell_set_ne _ _ _ _ _ _ (by omega)]); exact t_p1), (by (try rw [cell_drew]); (repeat rw [cell_set_ne _ _ _ _ _ _ (by omega)]); exact t_p2), (by (try rw [cell_drew]); (repeat rw [cell_set_ne _ _ _ _ _ _ (by omega)]); exact t_p3), (by (try rw [cell_drew]); (repeat rw [cell_set_ne _ _ _ _ _ _ (by omega)]); exact t_p4)⟩ (fun hHeld => ?_)
  clear hK K
  try simp only [Act.put, List.getElem_toArray, List.getElem_cons_zero, List.getElem_cons_succ, List.setIfInBounds_toArray, List.set_cons_zero, List.set_cons_succ]
  refine wpAnyH_ready (rs := [3]) (by kernel_rfl) (by simp) ?_
  refine AllReadyH.cons rfl (fun K hK => ?_) AllReadyH.nil
  go_simp
  (try dsimp only)
  refine hK.out _ _ ⟨(by (try rw [cell_drew]); (repeat rw [cell_set_ne _ _ _ _ _ _ (by omega)]); exact q_p0), (by (try rw [cell_drew]); (repeat rw [cell_set_ne _ _ _ _ _ _ (by omega)]); exact q_p1), (by (try rw [cell_drew]); (repeat rw [cell_set_ne _ _ _ _ _ _ (by omega)]); exact t_p0), (by (try rw [cell_drew]); (repeat rw [cell_set_ne _ _ _ _ _ _ (by omega)]); exact t_p1), (by (try rw [cell_drew]); (repeat rw [cell_set_ne _ _ _ _ _ _ (by omega)]); exact t_p2), (by (try rw [cell_drew]); (repeat rw [cell_set_ne _ _ _ _ _ _ (by omega)]); exact t_p3), (by (try rw [cell_drew]); (repeat rw [cell_set_ne _ _ _ _ _ _ (by omega)]); exact t_p4)⟩ (fun hHeld => ?_)
  clear hK K
  try simp only [Act.put, List.getElem_toArray, List.getElem_cons_zero, List.getElem_cons_succ, List.setIfInBounds_toArray, List.set_cons_zero, List.set_cons_succ]
  refine wpAnyH_done (by kernel_rfl) ?_ _
  clear hHeld
  go_wp2
  have hbr := r.bt
  have hbs := s.bt
  exact bodyPost_ret (v := .tuple #[.agg #[.slice A2 n2 c2, .slice B2 m2 d2], .agg #[.int .i64 (p : Int), .int .i64 qq, .int .i64 kd, .int .i64 ky, .int .i64 vl]]) (by simp [results, Try.results22, go_sem, r_p0, r_p1, s_p0, s_p1, s_p2, s_p3, s_p4]) rfl ⟨_, M, p, _, _, _, _, hp, hnx, HQ.out, rfl, (O_Image.drew (O_Image.dodge5 (O_Image.dodge2 oI hbr _ _) ((hbs.set _ 0 _).set _ 1 _) _ _ _ _ _)).wide (by omega) (by first | (simp; done) | (simp; omega)), hsz, by repeat' (first | with_reducible exact Ext.refl _ | with_reducible assumption | with_reducible refine Ext.set ?_ ?_ _ _ | with_reducible refine Ext.alloc ?_ _ | with_reducible refine Ext.drew ?_ | with_reducible refine Ext.drewN ?_ _ | with_reducible refine Ext.trans ?_ (by with_reducible assumption) | omega | (simp; done) | (simp; omega))⟩

end Go.Proofs.Ytacbcnobenffdaa
