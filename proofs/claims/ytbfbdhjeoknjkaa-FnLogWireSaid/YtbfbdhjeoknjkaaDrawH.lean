/-
  One log as the reference draws them, right or not.
-/
import Derived.Test.YtbfbdhjeoknjkaaDrawG
namespace Go.Proofs.Ytbfbdhjeoknjkaa
open Go.RowKit

set_option maxRecDepth 100000 in
set_option maxHeartbeats 8000000 in
theorem l3DrawLog_s (g : Nat) (most : Int) (w : World) (hc : Cur w g) (h0 : 0 ≤ most) (h1 : most ≤ 60) : Calls Try.prog 56 #[.pointer (some ⟨g, 0, none⟩), .int .i64 most] w fun e w' => ∃ v l, e = .returned v ∧ O_Log w' w.heap.size w'.heap.size v l ∧ SmallL l ∧ Cur w' g ∧ Fr g (g + 1) w w' := by
  have hg := hc.lt
  have hW0 : Ext w (w.alloc (.cells #[.int .i64 0, .slice none 0 0, .slice none 0 0, .slice none 0 0] 42)) := by repeat' (first | with_reducible exact Ext.refl _ | with_reducible assumption | with_reducible refine Ext.set ?_ ?_ _ _ | with_reducible refine Ext.alloc ?_ _ | with_reducible refine Ext.drew ?_ | with_reducible refine Ext.drewN ?_ _ | with_reducible refine Ext.trans ?_ (by with_reducible assumption) | omega | (simp; done) | (simp; omega))
  have zW0 : w.heap.size + 1 ≤ (w.alloc (.cells #[.int .i64 0, .slice none 0 0, .slice none 0 0, .slice none 0 0] 42)).heap.size := by simp
  have r : Blk (w.alloc (.cells #[.int .i64 0, .slice none 0 0, .slice none 0 0, .slice none 0 0] 42)) w.heap.size 42 [.int .i64 0, .slice none 0 0, .slice none 0 0, .slice none 0 0] := (Blk.new w #[.int .i64 0, .slice none 0 0, .slice none 0 0, .slice none 0 0] 42 (by first | rfl | simp))
  go_enter Try.func56, Try.ntmps56
  go_wp2_with fail
  generalize (w.alloc (.cells #[.int .i64 0, .slice none 0 0, .slice none 0 0, .slice none 0 0] 42)) = W0 at *
  refine (l3DrawRight_s g most _ (hc.ext hW0) h0 h1).mono ?_
  rintro e w1 ⟨ve, F, rfl, o1, hsm, hent, hc1, hF1⟩
  have hlr := r.lt
  have hz1' := hF1.size
  replace r := r.fr hF1 (.inr (by omega))
  have hFr := (Fr.ext (lo := g) (hi := g + 1) hW0).trans hF1
  obtain ⟨A1, n1, c1, B1, k1, d1, C1, m1, e1, rfl, hn1, hk1, hm1⟩ := o1.form
  have hm60 : m1 ≤ 60 := by omega
  have hsz1 : szI F.image ≤ 111 := hsm.img
  have Hm1 := Lib.hid hm1
  have Hsm := Lib.hid hsm
  clear hF1 hW0 hc hn1 hk1 hm1 hent hsm
  have hW1 : Ext w1 (w1.alloc (.cells #[.int .i64 F.base, .slice A1 n1 c1, .slice B1 k1 d1, .slice C1 m1 e1] 42)) := by repeat' (first | with_reducible exact Ext.refl _ | with_reducible assumption | with_reducible refine Ext.set ?_ ?_ _ _ | with_reducible refine Ext.alloc ?_ _ | with_reducible refine Ext.drew ?_ | with_reducible refine Ext.drewN ?_ _ | with_reducible refine Ext.trans ?_ (by with_reducible assumption) | omega | (simp; done) | (simp; omega))
  have zW1 : w1.heap.size + 1 ≤ (w1.alloc (.cells #[.int .i64 F.base, .slice A1 n1 c1, .slice B1 k1 d1, .slice C1 m1 e1] 42)).heap.size := by simp
  have q : Blk (w1.alloc (.cells #[.int .i64 F.base, .slice A1 n1 c1, .slice B1 k1 d1, .slice C1 m1 e1] 42)) w1.heap.size 42 [.int .i64 F.base, .slice A1 n1 c1, .slice B1 k1 d1, .slice C1 m1 e1] := (Blk.new w1 #[.int .i64 F.base, .slice A1 n1 c1, .slice B1 k1 d1, .slice C1 m1 e1] 42 (by first | rfl | simp))
  go_upto_region 2 with (fail)
  replace r := r.ext hW1
  replace hc1 := hc1.ext hW1
  replace hFr := hFr.thenExt hW1
  replace o1 := (o1.keep (keepE hW1 (Nat.le_refl _)))
  have hzW1 := hW1.size
  clear hW1
  generalize (w1.alloc (.cells #[.int .i64 F.base, .slice A1 n1 c1, .slice B1 k1 d1, .slice C1 m1 e1] 42)) = W1 at *
  go_wp2_with fail
  refine (l1Below_s g _ _ hc1 (by omega)).mono ?_
  rintro e w2 ⟨xx, rfl, -, -, hc2, hF2⟩
  have hlq := q.lt
  have hlr2 := r.lt
  have hz2 := hF2.size
  replace r := r.fr hF2 (.inr (by omega))
  replace q := q.fr hF2 (.inr (by omega))
  replace hFr := hFr.trans hF2
  replace o1 := o1.keep (keepF hF2 (by omega) (.inr (by omega)))
  clear hF2 hc1
  by_cases hx0 : xx = 0
  · subst hx0
    obtain ⟨q_p0, q_f0⟩ := q.at 0 _ rfl
    obtain ⟨q_p1, q_f1⟩ := q.at 1 _ rfl
    obtain ⟨q_p2, q_f2⟩ := q.at 2 _ rfl
    obtain ⟨q_p3, q_f3⟩ := q.at 3 _ rfl
    have hww : IntKind.i64.wrap (1000000000 - (m1 : Int)) = 1000000000 - (m1 : Int) := IntWalk.i64_in _ (by omega)
    go_wp2_with fail
    refine (l1PickInt_s g w2.heap.size [-1, 1000000000, 1000000001, 1000000000 - (m1 : Int)] _ (hc2.alloc (.cells #[.int .i64 (-1), .int .i64 1000000000, .int .i64 1000000001, .int .i64 (1000000000 - (m1 : Int))] 3)) (by omega) (by simp) (by simp) (by exact pick_cells _ [-1, 1000000000, 1000000001, 1000000000 - (m1 : Int)] _)).mono ?_
    rintro e w3 ⟨x, hx, rfl, hc3, hF3⟩
    have hxr : -1 ≤ x ∧ x ≤ 1000000001 := by simp at hx; omega
    clear hx
    clear q_p0 q_f0 q_p1 q_f1 q_p2 q_f2 q_p3 q_f3
    replace r := r.alloc (.cells #[.int .i64 (-1), .int .i64 1000000000, .int .i64 1000000001, .int .i64 (1000000000 - (m1 : Int))] 3)
    replace q := q.alloc (.cells #[.int .i64 (-1), .int .i64 1000000000, .int .i64 1000000001, .int .i64 (1000000000 - (m1 : Int))] 3)
    have hEA := (Ext.refl w2).alloc (.cells #[.int .i64 (-1), .int .i64 1000000000, .int .i64 1000000001, .int .i64 (1000000000 - (m1 : Int))] 3)
    have hzA := hEA.size
    replace o1 := (o1.keep (keepE hEA (by omega))).keep (keepF hF3 (by omega) (.inr (by omega)))
    have hz3 := hF3.size
    replace hFr := (hFr.thenExt hEA).trans hF3
    replace r := r.fr hF3 (.inr (by omega))
    replace q := q.fr hF3 (.inr (by omega))
    clear hF3 hc2 hEA
    obtain ⟨q_p0, q_f0⟩ := q.at 0 _ rfl
    obtain ⟨q_p1, q_f1⟩ := q.at 1 _ rfl
    obtain ⟨q_p2, q_f2⟩ := q.at 2 _ rfl
    obtain ⟨q_p3, q_f3⟩ := q.at 3 _ rfl
    obtain ⟨r_p0, r_f0⟩ := r.at 0 _ rfl
    obtain ⟨r_p1, r_f1⟩ := r.at 1 _ rfl
    obtain ⟨r_p2, r_f2⟩ := r.at 2 _ rfl
    obtain ⟨r_p3, r_f3⟩ := r.at 3 _ rfl
    have hlq3 := q.lt
    have hlr3 := r.lt
    go_wp2
    exact bodyPost_ret (v := .agg #[.int .i64 x, .slice A1 n1 c1, .slice B1 k1 d1, .slice C1 m1 e1]) (by simp [results, Try.results56, go_sem, r_p0, r_p1, r_p2, r_p3]) rfl ⟨_, ⟨x, F.image, F.entries⟩, rfl, O_Log.wide (O_Log.keep (show O_Log _ _ _ _ ⟨x, F.image, F.entries⟩ from o1.rebase) (show Kp _ _ _ _ by repeat' (first | with_reducible exact Kp.refl _ _ _ | with_reducible assumption | with_reducible refine Kp.set ?_ ?_ _ _ | with_reducible refine Kp.alloc ?_ ?_ _ | with_reducible refine Kp.drew ?_ | with_reducible refine Kp.drewN ?_ _ | with_reducible refine Kp.ext ?_ ?_ (by with_reducible assumption) | with_reducible refine Kp.fr ?_ ?_ ?_ (by with_reducible assumption) | omega | (simp; done) | (simp; omega)))) (by omega) (by first | (simp; done) | (simp; omega)), ⟨hsz1, by have := Hm1.out; dsimp only; omega, hxr⟩, by repeat' (first | with_reducible assumption | with_reducible refine Cur.set ?_ ?_ _ _ | with_reducible refine Cur.alloc ?_ _ | with_reducible refine Cur.drew ?_ | omega | (simp; done) | (simp; omega)), by repeat' (first | with_reducible assumption | with_reducible refine Fr.thenSet ?_ ?_ | with_reducible refine Fr.thenAlloc ?_ _ | with_reducible refine Fr.thenDrew ?_ | omega | (simp; done) | (simp; omega))⟩
  · have hx0' : ((xx : Int) == 0) = false := by simp; omega
    by_cases hx1 : xx = 1
    · subst hx1
      obtain ⟨q_p0, q_f0⟩ := q.at 0 _ rfl
      obtain ⟨q_p1, q_f1⟩ := q.at 1 _ rfl
      obtain ⟨q_p2, q_f2⟩ := q.at 2 _ rfl
      obtain ⟨q_p3, q_f3⟩ := q.at 3 _ rfl
      go_wp2_with fail
      refine (l2DrawImage_s g 5 _ hc2 (by omega) (by omega)).mono ?_
      rintro e w3 ⟨v3, M, rfl, o3, hszM, -, hc3, hF3⟩
      obtain ⟨A3, n3, c3, B3, k3, d3, rfl, -, -⟩ := o3.form
      clear q_p0 q_f0 q_p1 q_f1 q_p2 q_f2 q_p3 q_f3
      have hz3 := hF3.size
      replace o1 := o1.keep (keepF hF3 (by omega) (.inr (by omega)))
      replace hFr := hFr.trans hF3
      replace r := r.fr hF3 (.inr (by omega))
      replace q := q.fr hF3 (.inr (by omega))
      clear hF3 hc2
      have hlq3 := q.lt
      have hlr3 := r.lt
      obtain ⟨q_p0, q_f0⟩ := q.at 0 _ rfl
      obtain ⟨q_p1, q_f1⟩ := q.at 1 _ rfl
      obtain ⟨q_p2, q_f2⟩ := q.at 2 _ rfl
      obtain ⟨q_p3, q_f3⟩ := q.at 3 _ rfl
      obtain ⟨r_p0, r_f0⟩ := r.at 0 _ rfl
      obtain ⟨r_p1, r_f1⟩ := r.at 1 _ rfl
      obtain ⟨r_p2, r_f2⟩ := r.at 2 _ rfl
      obtain ⟨r_p3, r_f3⟩ := r.at 3 _ rfl
      go_wp2
      have o4 := O_Log.reimage (o1.wide (lo' := w.heap.size) (hi' := w3.heap.size) (by omega) (by omega)) (o3.wide (lo' := w.heap.size) (hi' := w3.heap.size) (by omega) (by omega))
      exact bodyPost_ret (v := .agg #[.int .i64 F.base, .slice A3 n3 c3, .slice B3 k3 d3, .slice C1 m1 e1]) (by simp [results, Try.results56, go_sem, r_p0, r_p1, r_p2, r_p3]) rfl ⟨_, ⟨F.base, M, F.entries⟩, rfl, O_Log.wide (O_Log.dodge4 (O_Log.dodge2 o4 q.bt 1 2 _ _) ((r.bt.set _ 1 _).set _ 2 _) _ _ _ _) (by omega) (by first | (simp; done) | (simp; omega)), ⟨hszM, by have := Hm1.out; dsimp only; omega, Hsm.out.base⟩, by repeat' (first | with_reducible assumption | with_reducible refine Cur.set ?_ ?_ _ _ | with_reducible refine Cur.alloc ?_ _ | with_reducible refine Cur.drew ?_ | omega | (simp; done) | (simp; omega)), by repeat' (first | with_reducible assumption | with_reducible refine Fr.thenSet ?_ ?_ | with_reducible refine Fr.thenAlloc ?_ _ | with_reducible refine Fr.thenDrew ?_ | omega | (simp; done) | (simp; omega))⟩
    · have hx1' : ((xx : Int) == 1) = false := by simp; omega
      by_cases hx2 : xx = 2
      · subst hx2
        obtain ⟨i0, hi0, hz0, hz1, hz2⟩ := info_parts info_Entry
        have hm1 : m1 + 1 ≤ maxLen := by unfold maxLen; omega
        have hm3 : (m1 + 1) * 40 ≤ 140737488355328 := by omega
        have hp5 : 0 < 5 := by omega
        obtain ⟨uu, ss, tt, ee, oC, oS, oE⟩ := id o1
        injection ee with ee
        simp only [Array.mk.injEq, List.cons.injEq, and_true, true_and] at ee
        obtain ⟨ee1, ee2, ee3⟩ := ee
        subst ee1 ee2 ee3
        clear o1
        obtain ⟨_, _, _, ev, -, ow⟩ := id oE
        injection ev with ev1 ev2 ev3
        subst ev1 ev2 ev3
        obtain ⟨q_p0, q_f0⟩ := q.at 0 _ rfl
        obtain ⟨q_p1, q_f1⟩ := q.at 1 _ rfl
        obtain ⟨q_p2, q_f2⟩ := q.at 2 _ rfl
        obtain ⟨q_p3, q_f3⟩ := q.at 3 _ rfl
        go_upto_region 8 with (fail)
        refine region_anyX (x := 8) (S := (fun w' => w'.cell? ⟨w1.heap.size, 3, none⟩ = some (.slice C1 m1 e1))) (by kernel_rfl) q_p3 (fun hHeld => ?_)
        refine anyX_take (i := 0) (v := ?_) rfl (by kernel_rfl) (by kernel_rfl) (by kernel_rfl) (by kernel_rfl) (fun _ _ _ h => h) (Or.inl ⟨by rfl, ?_⟩) (by assumption) ?_
        rotate_left
        · (intro w hSw; (try dsimp only at hSw); go_simp; (try with_reducible rfl))
        try simp only [Act.put, List.getElem_toArray, List.getElem_cons_zero, List.getElem_cons_succ, List.setIfInBounds_toArray, List.set_cons_zero, List.set_cons_succ]
        refine anyX_take (i := 1) (v := ?_) rfl (by kernel_rfl) (by kernel_rfl) (by kernel_rfl) (by kernel_rfl) (fun _ _ _ h => h) (Or.inl ⟨by rfl, ?_⟩) (by assumption) ?_
        rotate_left
        · (intro w hSw; (try dsimp only at hSw); go_simp; (try with_reducible rfl))
        try simp only [Act.put, List.getElem_toArray, List.getElem_cons_zero, List.getElem_cons_succ, List.setIfInBounds_toArray, List.set_cons_zero, List.set_cons_succ]
        refine anyX_take (i := 2) (v := ?_) rfl (by kernel_rfl) (by kernel_rfl) (by kernel_rfl) (by kernel_rfl) (fun _ _ _ h => h) (Or.inl ⟨by rfl, ?_⟩) (by assumption) ?_
        rotate_left
        · (intro w hSw; (try dsimp only at hSw); go_simp; (try with_reducible rfl))
        try simp only [Act.put, List.getElem_toArray, List.getElem_cons_zero, List.getElem_cons_succ, List.setIfInBounds_toArray, List.set_cons_zero, List.set_cons_succ]
        refine anyX_one (i := 3) (by kernel_rfl) rfl (fun K hK => ?_)
        go_simp
        go_at_call 105
        refine (l1Below_s g _ _ hc2.drew (by omega)).mono ?_
        rintro e w3 ⟨y, rfl, -, -, hc3, hF⟩
        have hF3 : Fr g (g + 1) w2 w3 := (Fr.ext (Ext.refl _).drew).trans hF
        have hz3 := hF3.size
        (clear q_p0 q_f0 q_p1 q_f1 q_p2 q_f2 q_p3 q_f3 oE)
        replace r := r.fr hF3 (.inr (by omega))
        replace q := q.fr hF3 (.inr (by omega))
        replace ow := ow.fr hF3 (.inr (by omega))
        replace oC := hF3.owns oC (.inr (by omega))
        replace oS := hF3.owns oS (.inr (by omega))
        replace hFr := hFr.trans hF3
        obtain ⟨q_p0, q_f0⟩ := q.at 0 _ rfl
        obtain ⟨q_p1, q_f1⟩ := q.at 1 _ rfl
        obtain ⟨q_p2, q_f2⟩ := q.at 2 _ rfl
        obtain ⟨q_p3, q_f3⟩ := q.at 3 _ rfl
        clear hF hF3 hc2
        (try dsimp only)
        refine hK.out _ _ q_p3 (fun hHeld => ?_)
        clear hK K
        try simp only [Act.put, List.getElem_toArray, List.getElem_cons_zero, List.getElem_cons_succ, List.setIfInBounds_toArray, List.set_cons_zero, List.set_cons_succ]
        refine anyX_take (i := 4) (v := ?_) rfl (by kernel_rfl) (by kernel_rfl) (by kernel_rfl) (by kernel_rfl) (fun _ _ _ h => h) (Or.inl ⟨by rfl, ?_⟩) (by assumption) ?_
        rotate_left
        · (intro w hSw; (try dsimp only at hSw); go_simp; (try with_reducible rfl))
        try simp only [Act.put, List.getElem_toArray, List.getElem_cons_zero, List.getElem_cons_succ, List.setIfInBounds_toArray, List.set_cons_zero, List.set_cons_succ]
        refine anyX_one (i := 5) (by kernel_rfl) rfl (fun K hK => ?_)
        go_simp
        (try dsimp only)
        refine hK.out _ _ (Ext.cellAt ((Ext.refl _).alloc _) q_p3) (fun hHeld => ?_)
        clear hK K
        try simp only [Act.put, List.getElem_toArray, List.getElem_cons_zero, List.getElem_cons_succ, List.setIfInBounds_toArray, List.set_cons_zero, List.set_cons_succ]
        have hV := (Ext.refl w3).alloc (.cells #[.int .i64 0, .int .i64 (y : Int), .int .i64 0, .int .i64 0, .int .i64 0] 90)
        have hrx := rd_new w3 [.int .i64 0, .int .i64 (y : Int), .int .i64 0, .int .i64 0, .int .i64 0] 90 5 rfl
        have owV := (hV.own ow (by omega)).wide (lo' := w.heap.size + 1) (hi' := w3.heap.size) (by omega) (by omega)
        have oCV := hV.owns oC (by omega)
        have oSV := hV.owns oS (by omega)
        have hzV : w3.heap.size + 1 = (w3.alloc (.cells #[.int .i64 0, .int .i64 (y : Int), .int .i64 0, .int .i64 0, .int .i64 0] 90)).heap.size := by simp
        refine anyX_one (i := 6) (by kernel_rfl) rfl (fun K hK => ?_)
        refine step_app1 (d := .tmp 29) (s := .tmp 33) ?_ ?_ 90 i0 _ 5 40 Try.underlying40 hi0 hz0 hz1 hz2 rfl hp5 (w.heap.size + 1) w3.heap.size (.slice C1 m1 e1) m1 (F.entries.flatMap eEntry) ?_ owV (by omega) (by omega) (w3.heap.size + 1) (some ⟨w3.heap.size, 0, none⟩) 1 1 (eEntry ⟨0, y, ⟨0, 0, 0⟩⟩) ?_ (by exact hrx) (fun u hu => oneCell_Entry [⟨0, y, ⟨0, 0, 0⟩⟩] u (by simpa using hu)) hm1 hm3 ?_
        rfl
        rfl
        (focus (simp [Act.eval]; done))
        (focus (simp [Act.eval]; done))
        intro A6 c6 w6 o6 hg6
        have hF6 : Fr _ _ _ w6 := Fr.of_grown hg6 (fun g h => owV.lt g h)
        have hz6 := hF6.size
        (clear q_p0 q_f0 q_p1 q_f1 q_p2 q_f2 q_p3 q_f3)
        replace r := (r.ext hV).apart owV (by decide) hg6
        replace q := (q.ext hV).apart owV (by decide) hg6
        have hc6 := (hc3.ext hV).fr hF6 (by omega)
        replace hFr := (hFr.thenExt hV).thenFr hF6 (by omega)
        have oC6 := (O_CellS.apart oCV (OwnS.of owV Hm1.out) (by decide) hg6).wide (lo' := w.heap.size) (hi' := w6.heap.size) (by omega) (by omega)
        have oS6 := (O_SeatS.apart oSV (OwnS.of owV Hm1.out) (by decide) hg6).wide (lo' := w.heap.size) (hi' := w6.heap.size) (by omega) (by omega)
        obtain ⟨q_p0, q_f0⟩ := q.at 0 _ rfl
        obtain ⟨q_p1, q_f1⟩ := q.at 1 _ rfl
        obtain ⟨q_p2, q_f2⟩ := q.at 2 _ rfl
        obtain ⟨q_p3, q_f3⟩ := q.at 3 _ rfl
        (try dsimp only)
        refine hK.out _ _ q_p3 (fun hHeld => ?_)
        clear hK K
        try simp only [Act.put, List.getElem_toArray, List.getElem_cons_zero, List.getElem_cons_succ, List.setIfInBounds_toArray, List.set_cons_zero, List.set_cons_succ]
        refine anyX_take (i := 7) (v := ?_) rfl (by kernel_rfl) (by kernel_rfl) (by kernel_rfl) (by kernel_rfl) (fun _ _ _ h => h) (Or.inl ⟨by rfl, ?_⟩) (by assumption) ?_
        rotate_left
        · (intro w hSw; (try dsimp only at hSw); go_simp; (try with_reducible rfl))
        try simp only [Act.put, List.getElem_toArray, List.getElem_cons_zero, List.getElem_cons_succ, List.setIfInBounds_toArray, List.set_cons_zero, List.set_cons_succ]
        refine anyX_last (by kernel_rfl) rfl (fun K hK => ?_)
        go_simp
        (try dsimp only)
        refine hK.out _ _ ?_
        clear hK K
        try simp only [Act.put, List.getElem_toArray, List.getElem_cons_zero, List.getElem_cons_succ, List.setIfInBounds_toArray, List.set_cons_zero, List.set_cons_succ]
        refine anyX_done (by kernel_rfl) ?_ _
        clear hHeld ow owV oCV oSV hg6 hF6 hV hrx hzV hc3 q_p0 q_f0 q_p1 q_f1 q_p2 q_f2 q_p3 q_f3 oC oS
        have hL2 : (F.entries ++ [(⟨0, y, ⟨0, 0, 0⟩⟩ : EntryD)]).length = m1 + 1 := by rw [List.length_append, Hm1.out]; rfl
        have o7 : O_EntryS w6 (w.heap.size + 1) w6.heap.size (.slice A6 (m1 + 1) c6) (F.entries ++ [(⟨0, y, ⟨0, 0, 0⟩⟩ : EntryD)]) := OwnS.of (by rw [List.flatMap_append, List.flatMap_cons, List.flatMap_nil, List.append_nil]; exact o6) hL2
        have o8 : O_Log w6 w.heap.size w6.heap.size (.agg #[.int .i64 F.base, .slice A1 n1 c1, .slice B1 k1 d1, .slice A6 (m1 + 1) c6]) ⟨F.base, F.image, F.entries ++ [(⟨0, y, ⟨0, 0, 0⟩⟩ : EntryD)]⟩ := ⟨_, _, _, rfl, oC6, oS6, o7.wide (by omega) (Nat.le_refl _)⟩
        replace o8 := O_Log.dodge1 o8 q.bt 3 (.slice A6 (m1 + 1) c6)
        replace r := r.far (h := w1.heap.size) (by omega) 3 (.slice A6 (m1 + 1) c6)
        have q7 := q.set 3 (.slice A6 (m1 + 1) c6)
        replace q := (show Blk _ _ _ [.int .i64 F.base, .slice A1 n1 c1, .slice B1 k1 d1, .slice A6 (m1 + 1) c6] from q7)
        replace hc6 := hc6.set (k := w1.heap.size) (by omega) 3 (.slice A6 (m1 + 1) c6)
        replace hFr := hFr.thenSet (k := w1.heap.size) (j := 3) (u := .slice A6 (m1 + 1) c6) (by omega)
        have hz7 : w6.heap.size ≤ (w6.setCell ⟨w1.heap.size, 3, none⟩ (.slice A6 (m1 + 1) c6)).heap.size := by simp
        clear o6 q7 oC6 oS6 o7
        generalize w6.setCell ⟨w1.heap.size, 3, none⟩ (.slice A6 (m1 + 1) c6) = w7 at *
        have hbt := r.bt
        have hlr7 := r.lt
        obtain ⟨q_p0, q_f0⟩ := q.at 0 _ rfl
        obtain ⟨q_p1, q_f1⟩ := q.at 1 _ rfl
        obtain ⟨q_p2, q_f2⟩ := q.at 2 _ rfl
        obtain ⟨q_p3, q_f3⟩ := q.at 3 _ rfl
        obtain ⟨r_p0, r_f0⟩ := r.at 0 _ rfl
        obtain ⟨r_p1, r_f1⟩ := r.at 1 _ rfl
        obtain ⟨r_p2, r_f2⟩ := r.at 2 _ rfl
        obtain ⟨r_p3, r_f3⟩ := r.at 3 _ rfl
        go_wp2
        exact bodyPost_ret (v := .agg #[.int .i64 F.base, .slice A1 n1 c1, .slice B1 k1 d1, .slice A6 (m1 + 1) c6]) (by simp [results, Try.results56, go_sem, r_p0, r_p1, r_p2, r_p3]) rfl ⟨_, ⟨F.base, F.image, F.entries ++ [(⟨0, y, ⟨0, 0, 0⟩⟩ : EntryD)]⟩, rfl, O_Log.wide (O_Log.dodge4 o8 hbt _ _ _ _) (by omega) (by first | (simp; done) | (simp; omega)), ⟨hsz1, by dsimp only; rw [hL2]; omega, Hsm.out.base⟩, by repeat' (first | with_reducible assumption | with_reducible refine Cur.set ?_ ?_ _ _ | with_reducible refine Cur.alloc ?_ _ | with_reducible refine Cur.drew ?_ | omega | (simp; done) | (simp; omega)), by repeat' (first | with_reducible assumption | with_reducible refine Fr.thenSet ?_ ?_ | with_reducible refine Fr.thenAlloc ?_ _ | with_reducible refine Fr.thenDrew ?_ | omega | (simp; done) | (simp; omega))⟩
      · have hx2' : ((xx : Int) == 2) = false := by simp; omega
        have hbt := r.bt
        have hlr7 := r.lt
        obtain ⟨q_p0, q_f0⟩ := q.at 0 _ rfl
        obtain ⟨q_p1, q_f1⟩ := q.at 1 _ rfl
        obtain ⟨q_p2, q_f2⟩ := q.at 2 _ rfl
        obtain ⟨q_p3, q_f3⟩ := q.at 3 _ rfl
        obtain ⟨r_p0, r_f0⟩ := r.at 0 _ rfl
        obtain ⟨r_p1, r_f1⟩ := r.at 1 _ rfl
        obtain ⟨r_p2, r_f2⟩ := r.at 2 _ rfl
        obtain ⟨r_p3, r_f3⟩ := r.at 3 _ rfl
        go_wp2
        exact bodyPost_ret (v := .agg #[.int .i64 F.base, .slice A1 n1 c1, .slice B1 k1 d1, .slice C1 m1 e1]) (by simp [results, Try.results56, go_sem, r_p0, r_p1, r_p2, r_p3]) rfl ⟨_, F, rfl, O_Log.wide (O_Log.dodge4 o1 hbt _ _ _ _) (by omega) (by first | (simp; omega) | (simp; done)), Hsm.out, by repeat' (first | with_reducible assumption | with_reducible refine Cur.set ?_ ?_ _ _ | with_reducible refine Cur.alloc ?_ _ | with_reducible refine Cur.drew ?_ | omega | (simp; done) | (simp; omega)), by repeat' (first | with_reducible assumption | with_reducible refine Fr.thenSet ?_ ?_ | with_reducible refine Fr.thenAlloc ?_ _ | with_reducible refine Fr.thenDrew ?_ | omega | (simp; done) | (simp; omega))⟩


end Go.Proofs.Ytbfbdhjeoknjkaa
