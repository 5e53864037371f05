/-
  One image as the reference draws them.
-/
import Derived.Test.YtbfbdhjeoknjkaaDrawI
import Derived.Test.YtbfbdhjeoknjkaaMg6
import Derived.Test.YtbfbdhjeoknjkaaMg1
namespace Go.Proofs.Ytbfbdhjeoknjkaa
open Go.RowKit


set_option maxRecDepth 100000 in
set_option maxHeartbeats 8000000 in
theorem l2DrawImage_s (g : Nat) (most : Int) (w : World) (hc : Cur w g) (h0 : 0 ≤ most) (h1 : most ≤ 60) : Calls Try.prog 107 #[.pointer (some ⟨g, 0, none⟩), .int .i64 most] w fun e w' => ∃ v m, e = .returned v ∧ O_Image w' w.heap.size w'.heap.size v m ∧ szI m ≤ 111 ∧ (∀ s ∈ m.seats, s.req ≤ 100) ∧ Cur w' g ∧ Fr g (g + 1) w w' := by
  have hg := hc.lt
  have hW0 : Ext w (w.alloc (.cells #[.slice none 0 0, .slice none 0 0] 39)) := by repeat' (first | with_reducible exact Ext.refl _ | with_reducible assumption | with_reducible refine Ext.set ?_ ?_ _ _ | with_reducible refine Ext.alloc ?_ _ | with_reducible refine Ext.drew ?_ | with_reducible refine Ext.drewN ?_ _ | with_reducible refine Ext.trans ?_ (by with_reducible assumption) | omega | (simp; done) | (simp; omega))
  have zW0 : w.heap.size + 1 ≤ (w.alloc (.cells #[.slice none 0 0, .slice none 0 0] 39)).heap.size := by simp
  have r : Blk (w.alloc (.cells #[.slice none 0 0, .slice none 0 0] 39)) w.heap.size 39 [.slice none 0 0, .slice none 0 0] := (Blk.new w #[.slice none 0 0, .slice none 0 0] 39 (by first | rfl | simp))
  go_enter Try.func107, Try.ntmps107
  go_wp2_with fail
  generalize (w.alloc (.cells #[.slice none 0 0, .slice none 0 0] 39)) = W0 at *
  refine (l2DrawRight_s g most _ (hc.ext hW0) h0 h1).mono ?_
  rintro e w2 ⟨v2, M, rfl, o2, hsz, hQ2, hc2, hF2⟩
  have HQ := Lib.hid hQ2
  clear hQ2
  have hlr := r.lt
  have hz2 := hF2.size
  replace r := r.fr hF2 (.inr (by omega))
  have hFr := (Fr.ext (lo := g) (hi := g + 1) hW0).trans hF2
  obtain ⟨u2, s2, rfl, oC, oS⟩ := o2
  obtain ⟨A2, n2, c2, hv2, hl2, -⟩ := id oC
  obtain ⟨B2, m2, d2, hv3, hl3, -⟩ := id oS
  subst hv2 hv3
  have hnm : n2 + m2 ≤ 110 := by unfold szI at hsz; omega
  have Hl2 := Lib.hid hl2
  have Hl3 := Lib.hid hl3
  clear hF2 hW0 hc hl2 hl3 hsz
  have hW2 : Ext w2 (w2.alloc (.cells #[.slice A2 n2 c2, .slice B2 m2 d2] 39)) := by repeat' (first | with_reducible exact Ext.refl _ | with_reducible assumption | with_reducible refine Ext.set ?_ ?_ _ _ | with_reducible refine Ext.alloc ?_ _ | with_reducible refine Ext.drew ?_ | with_reducible refine Ext.drewN ?_ _ | with_reducible refine Ext.trans ?_ (by with_reducible assumption) | omega | (simp; done) | (simp; omega))
  have zW2 : w2.heap.size + 1 ≤ (w2.alloc (.cells #[.slice A2 n2 c2, .slice B2 m2 d2] 39)).heap.size := by simp
  have q : Blk (w2.alloc (.cells #[.slice A2 n2 c2, .slice B2 m2 d2] 39)) w2.heap.size 39 [.slice A2 n2 c2, .slice B2 m2 d2] := (Blk.new w2 #[.slice A2 n2 c2, .slice B2 m2 d2] 39 (by first | rfl | simp))
  go_upto_region 2 with (fail)
  replace r := r.ext hW2
  replace hc2 := hc2.ext hW2
  replace hFr := hFr.thenExt hW2
  replace oC := (hW2.owns oC (Nat.le_refl _)).wide (show w.heap.size ≤ _ by omega) hW2.size
  replace oS := (hW2.owns oS (Nat.le_refl _)).wide (show w.heap.size ≤ _ by omega) hW2.size
  clear hW2
  generalize (w2.alloc (.cells #[.slice A2 n2 c2, .slice B2 m2 d2] 39)) = W2 at *
  go_wp2_with fail
  refine (l1Below_s g _ _ hc2 (by omega)).mono ?_
  rintro e w4 ⟨xx, rfl, -, -, hc4, hF4⟩
  have hlq := q.lt
  have hlr2 := r.lt
  have hz4 := hF4.size
  replace r := r.fr hF4 (.inr (by omega))
  replace q := q.fr hF4 (.inr (by omega))
  replace hFr := hFr.trans hF4
  replace oC := (hF4.owns oC (.inr (by omega))).wide (Nat.le_refl _) hz4
  replace oS := (hF4.owns oS (.inr (by omega))).wide (Nat.le_refl _) hz4
  clear hF4 hc2
  have hm1 : n2 + 1 ≤ maxLen := by unfold maxLen; omega
  have hm2 : m2 + 1 ≤ maxLen := by unfold maxLen; omega
  have hm3 : (n2 + 1) * 16 ≤ 140737488355328 := by omega
  have hm4 : (m2 + 1) * 24 ≤ 140737488355328 := by omega
  have hp2 : 0 < 2 := by omega
  have hp3 : 0 < 3 := by omega
  by_cases hx0 : xx = 0
  · subst hx0
    obtain ⟨i0, hi0, hz0, hz1, hz2⟩ := info_parts info_Cell
    obtain ⟨_, _, _, ev, -, ow⟩ := id oC
    injection ev with e1 e2 e3
    subst e1 e2 e3
    obtain ⟨q_p0, q_f0⟩ := q.at 0 _ rfl
    obtain ⟨q_p1, q_f1⟩ := q.at 1 _ rfl
    go_upto_region 4 with (fail)
    refine region_anyX (x := 9) (S := (fun w' => w'.cell? ⟨w2.heap.size, 0, none⟩ = some (.slice A2 n2 c2))) (by kernel_rfl) q_p0 (fun hHeld => ?_)
    refine anyX_take (i := 0) (v := ?_) rfl (by kernel_rfl) (by kernel_rfl) (by kernel_rfl) (by kernel_rfl) (fun _ _ _ h => h) (Or.inl ⟨by rfl, ?_⟩) (by assumption) ?_
    rotate_left
    · (intro w hSw; (try dsimp only at hSw); go_simp; (try with_reducible rfl))
    try simp only [Act.put, List.getElem_toArray, List.getElem_cons_zero, List.getElem_cons_succ, List.setIfInBounds_toArray, List.set_cons_zero, List.set_cons_succ]
    refine anyX_take (i := 1) (v := ?_) rfl (by kernel_rfl) (by kernel_rfl) (by kernel_rfl) (by kernel_rfl) (fun _ _ _ h => h) (Or.inl ⟨by rfl, ?_⟩) (by assumption) ?_
    rotate_left
    · (intro w hSw; (try dsimp only at hSw); go_simp; (try with_reducible rfl))
    try simp only [Act.put, List.getElem_toArray, List.getElem_cons_zero, List.getElem_cons_succ, List.setIfInBounds_toArray, List.set_cons_zero, List.set_cons_succ]
    refine anyX_take (i := 2) (v := ?_) rfl (by kernel_rfl) (by kernel_rfl) (by kernel_rfl) (by kernel_rfl) (fun _ _ _ h => h) (Or.inl ⟨by rfl, ?_⟩) (by assumption) ?_
    rotate_left
    · (intro w hSw; (try dsimp only at hSw); go_simp; (try with_reducible rfl))
    try simp only [Act.put, List.getElem_toArray, List.getElem_cons_zero, List.getElem_cons_succ, List.setIfInBounds_toArray, List.set_cons_zero, List.set_cons_succ]
    refine anyX_one (i := 3) (by kernel_rfl) rfl (fun K hK => ?_)
    go_simp
    (try dsimp only)
    refine hK.out _ _ (Ext.cellAt ((Ext.refl _).alloc _) q_p0) (fun hHeld => ?_)
    clear hK K
    try simp only [Act.put, List.getElem_toArray, List.getElem_cons_zero, List.getElem_cons_succ, List.setIfInBounds_toArray, List.set_cons_zero, List.set_cons_succ]
    refine anyX_one (i := 4) (by kernel_rfl) rfl (fun K hK => ?_)
    go_simp
    go_at_call 106
    refine (l1PickInt_s g w4.heap.size [0, -1, 1000000000, 1000000001] _ ((hc4.alloc (.cells #[.int .i64 0, .int .i64 (-1), .int .i64 1000000000, .int .i64 1000000001] 3)).drew) (by omega) (by simp) (by simp) (by exact pick_cells _ [0, -1, 1000000000, 1000000001] _)).mono ?_
    rintro e w5 ⟨x5, -, rfl, hc5, hF5⟩
    (clear q_p0 q_f0 q_p1 q_f1)
    have hV5 := ((Ext.refl w4).alloc (.cells #[.int .i64 0, .int .i64 (-1), .int .i64 1000000000, .int .i64 1000000001] 3)).drew
    have hzV5 := hV5.size
    have hz5 := hF5.size
    replace r := (r.ext hV5).fr hF5 (.inr (by omega))
    replace q := (q.ext hV5).fr hF5 (.inr (by omega))
    replace ow := ((hV5.own ow (by omega)).fr hF5 (.inr (by omega))).wide (Nat.le_refl _) (show w4.heap.size ≤ w5.heap.size by omega)
    replace oS := (hF5.owns (hV5.owns oS (by omega)) (.inr (by omega))).wide (Nat.le_refl _) (show w4.heap.size ≤ w5.heap.size by omega)
    replace hFr := (hFr.thenExt hV5).trans hF5
    obtain ⟨q_p0, q_f0⟩ := q.at 0 _ rfl
    obtain ⟨q_p1, q_f1⟩ := q.at 1 _ rfl
    clear hF5 hc4 hV5
    (try dsimp only)
    refine hK.out _ _ q_p0 (fun hHeld => ?_)
    clear hK K
    try simp only [Act.put, List.getElem_toArray, List.getElem_cons_zero, List.getElem_cons_succ, List.setIfInBounds_toArray, List.set_cons_zero, List.set_cons_succ]
    refine anyX_take (i := 5) (v := ?_) rfl (by kernel_rfl) (by kernel_rfl) (by kernel_rfl) (by kernel_rfl) (fun _ _ _ h => h) (Or.inl ⟨by rfl, ?_⟩) (by assumption) ?_
    rotate_left
    · (intro w hSw; (try dsimp only at hSw); go_simp; (try with_reducible rfl))
    try simp only [Act.put, List.getElem_toArray, List.getElem_cons_zero, List.getElem_cons_succ, List.setIfInBounds_toArray, List.set_cons_zero, List.set_cons_succ]
    refine anyX_one (i := 6) (by kernel_rfl) rfl (fun K hK => ?_)
    go_simp
    (try dsimp only)
    refine hK.out _ _ (Ext.cellAt ((Ext.refl _).alloc _) q_p0) (fun hHeld => ?_)
    clear hK K
    try simp only [Act.put, List.getElem_toArray, List.getElem_cons_zero, List.getElem_cons_succ, List.setIfInBounds_toArray, List.set_cons_zero, List.set_cons_succ]
    have hV := (Ext.refl w5).alloc (.cells #[.int .i64 x5, .int .i64 0] 86)
    have hrx := rd_new w5 [.int .i64 x5, .int .i64 0] 86 2 rfl
    have owV := hV.own ow (by omega)
    have oSV := hV.owns oS (by omega)
    have hzV : w5.heap.size + 1 = (w5.alloc (.cells #[.int .i64 x5, .int .i64 0] 86)).heap.size := by simp
    refine anyX_one (i := 7) (by kernel_rfl) rfl (fun K hK => ?_)
    refine step_app1 (d := .tmp 14) (s := .tmp 19) ?_ ?_ 86 i0 (.agg #[.int .i64 0, .int .i64 0]) 2 16 Try.underlying36 hi0 hz0 hz1 hz2 rfl hp2 w.heap.size w5.heap.size (.slice A2 n2 c2) n2 (M.cells.flatMap eCell) ?_ owV (by omega) (by omega) (w5.heap.size + 1) (some ⟨w5.heap.size, 0, none⟩) 1 1 (eCell ⟨x5, 0⟩) ?_ (by exact hrx) (fun u hu => oneCell_Cell [⟨x5, 0⟩] u (by simpa using hu)) hm1 hm3 ?_
    rfl
    rfl
    (focus (simp [Act.eval]; done))
    (focus (simp [Act.eval]; done))
    intro A6 c6 w6 o6 hg6
    have hF6 : Fr _ _ _ w6 := Fr.of_grown hg6 (fun g h => owV.lt g h)
    have hz6 := hF6.size
    (clear q_p0 q_f0 q_p1 q_f1)
    replace r := (r.ext hV).apart owV (by decide) hg6
    replace q := (q.ext hV).apart owV (by decide) hg6
    have hc6 := (hc5.ext hV).fr hF6 (by omega)
    replace hFr := (hFr.thenExt hV).thenFr hF6 (by omega)
    have oS6 := (O_SeatS.apart oSV (OwnS.of owV Hl2.out) (by decide) hg6).wide (Nat.le_refl _) (show w5.heap.size ≤ w6.heap.size by omega)
    obtain ⟨q_p0, q_f0⟩ := q.at 0 _ rfl
    obtain ⟨q_p1, q_f1⟩ := q.at 1 _ rfl
    (try dsimp only)
    refine hK.out _ _ q_p0 (fun hHeld => ?_)
    clear hK K
    try simp only [Act.put, List.getElem_toArray, List.getElem_cons_zero, List.getElem_cons_succ, List.setIfInBounds_toArray, List.set_cons_zero, List.set_cons_succ]
    refine anyX_take (i := 8) (v := ?_) rfl (by kernel_rfl) (by kernel_rfl) (by kernel_rfl) (by kernel_rfl) (fun _ _ _ h => h) (Or.inl ⟨by rfl, ?_⟩) (by assumption) ?_
    rotate_left
    · (intro w hSw; (try dsimp only at hSw); go_simp; (try with_reducible rfl))
    try simp only [Act.put, List.getElem_toArray, List.getElem_cons_zero, List.getElem_cons_succ, List.setIfInBounds_toArray, List.set_cons_zero, List.set_cons_succ]
    refine anyX_last (by kernel_rfl) rfl (fun K hK => ?_)
    go_simp
    (try dsimp only)
    refine hK.out _ _ ?_
    clear hK K
    try simp only [Act.put, List.getElem_toArray, List.getElem_cons_zero, List.getElem_cons_succ, List.setIfInBounds_toArray, List.set_cons_zero, List.set_cons_succ]
    refine anyX_done (by kernel_rfl) ?_ _
    clear hHeld ow owV oSV hg6 hF6 hV hrx hzV hc5 q_p0 q_f0 q_p1 q_f1 oC oS
    have hL2 : (M.cells ++ [(⟨x5, 0⟩ : CellD)]).length = n2 + 1 := by rw [List.length_append, Hl2.out]; rfl
    have o7 : O_CellS w6 w.heap.size w6.heap.size (.slice A6 (n2 + 1) c6) (M.cells ++ [(⟨x5, 0⟩ : CellD)]) := OwnS.of (by rw [List.flatMap_append, List.flatMap_cons, List.flatMap_nil, List.append_nil]; exact o6) hL2
    replace o7 := o7.dodge q.bt (by decide) 0 (.slice A6 (n2 + 1) c6)
    replace oS6 := oS6.dodge q.bt (by decide) 0 (.slice A6 (n2 + 1) c6)
    replace r := r.far (h := w2.heap.size) (by omega) 0 (.slice A6 (n2 + 1) c6)
    have q7 := q.set 0 (.slice A6 (n2 + 1) c6)
    replace q := (show Blk _ _ _ [.slice A6 (n2 + 1) c6, .slice B2 m2 d2] from q7)
    replace hc6 := hc6.set (k := w2.heap.size) (by omega) 0 (.slice A6 (n2 + 1) c6)
    replace hFr := hFr.thenSet (k := w2.heap.size) (j := 0) (u := .slice A6 (n2 + 1) c6) (by omega)
    have hz7 : w6.heap.size ≤ (w6.setCell ⟨w2.heap.size, 0, none⟩ (.slice A6 (n2 + 1) c6)).heap.size := by simp
    clear o6 q7
    generalize w6.setCell ⟨w2.heap.size, 0, none⟩ (.slice A6 (n2 + 1) c6) = w7 at *
    have hbt := r.bt
    have hlr7 := r.lt
    have hsz : szI ⟨M.cells ++ [(⟨x5, 0⟩ : CellD)], M.seats⟩ ≤ 111 := by unfold szI; dsimp only; have := Hl3.out; omega
    obtain ⟨q_p0, q_f0⟩ := q.at 0 _ rfl
    obtain ⟨q_p1, q_f1⟩ := q.at 1 _ rfl
    obtain ⟨r_p0, r_f0⟩ := r.at 0 _ rfl
    obtain ⟨r_p1, r_f1⟩ := r.at 1 _ rfl
    go_wp2
    exact bodyPost_ret (v := .agg #[.slice A6 (n2 + 1) c6, .slice B2 m2 d2]) (by simp [results, Try.results107, go_sem, r_p0, r_p1]) rfl ⟨_, ⟨M.cells ++ [(⟨x5, 0⟩ : CellD)], M.seats⟩, rfl, ⟨_, _, rfl, ((OwnS.dodge o7 hbt (by decide) 0 _).dodge (hbt.set _ 0 _) (by decide) 1 _).wide (Nat.le_refl _) (by first | (simp; done) | (simp; omega)), ((oS6.dodge hbt (by decide) 0 _).dodge (hbt.set _ 0 _) (by decide) 1 _).wide (Nat.le_refl _) (by first | (simp; done) | (simp; omega))⟩, hsz, HQ.out, by repeat' (first | with_reducible assumption | with_reducible refine Cur.set ?_ ?_ _ _ | with_reducible refine Cur.alloc ?_ _ | with_reducible refine Cur.drew ?_ | omega | (simp; done) | (simp; omega)), by repeat' (first | with_reducible assumption | with_reducible refine Fr.thenSet ?_ ?_ | with_reducible refine Fr.thenAlloc ?_ _ | with_reducible refine Fr.thenDrew ?_ | omega | (simp; done) | (simp; omega))⟩
  · have hx0' : ((xx : Int) == 0) = false := by simp; omega
    by_cases hx1 : xx = 1
    · subst hx1
      obtain ⟨i0, hi0, hz0, hz1, hz2⟩ := info_parts info_Seat
      obtain ⟨_, _, _, ev, -, ow⟩ := id oS
      injection ev with e1 e2 e3
      subst e1 e2 e3
      obtain ⟨q_p0, q_f0⟩ := q.at 0 _ rfl
      obtain ⟨q_p1, q_f1⟩ := q.at 1 _ rfl
      go_upto_region 6 with (fail)
      refine region_anyX (x := 14) (S := (fun w' => w'.cell? ⟨w2.heap.size, 1, none⟩ = some (.slice B2 m2 d2))) (by kernel_rfl) q_p1 (fun hHeld => ?_)
      refine anyX_take (i := 0) (v := ?_) rfl (by kernel_rfl) (by kernel_rfl) (by kernel_rfl) (by kernel_rfl) (fun _ _ _ h => h) (Or.inl ⟨by rfl, ?_⟩) (by assumption) ?_
      rotate_left
      · (intro w hSw; (try dsimp only at hSw); go_simp; (try with_reducible rfl))
      try simp only [Act.put, List.getElem_toArray, List.getElem_cons_zero, List.getElem_cons_succ, List.setIfInBounds_toArray, List.set_cons_zero, List.set_cons_succ]
      refine anyX_take (i := 1) (v := ?_) rfl (by kernel_rfl) (by kernel_rfl) (by kernel_rfl) (by kernel_rfl) (fun _ _ _ h => h) (Or.inl ⟨by rfl, ?_⟩) (by assumption) ?_
      rotate_left
      · (intro w hSw; (try dsimp only at hSw); go_simp; (try with_reducible rfl))
      try simp only [Act.put, List.getElem_toArray, List.getElem_cons_zero, List.getElem_cons_succ, List.setIfInBounds_toArray, List.set_cons_zero, List.set_cons_succ]
      refine anyX_take (i := 2) (v := ?_) rfl (by kernel_rfl) (by kernel_rfl) (by kernel_rfl) (by kernel_rfl) (fun _ _ _ h => h) (Or.inl ⟨by rfl, ?_⟩) (by assumption) ?_
      rotate_left
      · (intro w hSw; (try dsimp only at hSw); go_simp; (try with_reducible rfl))
      try simp only [Act.put, List.getElem_toArray, List.getElem_cons_zero, List.getElem_cons_succ, List.setIfInBounds_toArray, List.set_cons_zero, List.set_cons_succ]
      refine anyX_take (i := 5) (v := ?_) rfl (by kernel_rfl) (by kernel_rfl) (by kernel_rfl) (by kernel_rfl) (fun _ _ _ h => h) (Or.inl ⟨by rfl, ?_⟩) (by assumption) ?_
      rotate_left
      · (intro w hSw; (try dsimp only at hSw); go_simp; (try with_reducible rfl))
      try simp only [Act.put, List.getElem_toArray, List.getElem_cons_zero, List.getElem_cons_succ, List.setIfInBounds_toArray, List.set_cons_zero, List.set_cons_succ]
      refine anyX_take (i := 7) (v := ?_) rfl (by kernel_rfl) (by kernel_rfl) (by kernel_rfl) (by kernel_rfl) (fun _ _ _ h => h) (Or.inl ⟨by rfl, ?_⟩) (by assumption) ?_
      rotate_left
      · (intro w hSw; (try dsimp only at hSw); go_simp; (try with_reducible rfl))
      try simp only [Act.put, List.getElem_toArray, List.getElem_cons_zero, List.getElem_cons_succ, List.setIfInBounds_toArray, List.set_cons_zero, List.set_cons_succ]
      refine anyX_one (i := 3) (by kernel_rfl) rfl (fun K hK => ?_)
      go_simp
      (try dsimp only)
      refine hK.out _ _ (Ext.cellAt ((Ext.refl _).alloc _) q_p1) (fun hHeld => ?_)
      clear hK K
      try simp only [Act.put, List.getElem_toArray, List.getElem_cons_zero, List.getElem_cons_succ, List.setIfInBounds_toArray, List.set_cons_zero, List.set_cons_succ]
      refine anyX_one (i := 4) (by kernel_rfl) rfl (fun K hK => ?_)
      go_simp
      go_at_call 106
      refine (l1PickInt_s g w4.heap.size [0, 99, 1000000001] _ ((hc4.alloc (.cells #[.int .i64 0, .int .i64 99, .int .i64 1000000001] 3)).drew) (by omega) (by simp) (by simp) (by exact pick_cells _ [0, 99, 1000000001] _)).mono ?_
      rintro e w5 ⟨x5, -, rfl, hc5, hF5⟩
      (clear q_p0 q_f0 q_p1 q_f1)
      have hV5 := ((Ext.refl w4).alloc (.cells #[.int .i64 0, .int .i64 99, .int .i64 1000000001] 3)).drew
      have hzV5 := hV5.size
      have hz5 := hF5.size
      replace r := (r.ext hV5).fr hF5 (.inr (by omega))
      replace q := (q.ext hV5).fr hF5 (.inr (by omega))
      replace ow := ((hV5.own ow (by omega)).fr hF5 (.inr (by omega))).wide (Nat.le_refl _) (show w4.heap.size ≤ w5.heap.size by omega)
      replace oC := (hF5.owns (hV5.owns oC (by omega)) (.inr (by omega))).wide (Nat.le_refl _) (show w4.heap.size ≤ w5.heap.size by omega)
      replace hFr := (hFr.thenExt hV5).trans hF5
      obtain ⟨q_p0, q_f0⟩ := q.at 0 _ rfl
      obtain ⟨q_p1, q_f1⟩ := q.at 1 _ rfl
      clear hF5 hc4 hV5
      (try dsimp only)
      refine hK.out _ _ q_p1 (fun hHeld => ?_)
      clear hK K
      try simp only [Act.put, List.getElem_toArray, List.getElem_cons_zero, List.getElem_cons_succ, List.setIfInBounds_toArray, List.set_cons_zero, List.set_cons_succ]
      refine anyX_one (i := 6) (by kernel_rfl) rfl (fun K hK => ?_)
      go_simp
      go_at_call 105
      refine (l1Below_s g _ _ hc5 (by omega)).mono ?_
      rintro e w51 ⟨y5, rfl, hy51', -, hc51, hF51⟩
      have hyy51 := hy51' (by omega)
      have HQ3 : Hid (∀ a : Int, ∀ s ∈ M.seats ++ [(⟨x5, (y5 : Int), a⟩ : SeatD)], s.req ≤ 100) := (fun a s hs => by (rcases List.mem_append.1 hs with hs | hs); exact HQ.out s hs; (rw [List.mem_singleton.1 hs]; show (y5 : Int) ≤ 100; omega))
      (clear hyy51 hy51')
      (clear q_p0 q_f0 q_p1 q_f1)
      have hz51 := hF51.size
      replace r := r.fr hF51 (.inr (by omega))
      replace q := q.fr hF51 (.inr (by omega))
      replace ow := (ow.fr hF51 (.inr (by omega))).wide (Nat.le_refl _) hz51
      replace oC := (hF51.owns oC (.inr (by omega))).wide (Nat.le_refl _) hz51
      replace hFr := hFr.trans hF51
      obtain ⟨q_p0, q_f0⟩ := q.at 0 _ rfl
      obtain ⟨q_p1, q_f1⟩ := q.at 1 _ rfl
      clear hF51 hc5
      (try dsimp only)
      refine hK.out _ _ q_p1 (fun hHeld => ?_)
      clear hK K
      try simp only [Act.put, List.getElem_toArray, List.getElem_cons_zero, List.getElem_cons_succ, List.setIfInBounds_toArray, List.set_cons_zero, List.set_cons_succ]
      refine anyX_one (i := 8) (by kernel_rfl) rfl (fun K hK => ?_)
      go_simp
      go_at_call 105
      refine (l1Below_s g _ _ hc51 (by omega)).mono ?_
      rintro e w52 ⟨z5, rfl, hz52', -, hc52, hF52⟩
      have hzz52 := hz52' (by omega)
      (clear q_p0 q_f0 q_p1 q_f1 hz52')
      have hz52 := hF52.size
      replace r := r.fr hF52 (.inr (by omega))
      replace q := q.fr hF52 (.inr (by omega))
      replace ow := (ow.fr hF52 (.inr (by omega))).wide (Nat.le_refl _) hz52
      replace oC := (hF52.owns oC (.inr (by omega))).wide (Nat.le_refl _) hz52
      replace hFr := hFr.trans hF52
      obtain ⟨q_p0, q_f0⟩ := q.at 0 _ rfl
      obtain ⟨q_p1, q_f1⟩ := q.at 1 _ rfl
      have hwz : IntKind.i64.wrap ((z5 : Int) - 2) = (z5 : Int) - 2 := IntWalk.i64_in _ (by omega)
      clear hF52 hc51
      (try dsimp only)
      refine hK.out _ _ q_p1 (fun hHeld => ?_)
      clear hK K
      try simp only [Act.put, List.getElem_toArray, List.getElem_cons_zero, List.getElem_cons_succ, List.setIfInBounds_toArray, List.set_cons_zero, List.set_cons_succ]
      refine anyX_take (i := 9) (v := ?_) rfl (by kernel_rfl) (by kernel_rfl) (by kernel_rfl) (by kernel_rfl) (fun _ _ _ h => h) (Or.inl ⟨by rfl, ?_⟩) (by assumption) ?_
      rotate_left
      · (intro w hSw; (try dsimp only at hSw); go_simp; (try with_reducible rfl))
      try simp only [Act.put, List.getElem_toArray, List.getElem_cons_zero, List.getElem_cons_succ, List.setIfInBounds_toArray, List.set_cons_zero, List.set_cons_succ]
      refine anyX_take (i := 10) (v := ?_) rfl (by kernel_rfl) (by kernel_rfl) (by kernel_rfl) (by kernel_rfl) (fun _ _ _ h => h) (Or.inl ⟨by rfl, ?_⟩) (by assumption) ?_
      rotate_left
      · (intro w hSw; (try dsimp only at hSw); go_simp; (try with_reducible rfl))
      try simp only [Act.put, List.getElem_toArray, List.getElem_cons_zero, List.getElem_cons_succ, List.setIfInBounds_toArray, List.set_cons_zero, List.set_cons_succ]
      refine anyX_one (i := 11) (by kernel_rfl) rfl (fun K hK => ?_)
      go_simp
      (try dsimp only)
      refine hK.out _ _ (Ext.cellAt ((Ext.refl _).alloc _) q_p1) (fun hHeld => ?_)
      clear hK K
      try simp only [Act.put, List.getElem_toArray, List.getElem_cons_zero, List.getElem_cons_succ, List.setIfInBounds_toArray, List.set_cons_zero, List.set_cons_succ]
      have hV := (Ext.refl w52).alloc (.cells #[.int .i64 x5, .int .i64 (y5 : Int), .int .i64 ((z5 : Int) - 2)] 88)
      have hrx := rd_new w52 [.int .i64 x5, .int .i64 (y5 : Int), .int .i64 ((z5 : Int) - 2)] 88 3 rfl
      have owV := hV.own ow (by omega)
      have oCV := hV.owns oC (by omega)
      have hzV : w52.heap.size + 1 = (w52.alloc (.cells #[.int .i64 x5, .int .i64 (y5 : Int), .int .i64 ((z5 : Int) - 2)] 88)).heap.size := by simp
      refine anyX_one (i := 12) (by kernel_rfl) rfl (fun K hK => ?_)
      refine step_app1 (d := .tmp 25) (s := .tmp 35) ?_ ?_ 88 i0 (.agg #[.int .i64 0, .int .i64 0, .int .i64 0]) 3 24 Try.underlying37 hi0 hz0 hz1 hz2 rfl hp3 w.heap.size w52.heap.size (.slice B2 m2 d2) m2 (M.seats.flatMap eSeat) ?_ owV (by omega) (by omega) (w52.heap.size + 1) (some ⟨w52.heap.size, 0, none⟩) 1 1 (eSeat ⟨x5, y5, (z5 : Int) - 2⟩) ?_ (by exact hrx) (fun u hu => oneCell_Seat [⟨x5, y5, (z5 : Int) - 2⟩] u (by simpa using hu)) hm2 hm4 ?_
      rfl
      rfl
      (focus (simp [Act.eval]; done))
      (focus (simp [Act.eval]; done))
      intro A6 c6 w6 o6 hg6
      have hF6 : Fr _ _ _ w6 := Fr.of_grown hg6 (fun g h => owV.lt g h)
      have hz6 := hF6.size
      (clear q_p0 q_f0 q_p1 q_f1)
      replace r := (r.ext hV).apart owV (by decide) hg6
      replace q := (q.ext hV).apart owV (by decide) hg6
      have hc6 := (hc52.ext hV).fr hF6 (by omega)
      replace hFr := (hFr.thenExt hV).thenFr hF6 (by omega)
      have oC6 := (O_CellS.apart oCV (OwnS.of owV Hl3.out) (by decide) hg6).wide (Nat.le_refl _) (show w52.heap.size ≤ w6.heap.size by omega)
      obtain ⟨q_p0, q_f0⟩ := q.at 0 _ rfl
      obtain ⟨q_p1, q_f1⟩ := q.at 1 _ rfl
      (try dsimp only)
      refine hK.out _ _ q_p1 (fun hHeld => ?_)
      clear hK K
      try simp only [Act.put, List.getElem_toArray, List.getElem_cons_zero, List.getElem_cons_succ, List.setIfInBounds_toArray, List.set_cons_zero, List.set_cons_succ]
      refine anyX_take (i := 13) (v := ?_) rfl (by kernel_rfl) (by kernel_rfl) (by kernel_rfl) (by kernel_rfl) (fun _ _ _ h => h) (Or.inl ⟨by rfl, ?_⟩) (by assumption) ?_
      rotate_left
      · (intro w hSw; (try dsimp only at hSw); go_simp; (try with_reducible rfl))
      try simp only [Act.put, List.getElem_toArray, List.getElem_cons_zero, List.getElem_cons_succ, List.setIfInBounds_toArray, List.set_cons_zero, List.set_cons_succ]
      refine anyX_last (by kernel_rfl) rfl (fun K hK => ?_)
      go_simp
      (try dsimp only)
      refine hK.out _ _ ?_
      clear hK K
      try simp only [Act.put, List.getElem_toArray, List.getElem_cons_zero, List.getElem_cons_succ, List.setIfInBounds_toArray, List.set_cons_zero, List.set_cons_succ]
      refine anyX_done (by kernel_rfl) ?_ _
      clear hHeld ow owV oCV hg6 hF6 hV hrx hzV hc52 q_p0 q_f0 q_p1 q_f1 oC oS
      have hL2 : (M.seats ++ [(⟨x5, y5, (z5 : Int) - 2⟩ : SeatD)]).length = m2 + 1 := by rw [List.length_append, Hl3.out]; rfl
      have o7 : O_SeatS w6 w.heap.size w6.heap.size (.slice A6 (m2 + 1) c6) (M.seats ++ [(⟨x5, y5, (z5 : Int) - 2⟩ : SeatD)]) := OwnS.of (by rw [List.flatMap_append, List.flatMap_cons, List.flatMap_nil, List.append_nil]; exact o6) hL2
      replace o7 := o7.dodge q.bt (by decide) 1 (.slice A6 (m2 + 1) c6)
      replace oC6 := oC6.dodge q.bt (by decide) 1 (.slice A6 (m2 + 1) c6)
      replace r := r.far (h := w2.heap.size) (by omega) 1 (.slice A6 (m2 + 1) c6)
      have q7 := q.set 1 (.slice A6 (m2 + 1) c6)
      replace q := (show Blk _ _ _ [.slice A2 n2 c2, .slice A6 (m2 + 1) c6] from q7)
      replace hc6 := hc6.set (k := w2.heap.size) (by omega) 1 (.slice A6 (m2 + 1) c6)
      replace hFr := hFr.thenSet (k := w2.heap.size) (j := 1) (u := .slice A6 (m2 + 1) c6) (by omega)
      have hz7 : w6.heap.size ≤ (w6.setCell ⟨w2.heap.size, 1, none⟩ (.slice A6 (m2 + 1) c6)).heap.size := by simp
      clear o6 q7
      generalize w6.setCell ⟨w2.heap.size, 1, none⟩ (.slice A6 (m2 + 1) c6) = w7 at *
      have hbt := r.bt
      have hlr7 := r.lt
      have hsz : szI ⟨M.cells, M.seats ++ [(⟨x5, y5, (z5 : Int) - 2⟩ : SeatD)]⟩ ≤ 111 := by unfold szI; dsimp only; have := Hl2.out; omega
      obtain ⟨q_p0, q_f0⟩ := q.at 0 _ rfl
      obtain ⟨q_p1, q_f1⟩ := q.at 1 _ rfl
      obtain ⟨r_p0, r_f0⟩ := r.at 0 _ rfl
      obtain ⟨r_p1, r_f1⟩ := r.at 1 _ rfl
      go_wp2
      exact bodyPost_ret (v := .agg #[.slice A2 n2 c2, .slice A6 (m2 + 1) c6]) (by simp [results, Try.results107, go_sem, r_p0, r_p1]) rfl ⟨_, ⟨M.cells, M.seats ++ [(⟨x5, y5, (z5 : Int) - 2⟩ : SeatD)]⟩, rfl, ⟨_, _, rfl, ((oC6.dodge hbt (by decide) 0 _).dodge (hbt.set _ 0 _) (by decide) 1 _).wide (Nat.le_refl _) (by first | (simp; done) | (simp; omega)), ((OwnS.dodge o7 hbt (by decide) 0 _).dodge (hbt.set _ 0 _) (by decide) 1 _).wide (Nat.le_refl _) (by first | (simp; done) | (simp; omega))⟩, hsz, HQ3.out _, by repeat' (first | with_reducible assumption | with_reducible refine Cur.set ?_ ?_ _ _ | with_reducible refine Cur.alloc ?_ _ | with_reducible refine Cur.drew ?_ | omega | (simp; done) | (simp; omega)), by repeat' (first | with_reducible assumption | with_reducible refine Fr.thenSet ?_ ?_ | with_reducible refine Fr.thenAlloc ?_ _ | with_reducible refine Fr.thenDrew ?_ | omega | (simp; done) | (simp; omega))⟩
    · have hx1' : ((xx : Int) == 1) = false := by simp; omega
      have hbt := r.bt
      have hlr7 := r.lt
      have hsz : szI M ≤ 111 := by unfold szI; have := Hl2.out; have := Hl3.out; omega
      obtain ⟨q_p0, q_f0⟩ := q.at 0 _ rfl
      obtain ⟨q_p1, q_f1⟩ := q.at 1 _ rfl
      obtain ⟨r_p0, r_f0⟩ := r.at 0 _ rfl
      obtain ⟨r_p1, r_f1⟩ := r.at 1 _ rfl
      go_wp2
      exact bodyPost_ret (v := .agg #[.slice A2 n2 c2, .slice B2 m2 d2]) (by simp [results, Try.results107, go_sem, r_p0, r_p1]) rfl ⟨_, M, rfl, ⟨_, _, rfl, ((oC.dodge hbt (by decide) 0 _).dodge (hbt.set _ 0 _) (by decide) 1 _).wide (Nat.le_refl _) (by first | (simp; done) | (simp; omega)), ((oS.dodge hbt (by decide) 0 _).dodge (hbt.set _ 0 _) (by decide) 1 _).wide (Nat.le_refl _) (by first | (simp; done) | (simp; omega))⟩, hsz, HQ.out, by repeat' (first | with_reducible assumption | with_reducible refine Cur.set ?_ ?_ _ _ | with_reducible refine Cur.alloc ?_ _ | with_reducible refine Cur.drew ?_ | omega | (simp; done) | (simp; omega)), by repeat' (first | with_reducible assumption | with_reducible refine Fr.thenSet ?_ ?_ | with_reducible refine Fr.thenAlloc ?_ _ | with_reducible refine Fr.thenDrew ?_ | omega | (simp; done) | (simp; omega))⟩

end Go.Proofs.Ytbfbdhjeoknjkaa
