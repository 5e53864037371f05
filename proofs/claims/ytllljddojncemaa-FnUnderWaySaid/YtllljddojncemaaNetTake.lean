/-
  'NetTake' on both sides, walked.
-/
import Derived.Test.YtllljddojncemaaNetAdd
import Derived.Test.YtllljddojncemaaApp1
namespace Go.Proofs.Ytllljddojncemaa
open Go.RowKit

theorem offL_all {l : List FlightD} {i : Nat} (h : l.length ≤ i) : offL l i = l := by
  unfold offL
  rw [List.take_of_length_le h, List.drop_of_length_le (by omega), List.append_nil]
theorem offL_snoc_ne {l : List FlightD} {k i : Nat} {x : FlightD} (hx : l[k]? = some x) (h : k ≠ i) : offL (l.take (k + 1)) i = offL (l.take k) i ++ [x] := by
  have hk := (List.getElem?_eq_some_iff.1 hx).1
  rw [take_snoc hx]
  have hlen : (l.take k).length = k := by rw [List.length_take]; omega
  rcases Nat.lt_or_gt_of_ne h with h1 | h1
  · rw [offL_all (l := l.take k ++ [x]) (by rw [List.length_append, hlen]; simp; omega), offL_all (l := l.take k) (by omega)]
  · unfold offL
    rw [List.take_append_of_le_length (by omega), List.drop_append_of_le_length (by omega), List.append_assoc]
theorem offL_snoc_eq {l : List FlightD} {k : Nat} {x : FlightD} (hx : l[k]? = some x) : offL (l.take (k + 1)) k = offL (l.take k) k := by
  have hk := (List.getElem?_eq_some_iff.1 hx).1
  have hlen : (l.take k).length = k := by rw [List.length_take]; omega
  rw [take_snoc hx]
  unfold offL
  rw [List.take_append_of_le_length (by omega), List.drop_of_length_le (by rw [List.length_append, hlen]; simp), List.drop_of_length_le (by omega)]


set_option maxRecDepth 100000 in
set_option maxHeartbeats 4000000 in
theorem netTake_i (v : Value) (n : NetD) (i : Int) (w : World) (B : Nat) (hr : R_Net w B v n) (hB : B ≤ w.heap.size) (hsz : n.list.length ≤ 1048576) :
    Calls Try.prog 26 #[v, .int .i64 i] w fun e w' => ∃ v', e = .returned (.tuple #[v', .agg #[.int .i64 (netTake n i).2.1.id, .int .i64 (FlightD.to (netTake n i).2.1), .string (netTake n i).2.1.bytes], .int .i64 (netTake n i).2.2]) ∧ O_Net w' w.heap.size w'.heap.size v' (netTake n i).1 ∧ Ext w w' := by
  have hr0 := hr
  obtain ⟨u, rfl, A, m, c, rfl, hl, hmc, hcm, hrd⟩ := hr
  rw [hl] at hsz
  have Hl := Lib.hid hl
  clear hl
  have hW0 : Ext w (((w.alloc (.cells #[.int .i64 n.next, .slice A m c] 29)).alloc (.cells #[.int .i64 0, .slice none 0 0] 29)).alloc (.cells #[.int .i64 0, .int .i64 0, .string ⟨#[]⟩] 43)) := by repeat' (first | with_reducible exact Ext.refl _ | with_reducible assumption | with_reducible refine Ext.set ?_ ?_ _ _ | with_reducible refine Ext.alloc ?_ _ | with_reducible refine Ext.drew ?_ | with_reducible refine Ext.drewN ?_ _ | with_reducible refine Ext.trans ?_ (by with_reducible assumption) | omega | (simp; done) | (simp; omega))
  have zW0 : w.heap.size + 3 ≤ (((w.alloc (.cells #[.int .i64 n.next, .slice A m c] 29)).alloc (.cells #[.int .i64 0, .slice none 0 0] 29)).alloc (.cells #[.int .i64 0, .int .i64 0, .string ⟨#[]⟩] 43)).heap.size := by simp
  have x : Blk (((w.alloc (.cells #[.int .i64 n.next, .slice A m c] 29)).alloc (.cells #[.int .i64 0, .slice none 0 0] 29)).alloc (.cells #[.int .i64 0, .int .i64 0, .string ⟨#[]⟩] 43)) w.heap.size 29 [.int .i64 n.next, .slice A m c] := (((Blk.new w #[.int .i64 n.next, .slice A m c] 29 (by first | rfl | simp)).alloc (.cells #[.int .i64 0, .slice none 0 0] 29)).alloc (.cells #[.int .i64 0, .int .i64 0, .string ⟨#[]⟩] 43))
  have y : Blk (((w.alloc (.cells #[.int .i64 n.next, .slice A m c] 29)).alloc (.cells #[.int .i64 0, .slice none 0 0] 29)).alloc (.cells #[.int .i64 0, .int .i64 0, .string ⟨#[]⟩] 43)) (w.heap.size + 1) 29 [.int .i64 0, .slice none 0 0] := ((Blk.new (w.alloc (.cells #[.int .i64 n.next, .slice A m c] 29)) #[.int .i64 0, .slice none 0 0] 29 (by first | rfl | simp)).alloc (.cells #[.int .i64 0, .int .i64 0, .string ⟨#[]⟩] 43))
  have f : Blk (((w.alloc (.cells #[.int .i64 n.next, .slice A m c] 29)).alloc (.cells #[.int .i64 0, .slice none 0 0] 29)).alloc (.cells #[.int .i64 0, .int .i64 0, .string ⟨#[]⟩] 43)) (w.heap.size + 2) 43 [.int .i64 0, .int .i64 0, .string ⟨#[]⟩] := (Blk.new ((w.alloc (.cells #[.int .i64 n.next, .slice A m c] 29)).alloc (.cells #[.int .i64 0, .slice none 0 0] 29)) #[.int .i64 0, .int .i64 0, .string ⟨#[]⟩] 43 (by first | rfl | simp))
  obtain ⟨ok, hok⟩ : ∃ ok, netOk n = ok := ⟨_, rfl⟩
  have Hok := Lib.hid hok
  obtain ⟨fa, hfa⟩ : ∃ fa, flAt n.list i = fa := ⟨_, rfl⟩
  have Hfa := Lib.hid hfa
  clear hok hfa
  go_enter Try.func26, Try.ntmps26
  go_wp2_with fail
  generalize (((w.alloc (.cells #[.int .i64 n.next, .slice A m c] 29)).alloc (.cells #[.int .i64 0, .slice none 0 0] 29)).alloc (.cells #[.int .i64 0, .int .i64 0, .string ⟨#[]⟩] 43)) = W0 at *
  refine (netOk_i _ n _ B (by exact hr0.keep (keepE' hW0 hB)) (by omega) (by rw [Hl.out]; omega)).mono ?_
  rw [Hok.out]
  rintro e w1 ⟨rfl, hE1⟩
  have hX1 := hW0.trans hE1
  have hz10 := hE1.size
  replace x := x.ext hE1
  replace y := y.ext hE1
  replace f := f.ext hE1
  have hlx := x.lt
  have hly := y.lt
  have hlf := f.lt
  clear hE1 hW0
  obtain ⟨x_p0, x_f0⟩ := x.at 0 _ rfl
  obtain ⟨x_p1, x_f1⟩ := x.at 1 _ rfl
  obtain ⟨y_p0, y_f0⟩ := y.at 0 _ rfl
  obtain ⟨y_p1, y_f1⟩ := y.at 1 _ rfl
  obtain ⟨f_p0, f_f0⟩ := f.at 0 _ rfl
  obtain ⟨f_p1, f_f1⟩ := f.at 1 _ rfl
  obtain ⟨f_p2, f_f2⟩ := f.at 2 _ rfl
  cases ok with
  | false =>
    have hf : Hid (netTake n i = (zeroN, zeroF, 1)) := by show _ = _; exact netTake_bad Hok.out
    go_wp2
    rw [hf.out]
    exact bodyPost_ret (v := .tuple #[.agg #[.int .i64 0, .slice none 0 0], .agg #[.int .i64 0, .int .i64 0, .string ⟨#[]⟩], .int .i64 1]) (by simp [results, Try.results26, go_sem, y_p0, y_p1, f_p0, f_p1, f_p2]) rfl ⟨_, rfl, ⟨_, rfl, OwnS.nil _⟩, by repeat' (first | with_reducible exact Ext.refl _ | with_reducible assumption | with_reducible refine Ext.set ?_ ?_ _ _ | with_reducible refine Ext.alloc ?_ _ | with_reducible refine Ext.drew ?_ | with_reducible refine Ext.drewN ?_ _ | with_reducible refine Ext.trans ?_ (by with_reducible assumption) | omega | (simp; done) | (simp; omega))⟩
  | true =>
    obtain ⟨h1, h2, h3⟩ := netOk_parts Hok.out
    rw [Hl.out] at h3
    go_wp2_with fail
    refine (copyNet_i _ n _ B (by exact hr0.keep (keepE' hX1 hB)) (by omega) (by rw [Hl.out]; omega)).mono ?_
    rintro e w2 ⟨v2, rfl, o2, hE2⟩
    obtain ⟨u2, rfl, k2⟩ := o2
    obtain ⟨A2, m2, c2, hv2, hl2, ow2⟩ := k2
    subst hv2
    have hmm : m = m2 := by rw [← Hl.out]; exact hl2
    subst hmm
    clear hl2
    have hz2 := hE2.size
    have hX2 := hX1.trans hE2
    clear x_p0 x_f0 x_p1 x_f1 y_p0 y_f0 y_p1 y_f1 f_p0 f_f0 f_p1 f_f1 f_p2 f_f2
    replace x := x.ext hE2
    replace y := y.ext hE2
    replace f := f.ext hE2
    clear hE2
    have hW2 : Ext w2 (w2.alloc (.cells #[.int .i64 n.next, .slice A2 m c2] 29)) := by repeat' (first | with_reducible exact Ext.refl _ | with_reducible assumption | with_reducible refine Ext.set ?_ ?_ _ _ | with_reducible refine Ext.alloc ?_ _ | with_reducible refine Ext.drew ?_ | with_reducible refine Ext.drewN ?_ _ | with_reducible refine Ext.trans ?_ (by with_reducible assumption) | omega | (simp; done) | (simp; omega))
    have zW2 : w2.heap.size + 1 ≤ (w2.alloc (.cells #[.int .i64 n.next, .slice A2 m c2] 29)).heap.size := by simp
    have q : Blk (w2.alloc (.cells #[.int .i64 n.next, .slice A2 m c2] 29)) w2.heap.size 29 [.int .i64 n.next, .slice A2 m c2] := (Blk.new w2 #[.int .i64 n.next, .slice A2 m c2] 29 (by first | rfl | simp))
    replace x := x.ext hW2
    replace y := y.ext hW2
    replace f := f.ext hW2
    replace ow2 := hW2.own ow2 (Nat.le_refl _)
    replace hX2 := hX2.trans hW2
    obtain ⟨x_p0, x_f0⟩ := x.at 0 _ rfl
    obtain ⟨x_p1, x_f1⟩ := x.at 1 _ rfl
    obtain ⟨y_p0, y_f0⟩ := y.at 0 _ rfl
    obtain ⟨y_p1, y_f1⟩ := y.at 1 _ rfl
    obtain ⟨f_p0, f_f0⟩ := f.at 0 _ rfl
    obtain ⟨f_p1, f_f1⟩ := f.at 1 _ rfl
    obtain ⟨f_p2, f_f2⟩ := f.at 2 _ rfl
    obtain ⟨q_p0, q_f0⟩ := q.at 0 _ rfl
    obtain ⟨q_p1, q_f1⟩ := q.at 1 _ rfl
    go_wp2_with fail
    clear hW2
    generalize (w2.alloc (.cells #[.int .i64 n.next, .slice A2 m c2] 29)) = W2 at *
    refine (isFlight_i _ n i _ B (by exact hr0.keep (keepE' hX2 hB)) (by rw [Hl.out]; omega)).mono ?_
    rw [Hfa.out]
    rintro e w3 ⟨rfl, hE3⟩
    have hz3 := hE3.size
    have hX3 := hX2.trans hE3
    replace ow2 := hE3.own ow2 (by omega)
    clear x_p0 x_f0 x_p1 x_f1 y_p0 y_f0 y_p1 y_f1 f_p0 f_f0 f_p1 f_f1 f_p2 f_f2 q_p0 q_f0 q_p1 q_f1
    replace x := x.ext hE3
    replace y := y.ext hE3
    replace f := f.ext hE3
    replace q := q.ext hE3
    obtain ⟨x_p0, x_f0⟩ := x.at 0 _ rfl
    obtain ⟨x_p1, x_f1⟩ := x.at 1 _ rfl
    obtain ⟨y_p0, y_f0⟩ := y.at 0 _ rfl
    obtain ⟨y_p1, y_f1⟩ := y.at 1 _ rfl
    obtain ⟨f_p0, f_f0⟩ := f.at 0 _ rfl
    obtain ⟨f_p1, f_f1⟩ := f.at 1 _ rfl
    obtain ⟨f_p2, f_f2⟩ := f.at 2 _ rfl
    obtain ⟨q_p0, q_f0⟩ := q.at 0 _ rfl
    obtain ⟨q_p1, q_f1⟩ := q.at 1 _ rfl
    clear hE3
    have hlx := x.lt
    have hly := y.lt
    have hlf := f.lt
    have hlq := q.lt
    cases fa with
    | none =>
      have hf : Hid (netTake n i = (n, zeroF, 2)) := by show _ = _; exact netTake_none Hok.out Hfa.out
      go_wp2
      rw [hf.out]
      exact bodyPost_ret (v := .tuple #[.agg #[.int .i64 n.next, .slice A2 m c2], .agg #[.int .i64 0, .int .i64 0, .string ⟨#[]⟩], .int .i64 2]) (by simp [results, Try.results26, go_sem, y_p0, y_p1, f_p0, f_p1, f_p2]) rfl ⟨_, rfl, ⟨_, rfl, (O_FlightS.keep (OwnS.of ow2 Hl.out) (show Kp _ _ _ _ by repeat' (first | with_reducible exact Kp.refl _ _ _ | with_reducible assumption | with_reducible refine Kp.set ?_ ?_ _ _ | with_reducible refine Kp.alloc ?_ ?_ _ | with_reducible refine Kp.drew ?_ | with_reducible refine Kp.drewN ?_ _ | with_reducible refine Kp.ext ?_ ?_ (by with_reducible assumption) | with_reducible refine Kp.fr ?_ ?_ ?_ (by with_reducible assumption) | omega | (simp; done) | (simp; omega)))).wide (by omega) (by first | (simp; done) | (simp; omega))⟩, by repeat' (first | with_reducible exact Ext.refl _ | with_reducible assumption | with_reducible refine Ext.set ?_ ?_ _ _ | with_reducible refine Ext.alloc ?_ _ | with_reducible refine Ext.drew ?_ | with_reducible refine Ext.drewN ?_ _ | with_reducible refine Ext.trans ?_ (by with_reducible assumption) | omega | (simp; done) | (simp; omega))⟩
    | some fl =>
      obtain ⟨k, hk0, hk, hfl⟩ := flAt_some Hfa.out
      subst hk0
      have hf : Hid (netTake n (k : Int) = (⟨n.next, offL n.list k⟩, fl, 0)) := by show _ = _; exact netTake_in Hok.out Hfa.out
      rw [Hl.out] at hk
      have Hfl := Lib.hid hfl
      clear hfl
      have hk1 : (k : Int) < (m : Int) := by omega
      go_wp2_with fail
      refine (deleteFlight_any A2 m c2 k n.list _ _ _ ow2 Hl.out hk (by omega)).mono ?_
      rintro e w4 ⟨rfl, o4, hg4⟩
      have hFr : Fr _ _ _ w4 := Fr.of_grown hg4 (fun g h => ow2.lt g h)
      have hX4 : Ext w w4 := hX3.grown hg4 (fun g h => by have := (ow2.lt g h).1; omega)
      have hz4 := hg4.size
      clear x_p0 x_f0 x_p1 x_f1 y_p0 y_f0 y_p1 y_f1 f_p0 f_f0 f_p1 f_f1 f_p2 f_f2 q_p0 q_f0 q_p1 q_f1
      replace x := x.fr hFr (.inl (by omega))
      replace y := y.fr hFr (.inl (by omega))
      replace f := f.fr hFr (.inl (by omega))
      replace q := q.fr hFr (.inr (by omega))
      clear ow2 hFr hg4
      have k5 : O_FlightS (w4.setCell ⟨w2.heap.size, 1, none⟩ (.slice A2 (m - 1) c2)) _ _ _ (offL n.list k) := OwnS.dodge (OwnS.of o4 (by rw [List.length_append, List.length_take, List.length_drop, Hl.out]; omega)) q.bt (by decide) 1 (.slice A2 (m - 1) c2)
      have hX5 : Ext w (w4.setCell ⟨w2.heap.size, 1, none⟩ (.slice A2 (m - 1) c2)) := hX4.set (by omega) _ _
      have hz5 : w4.heap.size ≤ (w4.setCell ⟨w2.heap.size, 1, none⟩ (.slice A2 (m - 1) c2)).heap.size := by simp
      obtain ⟨x_p0, x_f0⟩ := x.at 0 _ rfl
      obtain ⟨x_p1, x_f1⟩ := x.at 1 _ rfl
      obtain ⟨y_p0, y_f0⟩ := y.at 0 _ rfl
      obtain ⟨y_p1, y_f1⟩ := y.at 1 _ rfl
      obtain ⟨f_p0, f_f0⟩ := f.at 0 _ rfl
      obtain ⟨f_p1, f_f1⟩ := f.at 1 _ rfl
      obtain ⟨f_p2, f_f2⟩ := f.at 2 _ rfl
      obtain ⟨q_p0, q_f0⟩ := q.at 0 _ rfl
      obtain ⟨q_p1, q_f1⟩ := q.at 1 _ rfl
      go_upto_region 7 with (fail)
      clear x_p0 x_f0 x_p1 x_f1 y_p0 y_f0 y_p1 y_f1 f_p0 f_f0 f_p1 f_f1 f_p2 f_f2 q_p0 q_f0 q_p1 q_f1
      replace x := x.far (h := w2.heap.size) (by omega) 1 (.slice A2 (m - 1) c2)
      replace y := y.far (h := w2.heap.size) (by omega) 1 (.slice A2 (m - 1) c2)
      replace f := f.far (h := w2.heap.size) (by omega) 1 (.slice A2 (m - 1) c2)
      replace q := q.set 1 (.slice A2 (m - 1) c2)
      clear o4
      generalize (w4.setCell ⟨w2.heap.size, 1, none⟩ (.slice A2 (m - 1) c2)) = w5 at *
      obtain ⟨b, off, fl', rfl, hb, hx1, hc0, hc1, hc2⟩ := (hX5.rd hrd hB).Flight Hl.out hk
      obtain rfl : fl' = fl := by rw [Hfl.out] at hx1; exact (Option.some.inj hx1).symm
      clear hx1
      obtain ⟨x_p0, x_f0⟩ := x.at 0 _ rfl
      obtain ⟨x_p1, x_f1⟩ := x.at 1 _ rfl
      obtain ⟨y_p0, y_f0⟩ := y.at 0 _ rfl
      obtain ⟨y_p1, y_f1⟩ := y.at 1 _ rfl
      obtain ⟨f_p0, f_f0⟩ := f.at 0 _ rfl
      obtain ⟨f_p1, f_f1⟩ := f.at 1 _ rfl
      obtain ⟨f_p2, f_f2⟩ := f.at 2 _ rfl
      obtain ⟨q_p0, q_f0⟩ := q.at 0 _ rfl
      obtain ⟨q_p1, q_f1⟩ := q.at 1 _ rfl
      refine wp_region_held_drew (S := (fun w' => w'.cell? ⟨w2.heap.size, 0, none⟩ = some (.int .i64 n.next) ∧ w'.cell? ⟨w2.heap.size, 1, none⟩ = some (.slice A2 (m - 1) c2) ∧ w'.cell? ⟨w.heap.size, 1, none⟩ = some (.slice (some ⟨b, off, none⟩) m c) ∧ w'.cell? ⟨b, off + k * 3, none⟩ = some (.int .i64 fl'.id) ∧ w'.cell? ⟨b, off + k * 3 + 1, none⟩ = some (.int .i64 fl'.to) ∧ w'.cell? ⟨b, off + k * 3 + 2, none⟩ = some (.string fl'.bytes))) (by kernel_rfl) ⟨q_p0, q_p1, x_p1, hc0, hc1, hc2⟩ (fun hHeld => ?_)
      refine wpAnyH_take (i := 0) (v := ?_) rfl (by kernel_rfl) (by kernel_rfl) (by kernel_rfl) (fun _ _ _ h => h) (Or.inl ⟨by rfl, ?_⟩) (by assumption) ?_
      rotate_left
      · (intro w hSw; (try dsimp only at hSw); go_simp; (try with_reducible rfl))
      try simp only [Act.put, List.getElem_toArray, List.getElem_cons_zero, List.getElem_cons_succ, List.setIfInBounds_toArray, List.set_cons_zero, List.set_cons_succ]
      refine wpAnyH_take (i := 1) (v := ?_) rfl (by kernel_rfl) (by kernel_rfl) (by kernel_rfl) (fun _ _ _ h => h) (Or.inl ⟨by rfl, ?_⟩) (by assumption) ?_
      rotate_left
      · (intro w hSw; (try dsimp only at hSw); go_simp; (try with_reducible rfl))
      try simp only [Act.put, List.getElem_toArray, List.getElem_cons_zero, List.getElem_cons_succ, List.setIfInBounds_toArray, List.set_cons_zero, List.set_cons_succ]
      refine wpAnyH_take (i := 2) (v := ?_) rfl (by kernel_rfl) (by kernel_rfl) (by kernel_rfl) (fun _ _ _ h => h) (Or.inl ⟨by rfl, ?_⟩) (by assumption) ?_
      rotate_left
      · (intro w hSw; (try dsimp only at hSw); go_simp; (try with_reducible rfl))
      try simp only [Act.put, List.getElem_toArray, List.getElem_cons_zero, List.getElem_cons_succ, List.setIfInBounds_toArray, List.set_cons_zero, List.set_cons_succ]
      refine wpAnyH_take (i := 3) (v := ?_) rfl (by kernel_rfl) (by kernel_rfl) (by kernel_rfl) (fun _ _ _ h => h) (Or.inl ⟨by rfl, ?_⟩) (by assumption) ?_
      rotate_left
      · (intro w hSw; (try dsimp only at hSw); go_simp; (try with_reducible rfl))
      try simp only [Act.put, List.getElem_toArray, List.getElem_cons_zero, List.getElem_cons_succ, List.setIfInBounds_toArray, List.set_cons_zero, List.set_cons_succ]
      refine wpAnyH_take (i := 4) (v := ?_) rfl (by kernel_rfl) (by kernel_rfl) (by kernel_rfl) (fun _ _ _ h => h) (Or.inl ⟨by rfl, ?_⟩) (by assumption) ?_
      rotate_left
      · (intro w hSw; (try dsimp only at hSw); go_simp; (try with_reducible rfl))
      try simp only [Act.put, List.getElem_toArray, List.getElem_cons_zero, List.getElem_cons_succ, List.setIfInBounds_toArray, List.set_cons_zero, List.set_cons_succ]
      refine wpAnyH_take (i := 5) (v := ?_) rfl (by kernel_rfl) (by kernel_rfl) (by kernel_rfl) (fun _ _ _ h => h) (Or.inl ⟨by rfl, ?_⟩) (by assumption) ?_
      rotate_left
      · (intro w hSw; (try dsimp only at hSw); go_simp; (try with_reducible rfl))
      try simp only [Act.put, List.getElem_toArray, List.getElem_cons_zero, List.getElem_cons_succ, List.setIfInBounds_toArray, List.set_cons_zero, List.set_cons_succ]
      refine wpAnyH_ready (rs := [6]) (by kernel_rfl) (by simp) ?_
      refine AllReadyH.cons rfl (fun K hK => ?_) AllReadyH.nil
      go_simp
      (try dsimp only)
      refine hK.out _ _ ⟨(by (try rw [cell_drew]); (repeat rw [cell_set_ne _ _ _ _ _ _ (by omega)]); exact q_p0), (by (try rw [cell_drew]); (repeat rw [cell_set_ne _ _ _ _ _ _ (by omega)]); exact q_p1), (by (try rw [cell_drew]); (repeat rw [cell_set_ne _ _ _ _ _ _ (by omega)]); exact x_p1), (by (try rw [cell_drew]); (repeat rw [cell_set_ne _ _ _ _ _ _ (by omega)]); exact hc0), (by (try rw [cell_drew]); (repeat rw [cell_set_ne _ _ _ _ _ _ (by omega)]); exact hc1), (by (try rw [cell_drew]); (repeat rw [cell_set_ne _ _ _ _ _ _ (by omega)]); exact hc2)⟩ (fun hHeld => ?_)
      clear hK K
      try simp only [Act.put, List.getElem_toArray, List.getElem_cons_zero, List.getElem_cons_succ, List.setIfInBounds_toArray, List.set_cons_zero, List.set_cons_succ]
      refine wpAnyH_ready (rs := [7]) (by kernel_rfl) (by simp) ?_
      refine AllReadyH.cons rfl (fun K hK => ?_) AllReadyH.nil
      go_simp
      (try dsimp only)
      refine hK.out _ _ ⟨(by (try rw [cell_drew]); (repeat rw [cell_set_ne _ _ _ _ _ _ (by omega)]); exact q_p0), (by (try rw [cell_drew]); (repeat rw [cell_set_ne _ _ _ _ _ _ (by omega)]); exact q_p1), (by (try rw [cell_drew]); (repeat rw [cell_set_ne _ _ _ _ _ _ (by omega)]); exact x_p1), (by (try rw [cell_drew]); (repeat rw [cell_set_ne _ _ _ _ _ _ (by omega)]); exact hc0), (by (try rw [cell_drew]); (repeat rw [cell_set_ne _ _ _ _ _ _ (by omega)]); exact hc1), (by (try rw [cell_drew]); (repeat rw [cell_set_ne _ _ _ _ _ _ (by omega)]); exact hc2)⟩ (fun hHeld => ?_)
      clear hK K
      try simp only [Act.put, List.getElem_toArray, List.getElem_cons_zero, List.getElem_cons_succ, List.setIfInBounds_toArray, List.set_cons_zero, List.set_cons_succ]
      refine wpAnyH_take (i := 8) (v := ?_) rfl (by kernel_rfl) (by kernel_rfl) (by kernel_rfl) (fun _ _ _ h => h) (Or.inl ⟨by rfl, ?_⟩) (by assumption) ?_
      rotate_left
      · (intro w hSw; (try dsimp only at hSw); go_simp; (try with_reducible rfl))
      try simp only [Act.put, List.getElem_toArray, List.getElem_cons_zero, List.getElem_cons_succ, List.setIfInBounds_toArray, List.set_cons_zero, List.set_cons_succ]
      refine wpAnyH_done (by kernel_rfl) ?_ _
      clear hHeld
      go_wp2
      rw [hf.out]
      exact bodyPost_ret (v := .tuple #[.agg #[.int .i64 n.next, .slice A2 (m - 1) c2], .agg #[.int .i64 fl'.id, .int .i64 fl'.to, .string fl'.bytes], .int .i64 0]) (by simp [results, Try.results26, go_sem, y_p0, y_p1, f_p0, f_p1, f_p2]) rfl ⟨_, rfl, ⟨_, rfl, (O_FlightS.keep k5 (show Kp _ _ _ _ by repeat' (first | with_reducible exact Kp.refl _ _ _ | with_reducible assumption | with_reducible refine Kp.set ?_ ?_ _ _ | with_reducible refine Kp.alloc ?_ ?_ _ | with_reducible refine Kp.drew ?_ | with_reducible refine Kp.drewN ?_ _ | with_reducible refine Kp.ext ?_ ?_ (by with_reducible assumption) | with_reducible refine Kp.fr ?_ ?_ ?_ (by with_reducible assumption) | omega | (simp; done) | (simp; omega)))).wide (by omega) (by first | (simp; done) | (simp; omega))⟩, by repeat' (first | with_reducible exact Ext.refl _ | with_reducible assumption | with_reducible refine Ext.set ?_ ?_ _ _ | with_reducible refine Ext.alloc ?_ _ | with_reducible refine Ext.drew ?_ | with_reducible refine Ext.drewN ?_ _ | with_reducible refine Ext.trans ?_ (by with_reducible assumption) | omega | (simp; done) | (simp; omega))⟩

set_option maxRecDepth 100000 in
set_option maxHeartbeats 8000000 in
theorem netTake_s (v : Value) (n : NetD) (i : Int) (w : World) (B : Nat) (hr : R_Net w B v n) (hB : B ≤ w.heap.size) (hsz : n.list.length ≤ 1048576) :
    Calls Try.prog 25 #[v, .int .i64 i] w fun e w' => ∃ v', e = .returned (.tuple #[v', .agg #[.int .i64 (netTake n i).2.1.id, .int .i64 (FlightD.to (netTake n i).2.1), .string (netTake n i).2.1.bytes], .int .i64 (netTake n i).2.2]) ∧ O_Net w' w.heap.size w'.heap.size v' (netTake n i).1 ∧ Ext w w' := by
  have hr0 := hr
  obtain ⟨u, rfl, A, m, c, rfl, hl, hmc, hcm, hrd⟩ := hr
  rw [hl] at hsz
  have Hl := Lib.hid hl
  obtain ⟨i0, hi0, hz0, hz1, hz2⟩ := info_parts info_Flight
  clear hl
  have hW0 : Ext w (((w.alloc (.cells #[.int .i64 n.next, .slice A m c] 29)).alloc (.cells #[.int .i64 0, .slice none 0 0] 29)).alloc (.cells #[.int .i64 0, .int .i64 0, .string ⟨#[]⟩] 43)) := by repeat' (first | with_reducible exact Ext.refl _ | with_reducible assumption | with_reducible refine Ext.set ?_ ?_ _ _ | with_reducible refine Ext.alloc ?_ _ | with_reducible refine Ext.drew ?_ | with_reducible refine Ext.drewN ?_ _ | with_reducible refine Ext.trans ?_ (by with_reducible assumption) | omega | (simp; done) | (simp; omega))
  have zW0 : w.heap.size + 3 ≤ (((w.alloc (.cells #[.int .i64 n.next, .slice A m c] 29)).alloc (.cells #[.int .i64 0, .slice none 0 0] 29)).alloc (.cells #[.int .i64 0, .int .i64 0, .string ⟨#[]⟩] 43)).heap.size := by simp
  have x : Blk (((w.alloc (.cells #[.int .i64 n.next, .slice A m c] 29)).alloc (.cells #[.int .i64 0, .slice none 0 0] 29)).alloc (.cells #[.int .i64 0, .int .i64 0, .string ⟨#[]⟩] 43)) w.heap.size 29 [.int .i64 n.next, .slice A m c] := (((Blk.new w #[.int .i64 n.next, .slice A m c] 29 (by first | rfl | simp)).alloc (.cells #[.int .i64 0, .slice none 0 0] 29)).alloc (.cells #[.int .i64 0, .int .i64 0, .string ⟨#[]⟩] 43))
  have y : Blk (((w.alloc (.cells #[.int .i64 n.next, .slice A m c] 29)).alloc (.cells #[.int .i64 0, .slice none 0 0] 29)).alloc (.cells #[.int .i64 0, .int .i64 0, .string ⟨#[]⟩] 43)) (w.heap.size + 1) 29 [.int .i64 0, .slice none 0 0] := ((Blk.new (w.alloc (.cells #[.int .i64 n.next, .slice A m c] 29)) #[.int .i64 0, .slice none 0 0] 29 (by first | rfl | simp)).alloc (.cells #[.int .i64 0, .int .i64 0, .string ⟨#[]⟩] 43))
  have f : Blk (((w.alloc (.cells #[.int .i64 n.next, .slice A m c] 29)).alloc (.cells #[.int .i64 0, .slice none 0 0] 29)).alloc (.cells #[.int .i64 0, .int .i64 0, .string ⟨#[]⟩] 43)) (w.heap.size + 2) 43 [.int .i64 0, .int .i64 0, .string ⟨#[]⟩] := (Blk.new ((w.alloc (.cells #[.int .i64 n.next, .slice A m c] 29)).alloc (.cells #[.int .i64 0, .slice none 0 0] 29)) #[.int .i64 0, .int .i64 0, .string ⟨#[]⟩] 43 (by first | rfl | simp))
  obtain ⟨ok, hok⟩ : ∃ ok, netOk n = ok := ⟨_, rfl⟩
  have Hok := Lib.hid hok
  obtain ⟨fa, hfa⟩ : ∃ fa, flAt n.list i = fa := ⟨_, rfl⟩
  have Hfa := Lib.hid hfa
  clear hok hfa
  go_enter Try.func25, Try.ntmps25
  go_wp2_with fail
  generalize (((w.alloc (.cells #[.int .i64 n.next, .slice A m c] 29)).alloc (.cells #[.int .i64 0, .slice none 0 0] 29)).alloc (.cells #[.int .i64 0, .int .i64 0, .string ⟨#[]⟩] 43)) = W0 at *
  refine (netOk_s _ n _ B (by exact hr0.keep (keepE' hW0 hB)) (by omega) (by rw [Hl.out]; omega)).mono ?_
  rw [Hok.out]
  rintro e w1 ⟨rfl, hE1⟩
  have hX1 := hW0.trans hE1
  have hz10 := hE1.size
  replace x := x.ext hE1
  replace y := y.ext hE1
  replace f := f.ext hE1
  have hlx := x.lt
  have hly := y.lt
  have hlf := f.lt
  clear hE1 hW0
  obtain ⟨x_p0, x_f0⟩ := x.at 0 _ rfl
  obtain ⟨x_p1, x_f1⟩ := x.at 1 _ rfl
  obtain ⟨y_p0, y_f0⟩ := y.at 0 _ rfl
  obtain ⟨y_p1, y_f1⟩ := y.at 1 _ rfl
  obtain ⟨f_p0, f_f0⟩ := f.at 0 _ rfl
  obtain ⟨f_p1, f_f1⟩ := f.at 1 _ rfl
  obtain ⟨f_p2, f_f2⟩ := f.at 2 _ rfl
  cases ok with
  | false =>
    have hf : Hid (netTake n i = (zeroN, zeroF, 1)) := by show _ = _; exact netTake_bad Hok.out
    go_wp2
    rw [hf.out]
    exact bodyPost_ret (v := .tuple #[.agg #[.int .i64 0, .slice none 0 0], .agg #[.int .i64 0, .int .i64 0, .string ⟨#[]⟩], .int .i64 1]) (by simp [results, Try.results25, go_sem, y_p0, y_p1, f_p0, f_p1, f_p2]) rfl ⟨_, rfl, ⟨_, rfl, OwnS.nil _⟩, by repeat' (first | with_reducible exact Ext.refl _ | with_reducible assumption | with_reducible refine Ext.set ?_ ?_ _ _ | with_reducible refine Ext.alloc ?_ _ | with_reducible refine Ext.drew ?_ | with_reducible refine Ext.drewN ?_ _ | with_reducible refine Ext.trans ?_ (by with_reducible assumption) | omega | (simp; done) | (simp; omega))⟩
  | true =>
    obtain ⟨h1, h2, h3⟩ := netOk_parts Hok.out
    rw [Hl.out] at h3
    cases fa with
    | none =>
      have hf : Hid (netTake n i = (n, zeroF, 2)) := by show _ = _; exact netTake_none Hok.out Hfa.out
      have hno := flAt_none Hfa.out
      rw [Hl.out] at hno
      have hw : decide (i < 0) = true ∨ decide (i < 0) = false ∧ decide ((m : Int) ≤ i) = true := by
        by_cases h : i < 0
        · exact .inl (by simpa using h)
        · exact .inr ⟨by simpa using h, by simp; omega⟩
      clear hno
      rcases hw with d1 | ⟨d1, d2⟩
      all_goals
        go_wp2_with fail
        refine (l5Copy_s _ n _ B (by exact hr0.keep (keepE' hX1 hB)) (by omega) (by rw [Hl.out]; omega)).mono ?_
        rintro e w2 ⟨v2, rfl, o2, hE2⟩
        obtain ⟨u2, rfl, k2⟩ := o2
        obtain ⟨A2, m2, c2, hv2, hl2, ow2⟩ := k2
        subst hv2
        have hmm : m = m2 := by rw [← Hl.out]; exact hl2
        subst hmm
        clear hl2
        have hz2' := hE2.size
        have hX2 := hX1.trans hE2
        clear x_p0 x_f0 x_p1 x_f1 y_p0 y_f0 y_p1 y_f1 f_p0 f_f0 f_p1 f_f1 f_p2 f_f2
        replace x := x.ext hE2
        replace y := y.ext hE2
        replace f := f.ext hE2
        obtain ⟨x_p0, x_f0⟩ := x.at 0 _ rfl
        obtain ⟨x_p1, x_f1⟩ := x.at 1 _ rfl
        obtain ⟨y_p0, y_f0⟩ := y.at 0 _ rfl
        obtain ⟨y_p1, y_f1⟩ := y.at 1 _ rfl
        obtain ⟨f_p0, f_f0⟩ := f.at 0 _ rfl
        obtain ⟨f_p1, f_f1⟩ := f.at 1 _ rfl
        obtain ⟨f_p2, f_f2⟩ := f.at 2 _ rfl
        clear hE2
        go_wp2
        rw [hf.out]
        exact bodyPost_ret (v := .tuple #[.agg #[.int .i64 n.next, .slice A2 m c2], .agg #[.int .i64 0, .int .i64 0, .string ⟨#[]⟩], .int .i64 2]) (by simp [results, Try.results25, go_sem, y_p0, y_p1, f_p0, f_p1, f_p2]) rfl ⟨_, rfl, ⟨_, rfl, (O_FlightS.keep (OwnS.of ow2 Hl.out) (show Kp _ _ _ _ by repeat' (first | with_reducible exact Kp.refl _ _ _ | with_reducible assumption | with_reducible refine Kp.set ?_ ?_ _ _ | with_reducible refine Kp.alloc ?_ ?_ _ | with_reducible refine Kp.drew ?_ | with_reducible refine Kp.drewN ?_ _ | with_reducible refine Kp.ext ?_ ?_ (by with_reducible assumption) | with_reducible refine Kp.fr ?_ ?_ ?_ (by with_reducible assumption) | omega | (simp; done) | (simp; omega)))).wide (by omega) (by first | (simp; done) | (simp; omega))⟩, by repeat' (first | with_reducible exact Ext.refl _ | with_reducible assumption | with_reducible refine Ext.set ?_ ?_ _ _ | with_reducible refine Ext.alloc ?_ _ | with_reducible refine Ext.drew ?_ | with_reducible refine Ext.drewN ?_ _ | with_reducible refine Ext.trans ?_ (by with_reducible assumption) | omega | (simp; done) | (simp; omega))⟩
    | some fl =>
      obtain ⟨k, hk0, hk, hfl⟩ := flAt_some Hfa.out
      subst hk0
      have hf : Hid (netTake n (k : Int) = (⟨n.next, offL n.list k⟩, fl, 0)) := by show _ = _; exact netTake_in Hok.out Hfa.out
      rw [Hl.out] at hk
      have Hfl := Lib.hid hfl
      clear hfl
      have hk1 : (k : Int) < (m : Int) := by omega
      have d1 : decide ((k : Int) < 0) = false := by simp
      have d2 : decide ((m : Int) ≤ (k : Int)) = false := by simp; omega
      have d3 : decide (m ≤ k) = false := by simp; omega
      have hW2 : Ext w1 (w1.alloc (.cells #[.int .i64 n.next, .slice none 0 0] 29)) := by repeat' (first | with_reducible exact Ext.refl _ | with_reducible assumption | with_reducible refine Ext.set ?_ ?_ _ _ | with_reducible refine Ext.alloc ?_ _ | with_reducible refine Ext.drew ?_ | with_reducible refine Ext.drewN ?_ _ | with_reducible refine Ext.trans ?_ (by with_reducible assumption) | omega | (simp; done) | (simp; omega))
      have zW2 : w1.heap.size + 1 ≤ (w1.alloc (.cells #[.int .i64 n.next, .slice none 0 0] 29)).heap.size := by simp
      have q : Blk (w1.alloc (.cells #[.int .i64 n.next, .slice none 0 0] 29)) w1.heap.size 29 [.int .i64 n.next, .slice none 0 0] := (Blk.new w1 #[.int .i64 n.next, .slice none 0 0] 29 (by first | rfl | simp))
      go_upto_region 6 with (fail)
      clear x_p0 x_f0 x_p1 x_f1 y_p0 y_f0 y_p1 y_f1 f_p0 f_f0 f_p1 f_f1 f_p2 f_f2
      replace x := x.ext hW2
      replace y := y.ext hW2
      replace f := f.ext hW2
      have hX2 := hX1.trans hW2
      clear hW2
      generalize (w1.alloc (.cells #[.int .i64 n.next, .slice none 0 0] 29)) = W2 at *
      obtain ⟨x_p0, x_f0⟩ := x.at 0 _ rfl
      obtain ⟨x_p1, x_f1⟩ := x.at 1 _ rfl
      obtain ⟨y_p0, y_f0⟩ := y.at 0 _ rfl
      obtain ⟨y_p1, y_f1⟩ := y.at 1 _ rfl
      obtain ⟨f_p0, f_f0⟩ := f.at 0 _ rfl
      obtain ⟨f_p1, f_f1⟩ := f.at 1 _ rfl
      obtain ⟨f_p2, f_f2⟩ := f.at 2 _ rfl
      obtain ⟨q_p0, q_f0⟩ := q.at 0 _ rfl
      obtain ⟨q_p1, q_f1⟩ := q.at 1 _ rfl
      have hlx := x.lt
      have hly := y.lt
      have hlf := f.lt
      have hlq := q.lt
      go_wp2
      clear x_p0 x_f0 x_p1 x_f1 y_p0 y_f0 y_p1 y_f1 f_p0 f_f0 f_p1 f_f1 f_p2 f_f2 q_p0 q_f0 q_p1 q_f1
      have hlo : w.heap.size + 3 ≤ w1.heap.size := by omega
      go_loopw [8] (fun jv wr => ∃ (j m' : Nat) (A' : Option Addr) (c' : Nat), j ≤ m ∧ jv = .int .i64 j ∧ m' ≤ j ∧ Hid ((offL (n.list.take j) k).length = m') ∧ Blk wr w.heap.size 29 [.int .i64 n.next, .slice A m c] ∧ Blk wr (w.heap.size + 1) 29 [.int .i64 0, .slice none 0 0] ∧ Blk wr (w.heap.size + 2) 43 [.int .i64 0, .int .i64 0, .string ⟨#[]⟩] ∧ Blk wr w1.heap.size 29 [.int .i64 n.next, .slice A' m' c'] ∧ Own wr (w1.heap.size + 1) wr.heap.size 43 3 (.slice A' m' c') m' ((offL (n.list.take j) k).flatMap eFlight) ∧ w1.heap.size + 1 ≤ wr.heap.size ∧ Ext w wr) (fun jv _ => m - (intOf jv).toNat)
      case atStart => exact ⟨0, 0, none, 0, by omega, rfl, by omega, by simp [offL, Hid], x, y, f, q, by rw [show offL (n.list.take 0) k = [] from by simp [offL]]; exact Own.nil _ _ _ _ _ _, by omega, hX2⟩
      case round =>
        obtain ⟨j, m', A', c', hj, rfl, hm', hL, x, y, f, q, ow, hzr, hX⟩ := hrel
        have hlx := x.lt
        have hly := y.lt
        have hlf := f.lt
        have hlq := q.lt
        by_cases hlt : j < m
        · have hlt' : (j : Int) < (m : Int) := by omega
          obtain ⟨b, off, fx, rfl, hb, hx1, hc0, hc1, hc2⟩ := (hX.rd hrd hB).Flight Hl.out hlt
          have Hx := Lib.hid hx1
          clear hx1
          by_cases hjk : j = k
          · have e1 : ((j : Int) != (k : Int)) = false := by simp [hjk]
            have e2 : (j != k) = false := by simp [hjk]
            have hs : Hid (offL (n.list.take (j + 1)) k = offL (n.list.take j) k) := by show _ = _; rw [← hjk]; exact offL_snoc_eq Hx.out
            have hL' : Hid ((offL (n.list.take (j + 1)) k).length = m') := by show _ = _; rw [hs.out]; exact hL.out
            have ow' := ow
            rw [← hs.out] at ow'
            clear hjk ow
            obtain ⟨x_p0, x_f0⟩ := x.at 0 _ rfl
            obtain ⟨x_p1, x_f1⟩ := x.at 1 _ rfl
            go_wp2
            go_roundw
            case rel => exact ⟨j + 1, m', A', c', by omega, by go_num, by omega, hL', x, y, f, q, ow', hzr, hX⟩
            case measure => simp [intOf]; omega
          · have e1 : ((j : Int) != (k : Int)) = true := by simp; omega
            have e2 : (j != k) = true := by simp; omega
            have hs : Hid (offL (n.list.take (j + 1)) k = offL (n.list.take j) k ++ [fx]) := by show _ = _; exact offL_snoc_ne Hx.out hjk
            have hL' : Hid ((offL (n.list.take (j + 1)) k).length = m' + 1) := by show _ = _; rw [hs.out, List.length_append, hL.out]; rfl
            clear hjk
            have hm1 : m' + 1 ≤ maxLen := by unfold maxLen; omega
            have hm3 : (m' + 1) * 32 ≤ 140737488355328 := by omega
            have hpos : 0 < 3 := by omega
            obtain ⟨x_p0, x_f0⟩ := x.at 0 _ rfl
            obtain ⟨x_p1, x_f1⟩ := x.at 1 _ rfl
            obtain ⟨q_p0, q_f0⟩ := q.at 0 _ rfl
            obtain ⟨q_p1, q_f1⟩ := q.at 1 _ rfl
            go_upto_region 10 with (fail)
            refine wp_region_held_drew (S := (fun w' => w'.cell? ⟨w.heap.size, 1, none⟩ = some (.slice (some ⟨b, off, none⟩) m c) ∧ w'.cell? ⟨b, off + j * 3, none⟩ = some (.int .i64 fx.id) ∧ w'.cell? ⟨b, off + j * 3 + 1, none⟩ = some (.int .i64 fx.to) ∧ w'.cell? ⟨b, off + j * 3 + 2, none⟩ = some (.string fx.bytes))) (by kernel_rfl) ⟨x_p1, hc0, hc1, hc2⟩ (fun hHeld => ?_)
            refine wpAnyH_take (i := 0) (v := ?_) rfl (by kernel_rfl) (by kernel_rfl) (by kernel_rfl) (fun _ _ _ h => h) (Or.inl ⟨by rfl, ?_⟩) (by assumption) ?_
            rotate_left
            · (intro w hSw; (try dsimp only at hSw); go_simp; (try with_reducible rfl))
            try simp only [Act.put, List.getElem_toArray, List.getElem_cons_zero, List.getElem_cons_succ, List.setIfInBounds_toArray, List.set_cons_zero, List.set_cons_succ]
            refine wpAnyH_take (i := 2) (v := ?_) rfl (by kernel_rfl) (by kernel_rfl) (by kernel_rfl) (fun _ _ _ h => h) (Or.inl ⟨by rfl, ?_⟩) (by assumption) ?_
            rotate_left
            · (intro w hSw; (try dsimp only at hSw); go_simp; (try with_reducible rfl))
            try simp only [Act.put, List.getElem_toArray, List.getElem_cons_zero, List.getElem_cons_succ, List.setIfInBounds_toArray, List.set_cons_zero, List.set_cons_succ]
            refine wpAnyH_take (i := 3) (v := ?_) rfl (by kernel_rfl) (by kernel_rfl) (by kernel_rfl) (fun _ _ _ h => h) (Or.inl ⟨by rfl, ?_⟩) (by assumption) ?_
            rotate_left
            · (intro w hSw; (try dsimp only at hSw); go_simp; (try with_reducible rfl))
            try simp only [Act.put, List.getElem_toArray, List.getElem_cons_zero, List.getElem_cons_succ, List.setIfInBounds_toArray, List.set_cons_zero, List.set_cons_succ]
            refine wpAnyH_take (i := 4) (v := ?_) rfl (by kernel_rfl) (by kernel_rfl) (by kernel_rfl) (fun _ _ _ h => h) (Or.inl ⟨by rfl, ?_⟩) (by assumption) ?_
            rotate_left
            · (intro w hSw; (try dsimp only at hSw); go_simp; (try with_reducible rfl))
            try simp only [Act.put, List.getElem_toArray, List.getElem_cons_zero, List.getElem_cons_succ, List.setIfInBounds_toArray, List.set_cons_zero, List.set_cons_succ]
            refine wpAnyH_take (i := 5) (v := ?_) rfl (by kernel_rfl) (by kernel_rfl) (by kernel_rfl) (fun _ _ _ h => h) (Or.inl ⟨by rfl, ?_⟩) (by assumption) ?_
            rotate_left
            · (intro w hSw; (try dsimp only at hSw); go_simp; (try with_reducible rfl))
            try simp only [Act.put, List.getElem_toArray, List.getElem_cons_zero, List.getElem_cons_succ, List.setIfInBounds_toArray, List.set_cons_zero, List.set_cons_succ]
            refine wpAnyH_take (i := 6) (v := ?_) rfl (by kernel_rfl) (by kernel_rfl) (by kernel_rfl) (fun _ _ _ h => h) (Or.inl ⟨by rfl, ?_⟩) (by assumption) ?_
            rotate_left
            · (intro w hSw; (try dsimp only at hSw); go_simp; (try with_reducible rfl))
            try simp only [Act.put, List.getElem_toArray, List.getElem_cons_zero, List.getElem_cons_succ, List.setIfInBounds_toArray, List.set_cons_zero, List.set_cons_succ]
            refine wpAnyH_ready (rs := [1, 7]) (by kernel_rfl) (by simp) ?_
            refine AllReadyH.cons rfl (fun K hK => ?_) (AllReadyH.cons rfl (fun K hK => ?_) AllReadyH.nil)
            go_simp
            (try dsimp only)
            refine hK.out _ _ ⟨x_p1, hc0, hc1, hc2⟩ (fun hHeld => ?_)
            clear hK K
            try simp only [Act.put, List.getElem_toArray, List.getElem_cons_zero, List.getElem_cons_succ, List.setIfInBounds_toArray, List.set_cons_zero, List.set_cons_succ]
            refine wpAnyH_ready (rs := [7]) (by kernel_rfl) (by simp) ?_
            refine AllReadyH.cons rfl (fun K hK => ?_) AllReadyH.nil
            go_simp
            (try dsimp only)
            refine hK.out _ _ ⟨Ext.cellAt ((Ext.refl _).alloc _) x_p1, Ext.cellAt ((Ext.refl _).alloc _) hc0, Ext.cellAt ((Ext.refl _).alloc _) hc1, Ext.cellAt ((Ext.refl _).alloc _) hc2⟩ (fun hHeld => ?_)
            clear hK K
            try simp only [Act.put, List.getElem_toArray, List.getElem_cons_zero, List.getElem_cons_succ, List.setIfInBounds_toArray, List.set_cons_zero, List.set_cons_succ]
            rotate_left
            go_simp
            (try dsimp only)
            refine hK.out _ _ ⟨Ext.cellAt ((Ext.refl _).alloc _) x_p1, Ext.cellAt ((Ext.refl _).alloc _) hc0, Ext.cellAt ((Ext.refl _).alloc _) hc1, Ext.cellAt ((Ext.refl _).alloc _) hc2⟩ (fun hHeld => ?_)
            clear hK K
            try simp only [Act.put, List.getElem_toArray, List.getElem_cons_zero, List.getElem_cons_succ, List.setIfInBounds_toArray, List.set_cons_zero, List.set_cons_succ]
            have q_p9 := Ext.cellAt ((Ext.refl wr.drew).alloc (.cells #[.int .i64 fx.id, .int .i64 fx.to, .string fx.bytes] 43)) q_p1
            refine wpAnyH_ready (rs := [1]) (by kernel_rfl) (by simp) ?_
            refine AllReadyH.cons rfl (fun K hK => ?_) AllReadyH.nil
            go_simp
            (try dsimp only)
            refine hK.out _ _ ⟨Ext.cellAt ((Ext.refl _).alloc _) x_p1, Ext.cellAt ((Ext.refl _).alloc _) hc0, Ext.cellAt ((Ext.refl _).alloc _) hc1, Ext.cellAt ((Ext.refl _).alloc _) hc2⟩ (fun hHeld => ?_)
            clear hK K
            try simp only [Act.put, List.getElem_toArray, List.getElem_cons_zero, List.getElem_cons_succ, List.setIfInBounds_toArray, List.set_cons_zero, List.set_cons_succ]
            all_goals
              have hV : Ext wr ((wr.alloc (.cells #[.int .i64 fx.id, .int .i64 fx.to, .string fx.bytes] 43)).drew) := ((Ext.refl _).alloc _).drew
              have hrx := rd_new wr [.int .i64 fx.id, .int .i64 fx.to, .string fx.bytes] 43 3 rfl
              have owV := hV.own ow (Nat.le_refl _)
              have hzV : wr.heap.size + 1 = ((wr.alloc (.cells #[.int .i64 fx.id, .int .i64 fx.to, .string fx.bytes] 43)).drew).heap.size := by simp
              refine wpAnyH_ready (rs := [8]) (by kernel_rfl) (by simp) ?_
              refine AllReadyH.cons rfl (fun K hK => ?_) AllReadyH.nil
              refine step_app1 (d := .tmp 40) (s := .tmp 46) ?_ ?_ 43 i0 (.agg #[.int .i64 0, .int .i64 0, .string ByteArray.empty]) 3 32 Try.underlying27 hi0 hz0 hz1 hz2 rfl hpos (w1.heap.size + 1) wr.heap.size (.slice A' m' c') m' ((offL (n.list.take j) k).flatMap eFlight) ?_ owV (by omega) (by omega) (wr.heap.size + 1) (some ⟨wr.heap.size, 0, none⟩) 1 1 (eFlight fx) ?_ (by exact hrx) (fun u hu => oneCell_Flight [fx] u (by simpa using hu)) hm1 hm3 ?_
              rfl
              rfl
              (focus (simp [Act.eval]; done))
              (focus (simp [Act.eval]; done))
              intro A5 c5 w5 o5 hg5
              have hFr : Fr _ _ _ w5 := Fr.of_grown hg5 (fun g h => owV.lt g h)
              have hX5 : Ext w w5 := (hX.trans hV).grown hg5 (fun g h => by have := (owV.lt g h).1; omega)
              have hz5 := hg5.size
              (clear x_p0 x_f0 x_p1 x_f1 q_p0 q_f0 q_p1 q_f1)
              replace x := (x.ext hV).fr hFr (.inl (by omega))
              replace y := (y.ext hV).fr hFr (.inl (by omega))
              replace f := (f.ext hV).fr hFr (.inl (by omega))
              replace q := (q.ext hV).fr hFr (.inl (by omega))
              obtain ⟨b', off', fx', hbo, hb', hx1', hd0, hd1, hd2⟩ := (hX5.rd hrd hB).Flight Hl.out hlt
              injection hbo with hbo
              injection hbo with e3 e4
              subst e3 e4
              obtain rfl : fx' = fx := (by rw [Hx.out] at hx1'; exact (Option.some.inj hx1').symm)
              clear hx1' hc0 hc1 hc2
              obtain ⟨q_p0, q_f0⟩ := q.at 0 _ rfl
              obtain ⟨q_p1, q_f1⟩ := q.at 1 _ rfl
              obtain ⟨x_p1, x_f1⟩ := x.at 1 _ rfl
              (try dsimp only)
              refine hK.out _ _ ⟨x_p1, hd0, hd1, hd2⟩ (fun hHeld => ?_)
              clear hK K
              try simp only [Act.put, List.getElem_toArray, List.getElem_cons_zero, List.getElem_cons_succ, List.setIfInBounds_toArray, List.set_cons_zero, List.set_cons_succ]
              refine wpAnyH_take (i := 9) (v := ?_) rfl (by kernel_rfl) (by kernel_rfl) (by kernel_rfl) (fun _ _ _ h => h) (Or.inl ⟨by rfl, ?_⟩) (by assumption) ?_
              rotate_left
              · (intro w hSw; (try dsimp only at hSw); go_simp; (try with_reducible rfl))
              try simp only [Act.put, List.getElem_toArray, List.getElem_cons_zero, List.getElem_cons_succ, List.setIfInBounds_toArray, List.set_cons_zero, List.set_cons_succ]
              have o6 : Own (w5.setCell ⟨w1.heap.size, 1, none⟩ (.slice A5 (m' + 1) c5)) (w1.heap.size + 1) w5.heap.size 43 3 (.slice A5 (m' + 1) c5) (m' + 1) ((offL (n.list.take (j + 1)) k).flatMap eFlight) := by rw [hs.out, List.flatMap_append]; simpa using Own.keep o5 (show Kp _ _ _ _ by repeat' (first | with_reducible exact Kp.refl _ _ _ | with_reducible assumption | with_reducible refine Kp.set ?_ ?_ _ _ | with_reducible refine Kp.alloc ?_ ?_ _ | with_reducible refine Kp.drew ?_ | with_reducible refine Kp.drewN ?_ _ | with_reducible refine Kp.ext ?_ ?_ (by with_reducible assumption) | with_reducible refine Kp.fr ?_ ?_ ?_ (by with_reducible assumption) | omega | (simp; done) | (simp; omega)))
              refine wpAnyH_ready (rs := [10]) (by kernel_rfl) (by simp) ?_
              refine AllReadyH.cons rfl (fun K hK => ?_) AllReadyH.nil
              go_simp
              (try dsimp only)
              refine hK.out _ _ ⟨(by (try rw [cell_drew]); (repeat rw [cell_set_ne _ _ _ _ _ _ (by omega)]); exact x_p1), (by (try rw [cell_drew]); (repeat rw [cell_set_ne _ _ _ _ _ _ (by omega)]); exact hd0), (by (try rw [cell_drew]); (repeat rw [cell_set_ne _ _ _ _ _ _ (by omega)]); exact hd1), (by (try rw [cell_drew]); (repeat rw [cell_set_ne _ _ _ _ _ _ (by omega)]); exact hd2)⟩ (fun hHeld => ?_)
              clear hK K
              try simp only [Act.put, List.getElem_toArray, List.getElem_cons_zero, List.getElem_cons_succ, List.setIfInBounds_toArray, List.set_cons_zero, List.set_cons_succ]
              refine wpAnyH_done (by kernel_rfl) ?_ _
              clear hHeld
              have hX6 : Ext w (w5.setCell ⟨w1.heap.size, 1, none⟩ (.slice A5 (m' + 1) c5)) := hX5.set (by omega) _ _
              replace x := x.far (h := w1.heap.size) (by omega) 1 (.slice A5 (m' + 1) c5)
              replace y := y.far (h := w1.heap.size) (by omega) 1 (.slice A5 (m' + 1) c5)
              replace f := f.far (h := w1.heap.size) (by omega) 1 (.slice A5 (m' + 1) c5)
              replace q := q.set 1 (.slice A5 (m' + 1) c5)
              clear q_p0 q_f0 q_p1 q_f1 x_p1 x_f1 hd0 hd1 hd2
              go_wp2
              go_roundw
              case rel => exact ⟨j + 1, m' + 1, A5, c5, by omega, by go_num, by omega, hL', x, y, f, q, o6.wide (Nat.le_refl _) (by simp), by simp; omega, hX6⟩
              case measure => simp [intOf]; omega
        · obtain rfl : m = j := by omega
          have ht : Hid (n.list.take m = n.list) := by show _ = _; exact List.take_of_length_le (by rw [Hl.out]; omega)
          rw [ht.out] at hL ow
          obtain ⟨b, off, fl', rfl, hb, hx1, hc0, hc1, hc2⟩ := (hX.rd hrd hB).Flight Hl.out hk
          obtain rfl : fl' = fl := by rw [Hfl.out] at hx1; exact (Option.some.inj hx1).symm
          clear hx1
          obtain ⟨x_p0, x_f0⟩ := x.at 0 _ rfl
          obtain ⟨x_p1, x_f1⟩ := x.at 1 _ rfl
          obtain ⟨y_p0, y_f0⟩ := y.at 0 _ rfl
          obtain ⟨y_p1, y_f1⟩ := y.at 1 _ rfl
          obtain ⟨f_p0, f_f0⟩ := f.at 0 _ rfl
          obtain ⟨f_p1, f_f1⟩ := f.at 1 _ rfl
          obtain ⟨f_p2, f_f2⟩ := f.at 2 _ rfl
          obtain ⟨q_p0, q_f0⟩ := q.at 0 _ rfl
          obtain ⟨q_p1, q_f1⟩ := q.at 1 _ rfl
          go_upto_region 11 with (fail)
          refine wp_region_held_drew (S := (fun w' => w'.cell? ⟨w1.heap.size, 0, none⟩ = some (.int .i64 n.next) ∧ w'.cell? ⟨w1.heap.size, 1, none⟩ = some (.slice A' m' c') ∧ w'.cell? ⟨w.heap.size, 1, none⟩ = some (.slice (some ⟨b, off, none⟩) m c) ∧ w'.cell? ⟨b, off + k * 3, none⟩ = some (.int .i64 fl'.id) ∧ w'.cell? ⟨b, off + k * 3 + 1, none⟩ = some (.int .i64 fl'.to) ∧ w'.cell? ⟨b, off + k * 3 + 2, none⟩ = some (.string fl'.bytes))) (by kernel_rfl) ⟨q_p0, q_p1, x_p1, hc0, hc1, hc2⟩ (fun hHeld => ?_)
          refine wpAnyH_take (i := 0) (v := ?_) rfl (by kernel_rfl) (by kernel_rfl) (by kernel_rfl) (fun _ _ _ h => h) (Or.inl ⟨by rfl, ?_⟩) (by assumption) ?_
          rotate_left
          · (intro w hSw; (try dsimp only at hSw); go_simp; (try with_reducible rfl))
          try simp only [Act.put, List.getElem_toArray, List.getElem_cons_zero, List.getElem_cons_succ, List.setIfInBounds_toArray, List.set_cons_zero, List.set_cons_succ]
          refine wpAnyH_take (i := 1) (v := ?_) rfl (by kernel_rfl) (by kernel_rfl) (by kernel_rfl) (fun _ _ _ h => h) (Or.inl ⟨by rfl, ?_⟩) (by assumption) ?_
          rotate_left
          · (intro w hSw; (try dsimp only at hSw); go_simp; (try with_reducible rfl))
          try simp only [Act.put, List.getElem_toArray, List.getElem_cons_zero, List.getElem_cons_succ, List.setIfInBounds_toArray, List.set_cons_zero, List.set_cons_succ]
          refine wpAnyH_take (i := 2) (v := ?_) rfl (by kernel_rfl) (by kernel_rfl) (by kernel_rfl) (fun _ _ _ h => h) (Or.inl ⟨by rfl, ?_⟩) (by assumption) ?_
          rotate_left
          · (intro w hSw; (try dsimp only at hSw); go_simp; (try with_reducible rfl))
          try simp only [Act.put, List.getElem_toArray, List.getElem_cons_zero, List.getElem_cons_succ, List.setIfInBounds_toArray, List.set_cons_zero, List.set_cons_succ]
          refine wpAnyH_take (i := 3) (v := ?_) rfl (by kernel_rfl) (by kernel_rfl) (by kernel_rfl) (fun _ _ _ h => h) (Or.inl ⟨by rfl, ?_⟩) (by assumption) ?_
          rotate_left
          · (intro w hSw; (try dsimp only at hSw); go_simp; (try with_reducible rfl))
          try simp only [Act.put, List.getElem_toArray, List.getElem_cons_zero, List.getElem_cons_succ, List.setIfInBounds_toArray, List.set_cons_zero, List.set_cons_succ]
          refine wpAnyH_take (i := 4) (v := ?_) rfl (by kernel_rfl) (by kernel_rfl) (by kernel_rfl) (fun _ _ _ h => h) (Or.inl ⟨by rfl, ?_⟩) (by assumption) ?_
          rotate_left
          · (intro w hSw; (try dsimp only at hSw); go_simp; (try with_reducible rfl))
          try simp only [Act.put, List.getElem_toArray, List.getElem_cons_zero, List.getElem_cons_succ, List.setIfInBounds_toArray, List.set_cons_zero, List.set_cons_succ]
          refine wpAnyH_take (i := 5) (v := ?_) rfl (by kernel_rfl) (by kernel_rfl) (by kernel_rfl) (fun _ _ _ h => h) (Or.inl ⟨by rfl, ?_⟩) (by assumption) ?_
          rotate_left
          · (intro w hSw; (try dsimp only at hSw); go_simp; (try with_reducible rfl))
          try simp only [Act.put, List.getElem_toArray, List.getElem_cons_zero, List.getElem_cons_succ, List.setIfInBounds_toArray, List.set_cons_zero, List.set_cons_succ]
          refine wpAnyH_ready (rs := [6]) (by kernel_rfl) (by simp) ?_
          refine AllReadyH.cons rfl (fun K hK => ?_) AllReadyH.nil
          go_simp
          (try dsimp only)
          refine hK.out _ _ ⟨(by (try rw [cell_drew]); (repeat rw [cell_set_ne _ _ _ _ _ _ (by omega)]); exact q_p0), (by (try rw [cell_drew]); (repeat rw [cell_set_ne _ _ _ _ _ _ (by omega)]); exact q_p1), (by (try rw [cell_drew]); (repeat rw [cell_set_ne _ _ _ _ _ _ (by omega)]); exact x_p1), (by (try rw [cell_drew]); (repeat rw [cell_set_ne _ _ _ _ _ _ (by omega)]); exact hc0), (by (try rw [cell_drew]); (repeat rw [cell_set_ne _ _ _ _ _ _ (by omega)]); exact hc1), (by (try rw [cell_drew]); (repeat rw [cell_set_ne _ _ _ _ _ _ (by omega)]); exact hc2)⟩ (fun hHeld => ?_)
          clear hK K
          try simp only [Act.put, List.getElem_toArray, List.getElem_cons_zero, List.getElem_cons_succ, List.setIfInBounds_toArray, List.set_cons_zero, List.set_cons_succ]
          refine wpAnyH_ready (rs := [7]) (by kernel_rfl) (by simp) ?_
          refine AllReadyH.cons rfl (fun K hK => ?_) AllReadyH.nil
          go_simp
          (try dsimp only)
          refine hK.out _ _ ⟨(by (try rw [cell_drew]); (repeat rw [cell_set_ne _ _ _ _ _ _ (by omega)]); exact q_p0), (by (try rw [cell_drew]); (repeat rw [cell_set_ne _ _ _ _ _ _ (by omega)]); exact q_p1), (by (try rw [cell_drew]); (repeat rw [cell_set_ne _ _ _ _ _ _ (by omega)]); exact x_p1), (by (try rw [cell_drew]); (repeat rw [cell_set_ne _ _ _ _ _ _ (by omega)]); exact hc0), (by (try rw [cell_drew]); (repeat rw [cell_set_ne _ _ _ _ _ _ (by omega)]); exact hc1), (by (try rw [cell_drew]); (repeat rw [cell_set_ne _ _ _ _ _ _ (by omega)]); exact hc2)⟩ (fun hHeld => ?_)
          clear hK K
          try simp only [Act.put, List.getElem_toArray, List.getElem_cons_zero, List.getElem_cons_succ, List.setIfInBounds_toArray, List.set_cons_zero, List.set_cons_succ]
          refine wpAnyH_take (i := 8) (v := ?_) rfl (by kernel_rfl) (by kernel_rfl) (by kernel_rfl) (fun _ _ _ h => h) (Or.inl ⟨by rfl, ?_⟩) (by assumption) ?_
          rotate_left
          · (intro w hSw; (try dsimp only at hSw); go_simp; (try with_reducible rfl))
          try simp only [Act.put, List.getElem_toArray, List.getElem_cons_zero, List.getElem_cons_succ, List.setIfInBounds_toArray, List.set_cons_zero, List.set_cons_succ]
          refine wpAnyH_done (by kernel_rfl) ?_ _
          clear hHeld
          go_wp2
          rw [hf.out]
          exact bodyPost_ret (v := .tuple #[.agg #[.int .i64 n.next, .slice A' m' c'], .agg #[.int .i64 fl'.id, .int .i64 fl'.to, .string fl'.bytes], .int .i64 0]) (by simp [results, Try.results25, go_sem, y_p0, y_p1, f_p0, f_p1, f_p2]) rfl ⟨_, rfl, ⟨_, rfl, (O_FlightS.keep (OwnS.of ow hL.out) (show Kp _ _ _ _ by repeat' (first | with_reducible exact Kp.refl _ _ _ | with_reducible assumption | with_reducible refine Kp.set ?_ ?_ _ _ | with_reducible refine Kp.alloc ?_ ?_ _ | with_reducible refine Kp.drew ?_ | with_reducible refine Kp.drewN ?_ _ | with_reducible refine Kp.ext ?_ ?_ (by with_reducible assumption) | with_reducible refine Kp.fr ?_ ?_ ?_ (by with_reducible assumption) | omega | (simp; done) | (simp; omega)))).wide (by omega) (by first | (simp; done) | (simp; omega))⟩, by repeat' (first | with_reducible exact Ext.refl _ | with_reducible assumption | with_reducible refine Ext.set ?_ ?_ _ _ | with_reducible refine Ext.alloc ?_ _ | with_reducible refine Ext.drew ?_ | with_reducible refine Ext.drewN ?_ _ | with_reducible refine Ext.trans ?_ (by with_reducible assumption) | omega | (simp; done) | (simp; omega))⟩

end Go.Proofs.Ytllljddojncemaa
