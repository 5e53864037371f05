/-
  'NetDouble', 'NetMove' on both sides, walked.
-/
import Derived.Test.YtllljddojncemaaNetTake
namespace Go.Proofs.Ytllljddojncemaa
open Go.RowKit

theorem netDouble_cases (n : NetD) (i : Int) : (∃ N cd, cd ≠ 0 ∧ netTake n i = (N, zeroF, cd) ∧ netDouble n i = (N, cd)) ∨ netOk n = true ∧ ∃ x, flAt n.list i = some x := by
  cases h : netOk n with
  | false => exact .inl ⟨zeroN, 1, by decide, netTake_bad h, netDouble_bad h⟩
  | true =>
    cases hi : flAt n.list i with
    | none => exact .inl ⟨n, 2, by decide, netTake_none h hi, netDouble_none h hi⟩
    | some x => exact .inr ⟨rfl, x, rfl⟩
theorem netMove_cases (n : NetD) (i tt : Int) : (∃ N cd, cd ≠ 0 ∧ netTake n i = (N, zeroF, cd) ∧ netMove n i tt = (N, cd)) ∨ netOk n = true ∧ ∃ x, flAt n.list i = some x := by
  cases h : netOk n with
  | false => exact .inl ⟨zeroN, 1, by decide, netTake_bad h, netMove_bad h⟩
  | true =>
    cases hi : flAt n.list i with
    | none => exact .inl ⟨n, 2, by decide, netTake_none h hi, netMove_none h hi⟩
    | some x => exact .inr ⟨rfl, x, rfl⟩

set_option maxRecDepth 100000 in
set_option maxHeartbeats 4000000 in
theorem netDouble_i (v : Value) (n : NetD) (i : Int) (w : World) (B : Nat) (hr : R_Net w B v n) (hB : B ≤ w.heap.size) (hsz : n.list.length ≤ 1048576) :
    Calls Try.prog 31 #[v, .int .i64 i] w fun e w' => ∃ v', e = .returned (.tuple #[v', .int .i64 (netDouble n i).2]) ∧ O_Net w' w.heap.size w'.heap.size v' (netDouble n i).1 ∧ Ext w w' := by
  have hr0 := hr
  obtain ⟨u, rfl, A, m, c, rfl, hl, hmc, hcm, hrd⟩ := hr
  rw [hl] at hsz
  have Hl := Lib.hid hl
  clear hl
  have hW0 : Ext w ((w.alloc (.cells #[.int .i64 n.next, .slice A m c] 29)).alloc (.cells #[.int .i64 0, .slice none 0 0] 29)) := by repeat' (first | with_reducible exact Ext.refl _ | with_reducible assumption | with_reducible refine Ext.set ?_ ?_ _ _ | with_reducible refine Ext.alloc ?_ _ | with_reducible refine Ext.drew ?_ | with_reducible refine Ext.drewN ?_ _ | with_reducible refine Ext.trans ?_ (by with_reducible assumption) | omega | (simp; done) | (simp; omega))
  have zW0 : w.heap.size + 2 ≤ ((w.alloc (.cells #[.int .i64 n.next, .slice A m c] 29)).alloc (.cells #[.int .i64 0, .slice none 0 0] 29)).heap.size := by simp
  have x : Blk ((w.alloc (.cells #[.int .i64 n.next, .slice A m c] 29)).alloc (.cells #[.int .i64 0, .slice none 0 0] 29)) w.heap.size 29 [.int .i64 n.next, .slice A m c] := ((Blk.new w #[.int .i64 n.next, .slice A m c] 29 (by first | rfl | simp)).alloc (.cells #[.int .i64 0, .slice none 0 0] 29))
  have y : Blk ((w.alloc (.cells #[.int .i64 n.next, .slice A m c] 29)).alloc (.cells #[.int .i64 0, .slice none 0 0] 29)) (w.heap.size + 1) 29 [.int .i64 0, .slice none 0 0] := (Blk.new (w.alloc (.cells #[.int .i64 n.next, .slice A m c] 29)) #[.int .i64 0, .slice none 0 0] 29 (by first | rfl | simp))
  obtain ⟨ok, hok⟩ : ∃ ok, netOk n = ok := ⟨_, rfl⟩
  have Hok := Lib.hid hok
  obtain ⟨fa, hfa⟩ : ∃ fa, flAt n.list i = fa := ⟨_, rfl⟩
  have Hfa := Lib.hid hfa
  clear hok hfa
  go_enter Try.func31, Try.ntmps31
  go_wp2_with fail
  generalize ((w.alloc (.cells #[.int .i64 n.next, .slice A m c] 29)).alloc (.cells #[.int .i64 0, .slice none 0 0] 29)) = W0 at *
  refine (netOk_i _ n _ B (by exact hr0.keep (keepE' hW0 hB)) (by omega) (by rw [Hl.out]; omega)).mono ?_
  rw [Hok.out]
  rintro e w1 ⟨rfl, hE1⟩
  have hX1 := hW0.trans hE1
  have hz10 := hE1.size
  replace x := x.ext hE1
  replace y := y.ext hE1
  have hlx := x.lt
  have hly := y.lt
  clear hE1 hW0
  obtain ⟨x_p0, x_f0⟩ := x.at 0 _ rfl
  obtain ⟨x_p1, x_f1⟩ := x.at 1 _ rfl
  obtain ⟨y_p0, y_f0⟩ := y.at 0 _ rfl
  obtain ⟨y_p1, y_f1⟩ := y.at 1 _ rfl
  cases ok with
  | false =>
    have hf : Hid (netDouble n i = (zeroN, 1)) := by show _ = _; exact netDouble_bad Hok.out
    go_wp2
    rw [hf.out]
    exact bodyPost_ret (v := .tuple #[.agg #[.int .i64 0, .slice none 0 0], .int .i64 1]) (by simp [results, Try.results31, go_sem, y_p0, y_p1]) rfl ⟨_, rfl, ⟨_, rfl, OwnS.nil _⟩, by repeat' (first | with_reducible exact Ext.refl _ | with_reducible assumption | with_reducible refine Ext.set ?_ ?_ _ _ | with_reducible refine Ext.alloc ?_ _ | with_reducible refine Ext.drew ?_ | with_reducible refine Ext.drewN ?_ _ | with_reducible refine Ext.trans ?_ (by with_reducible assumption) | omega | (simp; done) | (simp; omega))⟩
  | true =>
    obtain ⟨h1, h2, h3⟩ := netOk_parts Hok.out
    rw [Hl.out] at h3
    go_wp2_with fail
    refine (isFlight_i _ n i _ B (by exact hr0.keep (keepE' hX1 hB)) (by rw [Hl.out]; omega)).mono ?_
    rw [Hfa.out]
    rintro e w2 ⟨rfl, hE2⟩
    have hz2 := hE2.size
    have hX2 := hX1.trans hE2
    clear x_p0 x_f0 x_p1 x_f1 y_p0 y_f0 y_p1 y_f1
    replace x := x.ext hE2
    replace y := y.ext hE2
    obtain ⟨x_p0, x_f0⟩ := x.at 0 _ rfl
    obtain ⟨x_p1, x_f1⟩ := x.at 1 _ rfl
    obtain ⟨y_p0, y_f0⟩ := y.at 0 _ rfl
    obtain ⟨y_p1, y_f1⟩ := y.at 1 _ rfl
    clear hE2
    cases fa with
    | none =>
      have hf : Hid (netDouble n i = (n, 2)) := by show _ = _; exact netDouble_none Hok.out Hfa.out
      go_wp2_with fail
      refine (copyNet_i _ n _ B (by exact hr0.keep (keepE' hX2 hB)) (by omega) (by rw [Hl.out]; omega)).mono ?_
      rintro e w3 ⟨v3, rfl, o3, hE3⟩
      obtain ⟨u3, rfl, k3⟩ := o3
      obtain ⟨A3, m3, c3, hv3, -⟩ := id k3
      subst hv3
      have hz3 := hE3.size
      have hX3 := hX2.trans hE3
      clear x_p0 x_f0 x_p1 x_f1 y_p0 y_f0 y_p1 y_f1
      replace x := x.ext hE3
      replace y := y.ext hE3
      obtain ⟨x_p0, x_f0⟩ := x.at 0 _ rfl
      obtain ⟨x_p1, x_f1⟩ := x.at 1 _ rfl
      obtain ⟨y_p0, y_f0⟩ := y.at 0 _ rfl
      obtain ⟨y_p1, y_f1⟩ := y.at 1 _ rfl
      clear hE3
      go_wp2
      rw [hf.out]
      exact bodyPost_ret (v := .tuple #[.agg #[.int .i64 n.next, .slice A3 m3 c3], .int .i64 2]) (by simp [results, Try.results31, go_sem, y_p0, y_p1]) rfl ⟨_, rfl, ⟨_, rfl, (O_FlightS.keep k3 (show Kp _ _ _ _ by repeat' (first | with_reducible exact Kp.refl _ _ _ | with_reducible assumption | with_reducible refine Kp.set ?_ ?_ _ _ | with_reducible refine Kp.alloc ?_ ?_ _ | with_reducible refine Kp.drew ?_ | with_reducible refine Kp.drewN ?_ _ | with_reducible refine Kp.ext ?_ ?_ (by with_reducible assumption) | with_reducible refine Kp.fr ?_ ?_ ?_ (by with_reducible assumption) | omega | (simp; done) | (simp; omega)))).wide (by omega) (by first | (simp; done) | (simp; omega))⟩, by repeat' (first | with_reducible exact Ext.refl _ | with_reducible assumption | with_reducible refine Ext.set ?_ ?_ _ _ | with_reducible refine Ext.alloc ?_ _ | with_reducible refine Ext.drew ?_ | with_reducible refine Ext.drewN ?_ _ | with_reducible refine Ext.trans ?_ (by with_reducible assumption) | omega | (simp; done) | (simp; omega))⟩
    | some fl =>
      obtain ⟨k, hk0, hk, hfl⟩ := flAt_some Hfa.out
      subst hk0
      have hf : Hid (netDouble n (k : Int) = addNet n fl.to fl.bytes) := by show _ = _; exact netDouble_in Hok.out Hfa.out
      rw [Hl.out] at hk
      obtain ⟨b, off, fl', rfl, hb, hx1, hc0, hc1, hc2⟩ := (hX2.rd hrd hB).Flight Hl.out hk
      obtain rfl : fl' = fl := by rw [hfl] at hx1; exact (Option.some.inj hx1).symm
      clear hx1 hfl hc0
      have hk1 : (k : Int) < (m : Int) := by omega
      have hadd := fun W hW hB' => added_i (.agg #[.int .i64 n.next, .slice (some ⟨b, off, none⟩) m c]) n fl'.to fl'.bytes W B hW hB' h1 h2 (by rw [Hl.out]; exact h3)
      generalize addNet n fl'.to fl'.bytes = res at hadd hf
      obtain ⟨rn, rc⟩ := res
      dsimp only at hadd
      go_upto_region 5 with (fail)
      refine wp_region_held_drew (S := (fun w' => w'.cell? ⟨w.heap.size, 0, none⟩ = some (.int .i64 n.next) ∧ w'.cell? ⟨w.heap.size, 1, none⟩ = some (.slice (some ⟨b, off, none⟩) m c) ∧ w'.cell? ⟨b, off + k * 3 + 1, none⟩ = some (.int .i64 fl'.to) ∧ w'.cell? ⟨b, off + k * 3 + 2, none⟩ = some (.string fl'.bytes))) (by kernel_rfl) ⟨x_p0, x_p1, hc1, hc2⟩ (fun hHeld => ?_)
      refine wpAnyH_take (i := 0) (v := ?_) rfl (by kernel_rfl) (by kernel_rfl) (by kernel_rfl) (fun _ _ _ h => h) (Or.inl ⟨by rfl, ?_⟩) (by assumption) ?_
      rotate_left
      · (intro w hSw; (try dsimp only at hSw); go_simp; (try with_reducible rfl))
      try simp only [Act.put, List.getElem_toArray, List.getElem_cons_zero, List.getElem_cons_succ, List.setIfInBounds_toArray, List.set_cons_zero, List.set_cons_succ]
      refine wpAnyH_take (i := 1) (v := ?_) rfl (by kernel_rfl) (by kernel_rfl) (by kernel_rfl) (fun _ _ _ h => h) (Or.inl ⟨by rfl, ?_⟩) (by assumption) ?_
      rotate_left
      · (intro w hSw; (try dsimp only at hSw); go_simp; (try with_reducible rfl))
      try simp only [Act.put, List.getElem_toArray, List.getElem_cons_zero, List.getElem_cons_succ, List.setIfInBounds_toArray, List.set_cons_zero, List.set_cons_succ]
      refine wpAnyH_take (i := 2) (v := ?_) rfl (by kernel_rfl) (by kernel_rfl) (by kernel_rfl) (fun _ _ _ h => h) (Or.inl ⟨by rfl, ?_⟩) (by assumption) ?_
      rotate_left
      · (intro w hSw; (try dsimp only at hSw); go_simp; (try with_reducible rfl))
      try simp only [Act.put, List.getElem_toArray, List.getElem_cons_zero, List.getElem_cons_succ, List.setIfInBounds_toArray, List.set_cons_zero, List.set_cons_succ]
      refine wpAnyH_take (i := 3) (v := ?_) rfl (by kernel_rfl) (by kernel_rfl) (by kernel_rfl) (fun _ _ _ h => h) (Or.inl ⟨by rfl, ?_⟩) (by assumption) ?_
      rotate_left
      · (intro w hSw; (try dsimp only at hSw); go_simp; (try with_reducible rfl))
      try simp only [Act.put, List.getElem_toArray, List.getElem_cons_zero, List.getElem_cons_succ, List.setIfInBounds_toArray, List.set_cons_zero, List.set_cons_succ]
      refine wpAnyH_take (i := 4) (v := ?_) rfl (by kernel_rfl) (by kernel_rfl) (by kernel_rfl) (fun _ _ _ h => h) (Or.inl ⟨by rfl, ?_⟩) (by assumption) ?_
      rotate_left
      · (intro w hSw; (try dsimp only at hSw); go_simp; (try with_reducible rfl))
      try simp only [Act.put, List.getElem_toArray, List.getElem_cons_zero, List.getElem_cons_succ, List.setIfInBounds_toArray, List.set_cons_zero, List.set_cons_succ]
      refine wpAnyH_take (i := 5) (v := ?_) rfl (by kernel_rfl) (by kernel_rfl) (by kernel_rfl) (fun _ _ _ h => h) (Or.inl ⟨by rfl, ?_⟩) (by assumption) ?_
      rotate_left
      · (intro w hSw; (try dsimp only at hSw); go_simp; (try with_reducible rfl))
      try simp only [Act.put, List.getElem_toArray, List.getElem_cons_zero, List.getElem_cons_succ, List.setIfInBounds_toArray, List.set_cons_zero, List.set_cons_succ]
      refine wpAnyH_take (i := 6) (v := ?_) rfl (by kernel_rfl) (by kernel_rfl) (by kernel_rfl) (fun _ _ _ h => h) (Or.inl ⟨by rfl, ?_⟩) (by assumption) ?_
      rotate_left
      · (intro w hSw; (try dsimp only at hSw); go_simp; (try with_reducible rfl))
      try simp only [Act.put, List.getElem_toArray, List.getElem_cons_zero, List.getElem_cons_succ, List.setIfInBounds_toArray, List.set_cons_zero, List.set_cons_succ]
      refine wpAnyH_take (i := 7) (v := ?_) rfl (by kernel_rfl) (by kernel_rfl) (by kernel_rfl) (fun _ _ _ h => h) (Or.inl ⟨by rfl, ?_⟩) (by assumption) ?_
      rotate_left
      · (intro w hSw; (try dsimp only at hSw); go_simp; (try with_reducible rfl))
      try simp only [Act.put, List.getElem_toArray, List.getElem_cons_zero, List.getElem_cons_succ, List.setIfInBounds_toArray, List.set_cons_zero, List.set_cons_succ]
      refine wpAnyH_take (i := 8) (v := ?_) rfl (by kernel_rfl) (by kernel_rfl) (by kernel_rfl) (fun _ _ _ h => h) (Or.inl ⟨by rfl, ?_⟩) (by assumption) ?_
      rotate_left
      · (intro w hSw; (try dsimp only at hSw); go_simp; (try with_reducible rfl))
      try simp only [Act.put, List.getElem_toArray, List.getElem_cons_zero, List.getElem_cons_succ, List.setIfInBounds_toArray, List.set_cons_zero, List.set_cons_succ]
      refine wpAnyH_take (i := 9) (v := ?_) rfl (by kernel_rfl) (by kernel_rfl) (by kernel_rfl) (fun _ _ _ h => h) (Or.inl ⟨by rfl, ?_⟩) (by assumption) ?_
      rotate_left
      · (intro w hSw; (try dsimp only at hSw); go_simp; (try with_reducible rfl))
      try simp only [Act.put, List.getElem_toArray, List.getElem_cons_zero, List.getElem_cons_succ, List.setIfInBounds_toArray, List.set_cons_zero, List.set_cons_succ]
      refine wpAnyH_take (i := 10) (v := ?_) rfl (by kernel_rfl) (by kernel_rfl) (by kernel_rfl) (fun _ _ _ h => h) (Or.inl ⟨by rfl, ?_⟩) (by assumption) ?_
      rotate_left
      · (intro w hSw; (try dsimp only at hSw); go_simp; (try with_reducible rfl))
      try simp only [Act.put, List.getElem_toArray, List.getElem_cons_zero, List.getElem_cons_succ, List.setIfInBounds_toArray, List.set_cons_zero, List.set_cons_succ]
      refine wpAnyH_take (i := 11) (v := ?_) rfl (by kernel_rfl) (by kernel_rfl) (by kernel_rfl) (fun _ _ _ h => h) (Or.inl ⟨by rfl, ?_⟩) (by assumption) ?_
      rotate_left
      · (intro w hSw; (try dsimp only at hSw); go_simp; (try with_reducible rfl))
      try simp only [Act.put, List.getElem_toArray, List.getElem_cons_zero, List.getElem_cons_succ, List.setIfInBounds_toArray, List.set_cons_zero, List.set_cons_succ]
      refine wpAnyH_take (i := 12) (v := ?_) rfl (by kernel_rfl) (by kernel_rfl) (by kernel_rfl) (fun _ _ _ h => h) (Or.inl ⟨by rfl, ?_⟩) (by assumption) ?_
      rotate_left
      · (intro w hSw; (try dsimp only at hSw); go_simp; (try with_reducible rfl))
      try simp only [Act.put, List.getElem_toArray, List.getElem_cons_zero, List.getElem_cons_succ, List.setIfInBounds_toArray, List.set_cons_zero, List.set_cons_succ]
      refine wpAnyH_ready (rs := [13]) (by kernel_rfl) (by simp) ?_
      refine AllReadyH.cons rfl (fun K hK => ?_) AllReadyH.nil
      go_simp
      go_at_call 51
      refine (hadd _ (by exact hr0.keep (keepE' (by exact hX2.drew) hB)) (by first | omega | (simp; omega))).mono ?_
      rintro e w5 ⟨v5, rfl, o5, hE5⟩
      obtain ⟨u5, rfl, k5⟩ := o5
      obtain ⟨A5, n5, c5, hv5, -⟩ := id k5
      subst hv5
      have hk5 : Ext w2 w5 := ((Ext.refl _).drew).trans hE5
      have hX5 := hX2.trans hk5
      have hz5 := hE5.size
      (try simp only [World.size_drew] at hz5)
      clear hadd x_p0 x_f0 x_p1 x_f1 y_p0 y_f0 y_p1 y_f1
      replace x := x.ext hk5
      replace y := y.ext hk5
      obtain ⟨x_p0, x_f0⟩ := x.at 0 _ rfl
      obtain ⟨x_p1, x_f1⟩ := x.at 1 _ rfl
      obtain ⟨y_p0, y_f0⟩ := y.at 0 _ rfl
      obtain ⟨y_p1, y_f1⟩ := y.at 1 _ rfl
      replace hc1 := hk5.cellAt hc1
      replace hc2 := hk5.cellAt hc2
      (try dsimp only)
      refine hK.out _ _ ⟨x_p0, x_p1, hc1, hc2⟩ (fun hHeld => ?_)
      clear hK K
      try simp only [Act.put, List.getElem_toArray, List.getElem_cons_zero, List.getElem_cons_succ, List.setIfInBounds_toArray, List.set_cons_zero, List.set_cons_succ]
      refine wpAnyH_take (i := 14) (v := ?_) rfl (by kernel_rfl) (by kernel_rfl) (by kernel_rfl) (fun _ _ _ h => h) (Or.inl ⟨by rfl, ?_⟩) (by assumption) ?_
      rotate_left
      · (intro w hSw; (try dsimp only at hSw); go_simp; (try with_reducible rfl))
      try simp only [Act.put, List.getElem_toArray, List.getElem_cons_zero, List.getElem_cons_succ, List.setIfInBounds_toArray, List.set_cons_zero, List.set_cons_succ]
      refine wpAnyH_take (i := 15) (v := ?_) rfl (by kernel_rfl) (by kernel_rfl) (by kernel_rfl) (fun _ _ _ h => h) (Or.inl ⟨by rfl, ?_⟩) (by assumption) ?_
      rotate_left
      · (intro w hSw; (try dsimp only at hSw); go_simp; (try with_reducible rfl))
      try simp only [Act.put, List.getElem_toArray, List.getElem_cons_zero, List.getElem_cons_succ, List.setIfInBounds_toArray, List.set_cons_zero, List.set_cons_succ]
      refine wpAnyH_ready (rs := [16]) (by kernel_rfl) (by simp) ?_
      refine AllReadyH.cons rfl (fun K hK => ?_) AllReadyH.nil
      go_simp
      (try dsimp only)
      refine hK.out _ _ ⟨(by (try rw [cell_drew]); (repeat rw [cell_set_ne _ _ _ _ _ _ (by omega)]); exact x_p0), (by (try rw [cell_drew]); (repeat rw [cell_set_ne _ _ _ _ _ _ (by omega)]); exact x_p1), (by (try rw [cell_drew]); (repeat rw [cell_set_ne _ _ _ _ _ _ (by omega)]); exact hc1), (by (try rw [cell_drew]); (repeat rw [cell_set_ne _ _ _ _ _ _ (by omega)]); exact hc2)⟩ (fun hHeld => ?_)
      clear hK K
      try simp only [Act.put, List.getElem_toArray, List.getElem_cons_zero, List.getElem_cons_succ, List.setIfInBounds_toArray, List.set_cons_zero, List.set_cons_succ]
      refine wpAnyH_take (i := 17) (v := ?_) rfl (by kernel_rfl) (by kernel_rfl) (by kernel_rfl) (fun _ _ _ h => h) (Or.inl ⟨by rfl, ?_⟩) (by assumption) ?_
      rotate_left
      · (intro w hSw; (try dsimp only at hSw); go_simp; (try with_reducible rfl))
      try simp only [Act.put, List.getElem_toArray, List.getElem_cons_zero, List.getElem_cons_succ, List.setIfInBounds_toArray, List.set_cons_zero, List.set_cons_succ]
      refine wpAnyH_done (by kernel_rfl) ?_ _
      clear hHeld
      go_wp2
      rw [hf.out]
      exact bodyPost_ret (v := .tuple #[.agg #[.int .i64 rn.next, .slice A5 n5 c5], .int .i64 rc]) (by simp [results, Try.results31, go_sem, y_p0, y_p1]) rfl ⟨_, rfl, ⟨_, rfl, (O_FlightS.keep k5 (show Kp _ _ _ _ by repeat' (first | with_reducible exact Kp.refl _ _ _ | with_reducible assumption | with_reducible refine Kp.set ?_ ?_ _ _ | with_reducible refine Kp.alloc ?_ ?_ _ | with_reducible refine Kp.drew ?_ | with_reducible refine Kp.drewN ?_ _ | with_reducible refine Kp.ext ?_ ?_ (by with_reducible assumption) | with_reducible refine Kp.fr ?_ ?_ ?_ (by with_reducible assumption) | omega | (simp; done) | (simp; omega)))).wide (by first | omega | (simp; omega)) (by first | (simp; done) | (simp; omega))⟩, by repeat' (first | with_reducible exact Ext.refl _ | with_reducible assumption | with_reducible refine Ext.set ?_ ?_ _ _ | with_reducible refine Ext.alloc ?_ _ | with_reducible refine Ext.drew ?_ | with_reducible refine Ext.drewN ?_ _ | with_reducible refine Ext.trans ?_ (by with_reducible assumption) | omega | (simp; done) | (simp; omega))⟩

set_option maxRecDepth 100000 in
set_option maxHeartbeats 4000000 in
theorem netDouble_s (v : Value) (n : NetD) (i : Int) (w : World) (B : Nat) (hr : R_Net w B v n) (hB : B ≤ w.heap.size) (hsz : n.list.length ≤ 1048576) :
    Calls Try.prog 30 #[v, .int .i64 i] w fun e w' => ∃ v', e = .returned (.tuple #[v', .int .i64 (netDouble n i).2]) ∧ O_Net w' w.heap.size w'.heap.size v' (netDouble n i).1 ∧ Ext w w' := by
  have hr0 := hr
  obtain ⟨u, rfl, A, m, c, rfl, hl, hmc, hcm, hrd⟩ := hr
  rw [hl] at hsz
  have Hl := Lib.hid hl
  clear hl
  have hW0 : Ext w ((w.alloc (.cells #[.int .i64 n.next, .slice A m c] 29)).alloc (.cells #[.int .i64 0, .slice none 0 0] 29)) := by repeat' (first | with_reducible exact Ext.refl _ | with_reducible assumption | with_reducible refine Ext.set ?_ ?_ _ _ | with_reducible refine Ext.alloc ?_ _ | with_reducible refine Ext.drew ?_ | with_reducible refine Ext.drewN ?_ _ | with_reducible refine Ext.trans ?_ (by with_reducible assumption) | omega | (simp; done) | (simp; omega))
  have zW0 : w.heap.size + 2 ≤ ((w.alloc (.cells #[.int .i64 n.next, .slice A m c] 29)).alloc (.cells #[.int .i64 0, .slice none 0 0] 29)).heap.size := by simp
  have x : Blk ((w.alloc (.cells #[.int .i64 n.next, .slice A m c] 29)).alloc (.cells #[.int .i64 0, .slice none 0 0] 29)) w.heap.size 29 [.int .i64 n.next, .slice A m c] := ((Blk.new w #[.int .i64 n.next, .slice A m c] 29 (by first | rfl | simp)).alloc (.cells #[.int .i64 0, .slice none 0 0] 29))
  have y : Blk ((w.alloc (.cells #[.int .i64 n.next, .slice A m c] 29)).alloc (.cells #[.int .i64 0, .slice none 0 0] 29)) (w.heap.size + 1) 29 [.int .i64 0, .slice none 0 0] := (Blk.new (w.alloc (.cells #[.int .i64 n.next, .slice A m c] 29)) #[.int .i64 0, .slice none 0 0] 29 (by first | rfl | simp))
  have htk := fun W hW hB' => netTake_s (.agg #[.int .i64 n.next, .slice A m c]) n i W B hW hB' (by rw [Hl.out]; exact hsz)
  rcases netDouble_cases n i with ⟨N, cd, hcd, ht, hd⟩ | ⟨hok, fl, hfa⟩
  · rw [ht] at htk
    rw [hd]
    have e1 : (cd != 0) = true := by simpa using hcd
    clear ht hd hcd
    go_enter Try.func30, Try.ntmps30
    go_wp2_with fail
    generalize ((w.alloc (.cells #[.int .i64 n.next, .slice A m c] 29)).alloc (.cells #[.int .i64 0, .slice none 0 0] 29)) = W0 at *
    refine (htk _ (by exact hr0.keep (keepE' hW0 hB)) (by omega)).mono ?_
    rintro e w1 ⟨v1, rfl, o1, hE1⟩
    obtain ⟨u1, rfl, k1⟩ := o1
    obtain ⟨A1, m1, c1, hv1, -⟩ := id k1
    subst hv1
    have hX1 := hW0.trans hE1
    have hz1 := hE1.size
    replace x := x.ext hE1
    replace y := y.ext hE1
    clear hE1 hW0 htk
    have hW1 : Ext w1 ((w1.alloc (.cells #[.int .i64 N.next, .slice A1 m1 c1] 29)).alloc (.cells #[.int .i64 zeroF.id, .int .i64 zeroF.to, .string zeroF.bytes] 43)) := by repeat' (first | with_reducible exact Ext.refl _ | with_reducible assumption | with_reducible refine Ext.set ?_ ?_ _ _ | with_reducible refine Ext.alloc ?_ _ | with_reducible refine Ext.drew ?_ | with_reducible refine Ext.drewN ?_ _ | with_reducible refine Ext.trans ?_ (by with_reducible assumption) | omega | (simp; done) | (simp; omega))
    have zW1 : w1.heap.size + 2 ≤ ((w1.alloc (.cells #[.int .i64 N.next, .slice A1 m1 c1] 29)).alloc (.cells #[.int .i64 zeroF.id, .int .i64 zeroF.to, .string zeroF.bytes] 43)).heap.size := by simp
    have q : Blk ((w1.alloc (.cells #[.int .i64 N.next, .slice A1 m1 c1] 29)).alloc (.cells #[.int .i64 zeroF.id, .int .i64 zeroF.to, .string zeroF.bytes] 43)) w1.heap.size 29 [.int .i64 N.next, .slice A1 m1 c1] := ((Blk.new w1 #[.int .i64 N.next, .slice A1 m1 c1] 29 (by first | rfl | simp)).alloc (.cells #[.int .i64 zeroF.id, .int .i64 zeroF.to, .string zeroF.bytes] 43))
    have f : Blk ((w1.alloc (.cells #[.int .i64 N.next, .slice A1 m1 c1] 29)).alloc (.cells #[.int .i64 zeroF.id, .int .i64 zeroF.to, .string zeroF.bytes] 43)) (w1.heap.size + 1) 43 [.int .i64 zeroF.id, .int .i64 zeroF.to, .string zeroF.bytes] := (Blk.new (w1.alloc (.cells #[.int .i64 N.next, .slice A1 m1 c1] 29)) #[.int .i64 zeroF.id, .int .i64 zeroF.to, .string zeroF.bytes] 43 (by first | rfl | simp))
    replace x := x.ext hW1
    replace y := y.ext hW1
    replace k1 := k1.keep (keepE hW1 (Nat.le_refl _))
    have hX2 := hX1.trans hW1
    have hlx := x.lt
    have hly := y.lt
    obtain ⟨x_p0, x_f0⟩ := x.at 0 _ rfl
    obtain ⟨x_p1, x_f1⟩ := x.at 1 _ rfl
    obtain ⟨y_p0, y_f0⟩ := y.at 0 _ rfl
    obtain ⟨y_p1, y_f1⟩ := y.at 1 _ rfl
    obtain ⟨q_p0, q_f0⟩ := q.at 0 _ rfl
    obtain ⟨q_p1, q_f1⟩ := q.at 1 _ rfl
    obtain ⟨f_p0, f_f0⟩ := f.at 0 _ rfl
    obtain ⟨f_p1, f_f1⟩ := f.at 1 _ rfl
    obtain ⟨f_p2, f_f2⟩ := f.at 2 _ rfl
    go_upto_region 2 with (fail)
    clear hW1
    generalize ((w1.alloc (.cells #[.int .i64 N.next, .slice A1 m1 c1] 29)).alloc (.cells #[.int .i64 zeroF.id, .int .i64 zeroF.to, .string zeroF.bytes] 43)) = W1 at *
    go_wp2
    exact bodyPost_ret (v := .tuple #[.agg #[.int .i64 N.next, .slice A1 m1 c1], .int .i64 cd]) (by simp [results, Try.results30, go_sem, y_p0, y_p1]) rfl ⟨_, rfl, ⟨_, rfl, (O_FlightS.keep k1 (show Kp _ _ _ _ by repeat' (first | with_reducible exact Kp.refl _ _ _ | with_reducible assumption | with_reducible refine Kp.set ?_ ?_ _ _ | with_reducible refine Kp.alloc ?_ ?_ _ | with_reducible refine Kp.drew ?_ | with_reducible refine Kp.drewN ?_ _ | with_reducible refine Kp.ext ?_ ?_ (by with_reducible assumption) | with_reducible refine Kp.fr ?_ ?_ ?_ (by with_reducible assumption) | omega | (simp; done) | (simp; omega)))).wide (by omega) (by first | (simp; done) | (simp; omega))⟩, by repeat' (first | with_reducible exact Ext.refl _ | with_reducible assumption | with_reducible refine Ext.set ?_ ?_ _ _ | with_reducible refine Ext.alloc ?_ _ | with_reducible refine Ext.drew ?_ | with_reducible refine Ext.drewN ?_ _ | with_reducible refine Ext.trans ?_ (by with_reducible assumption) | omega | (simp; done) | (simp; omega))⟩
  · obtain ⟨k, hk0, hk, hfl⟩ := flAt_some hfa
    subst hk0
    obtain ⟨hflB, -⟩ := netOk_at hok hfl
    rw [netTake_in hok hfa] at htk
    rw [netDouble_in hok hfa, ← netSend_in hok hflB]
    dsimp only at htk
    clear hfa hfl hflB hk
    have hsend := fun W hW hB' => netSend_s (.agg #[.int .i64 n.next, .slice A m c]) n fl.to fl.bytes W B hW hB' (by rw [Hl.out]; exact hsz)
    generalize netSend n fl.to fl.bytes = res at *
    obtain ⟨rn, rc⟩ := res
    dsimp only at hsend ⊢
    go_enter Try.func30, Try.ntmps30
    go_wp2_with fail
    generalize ((w.alloc (.cells #[.int .i64 n.next, .slice A m c] 29)).alloc (.cells #[.int .i64 0, .slice none 0 0] 29)) = W0 at *
    refine (htk _ (by exact hr0.keep (keepE' hW0 hB)) (by omega)).mono ?_
    rintro e w1 ⟨v1, rfl, o1, hE1⟩
    obtain ⟨u1, rfl, k1⟩ := o1
    obtain ⟨A1, m1, c1, hv1, -⟩ := id k1
    subst hv1
    have hX1 := hW0.trans hE1
    have hz1 := hE1.size
    replace x := x.ext hE1
    replace y := y.ext hE1
    clear hE1 hW0 htk k1
    have hW1 : Ext w1 ((w1.alloc (.cells #[.int .i64 n.next, .slice A1 m1 c1] 29)).alloc (.cells #[.int .i64 fl.id, .int .i64 fl.to, .string fl.bytes] 43)) := by repeat' (first | with_reducible exact Ext.refl _ | with_reducible assumption | with_reducible refine Ext.set ?_ ?_ _ _ | with_reducible refine Ext.alloc ?_ _ | with_reducible refine Ext.drew ?_ | with_reducible refine Ext.drewN ?_ _ | with_reducible refine Ext.trans ?_ (by with_reducible assumption) | omega | (simp; done) | (simp; omega))
    have zW1 : w1.heap.size + 2 ≤ ((w1.alloc (.cells #[.int .i64 n.next, .slice A1 m1 c1] 29)).alloc (.cells #[.int .i64 fl.id, .int .i64 fl.to, .string fl.bytes] 43)).heap.size := by simp
    have q : Blk ((w1.alloc (.cells #[.int .i64 n.next, .slice A1 m1 c1] 29)).alloc (.cells #[.int .i64 fl.id, .int .i64 fl.to, .string fl.bytes] 43)) w1.heap.size 29 [.int .i64 n.next, .slice A1 m1 c1] := ((Blk.new w1 #[.int .i64 n.next, .slice A1 m1 c1] 29 (by first | rfl | simp)).alloc (.cells #[.int .i64 fl.id, .int .i64 fl.to, .string fl.bytes] 43))
    have f : Blk ((w1.alloc (.cells #[.int .i64 n.next, .slice A1 m1 c1] 29)).alloc (.cells #[.int .i64 fl.id, .int .i64 fl.to, .string fl.bytes] 43)) (w1.heap.size + 1) 43 [.int .i64 fl.id, .int .i64 fl.to, .string fl.bytes] := (Blk.new (w1.alloc (.cells #[.int .i64 n.next, .slice A1 m1 c1] 29)) #[.int .i64 fl.id, .int .i64 fl.to, .string fl.bytes] 43 (by first | rfl | simp))
    replace x := x.ext hW1
    replace y := y.ext hW1
    have hX2 := hX1.trans hW1
    have hlx := x.lt
    have hly := y.lt
    obtain ⟨x_p0, x_f0⟩ := x.at 0 _ rfl
    obtain ⟨x_p1, x_f1⟩ := x.at 1 _ rfl
    obtain ⟨y_p0, y_f0⟩ := y.at 0 _ rfl
    obtain ⟨y_p1, y_f1⟩ := y.at 1 _ rfl
    obtain ⟨q_p0, q_f0⟩ := q.at 0 _ rfl
    obtain ⟨q_p1, q_f1⟩ := q.at 1 _ rfl
    obtain ⟨f_p0, f_f0⟩ := f.at 0 _ rfl
    obtain ⟨f_p1, f_f1⟩ := f.at 1 _ rfl
    obtain ⟨f_p2, f_f2⟩ := f.at 2 _ rfl
    go_upto_region 2 with (fail)
    clear hW1
    generalize ((w1.alloc (.cells #[.int .i64 n.next, .slice A1 m1 c1] 29)).alloc (.cells #[.int .i64 fl.id, .int .i64 fl.to, .string fl.bytes] 43)) = W1 at *
    go_wp2_with fail
    refine (hsend _ (by exact hr0.keep (keepE' hX2 hB)) (by omega)).mono ?_
    rintro e w3 ⟨v3, rfl, o3, hE3⟩
    obtain ⟨u3, rfl, k3⟩ := o3
    obtain ⟨A3, m3, c3, hv3, -⟩ := id k3
    subst hv3
    have hz3 := hE3.size
    have hX3 := hX2.trans hE3
    clear x_p0 x_f0 x_p1 x_f1 y_p0 y_f0 y_p1 y_f1 q_p0 q_f0 q_p1 q_f1 f_p0 f_f0 f_p1 f_f1 f_p2 f_f2
    replace y := y.ext hE3
    clear hE3 hsend x q f
    obtain ⟨y_p0, y_f0⟩ := y.at 0 _ rfl
    obtain ⟨y_p1, y_f1⟩ := y.at 1 _ rfl
    dsimp only at *
    go_wp2
    exact bodyPost_ret (v := .tuple #[.agg #[.int .i64 rn.next, .slice A3 m3 c3], .int .i64 rc]) (by simp [results, Try.results30, go_sem, y_p0, y_p1]) rfl ⟨_, rfl, ⟨_, rfl, (O_FlightS.keep k3 (show Kp _ _ _ _ by repeat' (first | with_reducible exact Kp.refl _ _ _ | with_reducible assumption | with_reducible refine Kp.set ?_ ?_ _ _ | with_reducible refine Kp.alloc ?_ ?_ _ | with_reducible refine Kp.drew ?_ | with_reducible refine Kp.drewN ?_ _ | with_reducible refine Kp.ext ?_ ?_ (by with_reducible assumption) | with_reducible refine Kp.fr ?_ ?_ ?_ (by with_reducible assumption) | omega | (simp; done) | (simp; omega)))).wide (by omega) (by first | (simp; done) | (simp; omega))⟩, by repeat' (first | with_reducible exact Ext.refl _ | with_reducible assumption | with_reducible refine Ext.set ?_ ?_ _ _ | with_reducible refine Ext.alloc ?_ _ | with_reducible refine Ext.drew ?_ | with_reducible refine Ext.drewN ?_ _ | with_reducible refine Ext.trans ?_ (by with_reducible assumption) | omega | (simp; done) | (simp; omega))⟩

set_option maxRecDepth 100000 in
set_option maxHeartbeats 4000000 in
theorem netMove_i (v : Value) (n : NetD) (i tt : Int) (w : World) (B : Nat) (hr : R_Net w B v n) (hB : B ≤ w.heap.size) (hsz : n.list.length ≤ 1048576) :
    Calls Try.prog 33 #[v, .int .i64 i, .int .i64 tt] w fun e w' => ∃ v', e = .returned (.tuple #[v', .int .i64 (netMove n i tt).2]) ∧ O_Net w' w.heap.size w'.heap.size v' (netMove n i tt).1 ∧ Ext w w' := by
  have hr0 := hr
  obtain ⟨u, rfl, A, m, c, rfl, hl, hmc, hcm, hrd⟩ := hr
  rw [hl] at hsz
  have Hl := Lib.hid hl
  clear hl
  have hW0 : Ext w ((w.alloc (.cells #[.int .i64 n.next, .slice A m c] 29)).alloc (.cells #[.int .i64 0, .slice none 0 0] 29)) := by repeat' (first | with_reducible exact Ext.refl _ | with_reducible assumption | with_reducible refine Ext.set ?_ ?_ _ _ | with_reducible refine Ext.alloc ?_ _ | with_reducible refine Ext.drew ?_ | with_reducible refine Ext.drewN ?_ _ | with_reducible refine Ext.trans ?_ (by with_reducible assumption) | omega | (simp; done) | (simp; omega))
  have zW0 : w.heap.size + 2 ≤ ((w.alloc (.cells #[.int .i64 n.next, .slice A m c] 29)).alloc (.cells #[.int .i64 0, .slice none 0 0] 29)).heap.size := by simp
  have x : Blk ((w.alloc (.cells #[.int .i64 n.next, .slice A m c] 29)).alloc (.cells #[.int .i64 0, .slice none 0 0] 29)) w.heap.size 29 [.int .i64 n.next, .slice A m c] := ((Blk.new w #[.int .i64 n.next, .slice A m c] 29 (by first | rfl | simp)).alloc (.cells #[.int .i64 0, .slice none 0 0] 29))
  have y : Blk ((w.alloc (.cells #[.int .i64 n.next, .slice A m c] 29)).alloc (.cells #[.int .i64 0, .slice none 0 0] 29)) (w.heap.size + 1) 29 [.int .i64 0, .slice none 0 0] := (Blk.new (w.alloc (.cells #[.int .i64 n.next, .slice A m c] 29)) #[.int .i64 0, .slice none 0 0] 29 (by first | rfl | simp))
  obtain ⟨ok, hok⟩ : ∃ ok, netOk n = ok := ⟨_, rfl⟩
  have Hok := Lib.hid hok
  obtain ⟨fa, hfa⟩ : ∃ fa, flAt n.list i = fa := ⟨_, rfl⟩
  have Hfa := Lib.hid hfa
  obtain ⟨ft, hft⟩ : ∃ ft, flAt n.list tt = ft := ⟨_, rfl⟩
  have Hft := Lib.hid hft
  clear hok hfa hft
  go_enter Try.func33, Try.ntmps33
  go_wp2_with fail
  generalize ((w.alloc (.cells #[.int .i64 n.next, .slice A m c] 29)).alloc (.cells #[.int .i64 0, .slice none 0 0] 29)) = W0 at *
  refine (netOk_i _ n _ B (by exact hr0.keep (keepE' hW0 hB)) (by omega) (by rw [Hl.out]; omega)).mono ?_
  rw [Hok.out]
  rintro e w1 ⟨rfl, hE1⟩
  have hX1 := hW0.trans hE1
  have hz10 := hE1.size
  replace x := x.ext hE1
  replace y := y.ext hE1
  have hlx := x.lt
  have hly := y.lt
  clear hE1 hW0
  obtain ⟨x_p0, x_f0⟩ := x.at 0 _ rfl
  obtain ⟨x_p1, x_f1⟩ := x.at 1 _ rfl
  obtain ⟨y_p0, y_f0⟩ := y.at 0 _ rfl
  obtain ⟨y_p1, y_f1⟩ := y.at 1 _ rfl
  cases ok with
  | false =>
    have hf : Hid (netMove n i tt = (zeroN, 1)) := by show _ = _; exact netMove_bad Hok.out
    go_wp2
    rw [hf.out]
    exact bodyPost_ret (v := .tuple #[.agg #[.int .i64 0, .slice none 0 0], .int .i64 1]) (by simp [results, Try.results33, go_sem, y_p0, y_p1]) rfl ⟨_, rfl, ⟨_, rfl, OwnS.nil _⟩, by repeat' (first | with_reducible exact Ext.refl _ | with_reducible assumption | with_reducible refine Ext.set ?_ ?_ _ _ | with_reducible refine Ext.alloc ?_ _ | with_reducible refine Ext.drew ?_ | with_reducible refine Ext.drewN ?_ _ | with_reducible refine Ext.trans ?_ (by with_reducible assumption) | omega | (simp; done) | (simp; omega))⟩
  | true =>
    obtain ⟨h1, h2, h3⟩ := netOk_parts Hok.out
    rw [Hl.out] at h3
    go_wp2_with fail
    refine (copyNet_i _ n _ B (by exact hr0.keep (keepE' hX1 hB)) (by omega) (by rw [Hl.out]; omega)).mono ?_
    rintro e w2 ⟨v2, rfl, o2, hE2⟩
    obtain ⟨u2, rfl, k2⟩ := o2
    obtain ⟨A2, m2, c2, hv2, hl2, ow2⟩ := k2
    subst hv2
    have hmm : m = m2 := by rw [← Hl.out]; exact hl2
    subst hmm
    clear hl2
    have hz2 := hE2.size
    have hX2 := hX1.trans hE2
    clear x_p0 x_f0 x_p1 x_f1 y_p0 y_f0 y_p1 y_f1
    replace x := x.ext hE2
    replace y := y.ext hE2
    clear hE2
    have hW2 : Ext w2 (w2.alloc (.cells #[.int .i64 n.next, .slice A2 m c2] 29)) := by repeat' (first | with_reducible exact Ext.refl _ | with_reducible assumption | with_reducible refine Ext.set ?_ ?_ _ _ | with_reducible refine Ext.alloc ?_ _ | with_reducible refine Ext.drew ?_ | with_reducible refine Ext.drewN ?_ _ | with_reducible refine Ext.trans ?_ (by with_reducible assumption) | omega | (simp; done) | (simp; omega))
    have zW2 : w2.heap.size + 1 ≤ (w2.alloc (.cells #[.int .i64 n.next, .slice A2 m c2] 29)).heap.size := by simp
    have q : Blk (w2.alloc (.cells #[.int .i64 n.next, .slice A2 m c2] 29)) w2.heap.size 29 [.int .i64 n.next, .slice A2 m c2] := (Blk.new w2 #[.int .i64 n.next, .slice A2 m c2] 29 (by first | rfl | simp))
    replace x := x.ext hW2
    replace y := y.ext hW2
    replace ow2 := hW2.own ow2 (Nat.le_refl _)
    replace hX2 := hX2.trans hW2
    obtain ⟨x_p0, x_f0⟩ := x.at 0 _ rfl
    obtain ⟨x_p1, x_f1⟩ := x.at 1 _ rfl
    obtain ⟨y_p0, y_f0⟩ := y.at 0 _ rfl
    obtain ⟨y_p1, y_f1⟩ := y.at 1 _ rfl
    obtain ⟨q_p0, q_f0⟩ := q.at 0 _ rfl
    obtain ⟨q_p1, q_f1⟩ := q.at 1 _ rfl
    go_wp2_with fail
    clear hW2
    generalize (w2.alloc (.cells #[.int .i64 n.next, .slice A2 m c2] 29)) = W2 at *
    refine (isFlight_i _ n i _ B (by exact hr0.keep (keepE' hX2 hB)) (by rw [Hl.out]; omega)).mono ?_
    rw [Hfa.out]
    rintro e w3 ⟨rfl, hE3⟩
    have hz3 := hE3.size
    have hX3 := hX2.trans hE3
    replace ow2 := hE3.own ow2 (by omega)
    clear x_p0 x_f0 x_p1 x_f1 y_p0 y_f0 y_p1 y_f1 q_p0 q_f0 q_p1 q_f1
    replace x := x.ext hE3
    replace y := y.ext hE3
    replace q := q.ext hE3
    obtain ⟨x_p0, x_f0⟩ := x.at 0 _ rfl
    obtain ⟨x_p1, x_f1⟩ := x.at 1 _ rfl
    obtain ⟨y_p0, y_f0⟩ := y.at 0 _ rfl
    obtain ⟨y_p1, y_f1⟩ := y.at 1 _ rfl
    obtain ⟨q_p0, q_f0⟩ := q.at 0 _ rfl
    obtain ⟨q_p1, q_f1⟩ := q.at 1 _ rfl
    clear hE3
    have hlx := x.lt
    have hly := y.lt
    have hlq := q.lt
    cases fa with
    | none =>
      have hf : Hid (netMove n i tt = (n, 2)) := by show _ = _; exact netMove_none Hok.out Hfa.out
      go_wp2
      rw [hf.out]
      exact bodyPost_ret (v := .tuple #[.agg #[.int .i64 n.next, .slice A2 m c2], .int .i64 2]) (by simp [results, Try.results33, go_sem, y_p0, y_p1]) rfl ⟨_, rfl, ⟨_, rfl, (O_FlightS.keep (OwnS.of ow2 Hl.out) (show Kp _ _ _ _ by repeat' (first | with_reducible exact Kp.refl _ _ _ | with_reducible assumption | with_reducible refine Kp.set ?_ ?_ _ _ | with_reducible refine Kp.alloc ?_ ?_ _ | with_reducible refine Kp.drew ?_ | with_reducible refine Kp.drewN ?_ _ | with_reducible refine Kp.ext ?_ ?_ (by with_reducible assumption) | with_reducible refine Kp.fr ?_ ?_ ?_ (by with_reducible assumption) | omega | (simp; done) | (simp; omega)))).wide (by omega) (by first | (simp; done) | (simp; omega))⟩, by repeat' (first | with_reducible exact Ext.refl _ | with_reducible assumption | with_reducible refine Ext.set ?_ ?_ _ _ | with_reducible refine Ext.alloc ?_ _ | with_reducible refine Ext.drew ?_ | with_reducible refine Ext.drewN ?_ _ | with_reducible refine Ext.trans ?_ (by with_reducible assumption) | omega | (simp; done) | (simp; omega))⟩
    | some fl =>
      go_wp2_with fail
      refine (isFlight_i _ n tt _ B (by exact hr0.keep (keepE' hX3 hB)) (by rw [Hl.out]; omega)).mono ?_
      rw [Hft.out]
      rintro e w4 ⟨rfl, hE4⟩
      have hz4 := hE4.size
      have hX4 := hX3.trans hE4
      replace ow2 := hE4.own ow2 (by omega)
      clear x_p0 x_f0 x_p1 x_f1 y_p0 y_f0 y_p1 y_f1 q_p0 q_f0 q_p1 q_f1
      replace x := x.ext hE4
      replace y := y.ext hE4
      replace q := q.ext hE4
      obtain ⟨x_p0, x_f0⟩ := x.at 0 _ rfl
      obtain ⟨x_p1, x_f1⟩ := x.at 1 _ rfl
      obtain ⟨y_p0, y_f0⟩ := y.at 0 _ rfl
      obtain ⟨y_p1, y_f1⟩ := y.at 1 _ rfl
      obtain ⟨q_p0, q_f0⟩ := q.at 0 _ rfl
      obtain ⟨q_p1, q_f1⟩ := q.at 1 _ rfl
      clear hE4
      cases ft with
      | none =>
        have hf : Hid (netMove n i tt = (n, 2)) := by show _ = _; exact netMove_none2 Hok.out Hft.out
        go_wp2
        rw [hf.out]
        exact bodyPost_ret (v := .tuple #[.agg #[.int .i64 n.next, .slice A2 m c2], .int .i64 2]) (by simp [results, Try.results33, go_sem, y_p0, y_p1]) rfl ⟨_, rfl, ⟨_, rfl, (O_FlightS.keep (OwnS.of ow2 Hl.out) (show Kp _ _ _ _ by repeat' (first | with_reducible exact Kp.refl _ _ _ | with_reducible assumption | with_reducible refine Kp.set ?_ ?_ _ _ | with_reducible refine Kp.alloc ?_ ?_ _ | with_reducible refine Kp.drew ?_ | with_reducible refine Kp.drewN ?_ _ | with_reducible refine Kp.ext ?_ ?_ (by with_reducible assumption) | with_reducible refine Kp.fr ?_ ?_ ?_ (by with_reducible assumption) | omega | (simp; done) | (simp; omega)))).wide (by omega) (by first | (simp; done) | (simp; omega))⟩, by repeat' (first | with_reducible exact Ext.refl _ | with_reducible assumption | with_reducible refine Ext.set ?_ ?_ _ _ | with_reducible refine Ext.alloc ?_ _ | with_reducible refine Ext.drew ?_ | with_reducible refine Ext.drewN ?_ _ | with_reducible refine Ext.trans ?_ (by with_reducible assumption) | omega | (simp; done) | (simp; omega))⟩
      | some fy =>
        obtain ⟨k, hk0, hk, hfl⟩ := flAt_some Hfa.out
        obtain ⟨j, hj0, hj, -⟩ := flAt_some Hft.out
        subst hk0 hj0
        have hf : Hid (netMove n (k : Int) (j : Int) = (⟨n.next, moveL n.list k j fl⟩, 0)) := by show _ = _; exact netMove_in Hok.out Hfa.out Hft.out
        have Hml : Hid ((moveL n.list k j fl).length = m) := by show _ = _; rw [moveL_length fl hk hj, Hl.out]
        have Hol : Hid ((n.list.take k ++ n.list.drop (k + 1)).length = m - 1) := by show _ = _; have := offL_length hk; unfold offL at this; rw [this, Hl.out]
        rw [Hl.out] at hk hj
        have Hfl := Lib.hid hfl
        clear hfl
        have hk1 : (k : Int) < (m : Int) := by omega
        have hkw : IntKind.i64.wrap ((k : Int) + 1) = (k : Int) + 1 := IntWalk.i64_in _ (by omega)
        obtain ⟨b, off, fl', rfl, hb, hx1, hc0, hc1, hc2⟩ := (hX4.rd hrd hB).Flight Hl.out hk
        obtain rfl : fl' = fl := by rw [Hfl.out] at hx1; exact (Option.some.inj hx1).symm
        clear hx1
        have hbw : b < w.heap.size := by omega
        have hm11 : m - 1 + 1 = m := by omega
        have Hm11 := Lib.hid hm11
        clear hm11
        go_upto_region 6 with (fail)
        clear x_f1 x_p0 x_f0 y_p0 y_f0 y_p1 y_f1 q_p0 q_f0 q_f1
        refine wp_region_held_drew (S := (fun w' => w'.cell? ⟨w.heap.size, 1, none⟩ = some (.slice (some ⟨b, off, none⟩) m c) ∧ w'.cell? ⟨b, off + k * 3, none⟩ = some (.int .i64 fl'.id) ∧ w'.cell? ⟨b, off + k * 3 + 1, none⟩ = some (.int .i64 fl'.to) ∧ w'.cell? ⟨b, off + k * 3 + 2, none⟩ = some (.string fl'.bytes))) (by kernel_rfl) ⟨x_p1, hc0, hc1, hc2⟩ (fun hHeld => ?_)
        refine wpAnyH_take (i := 0) (v := ?_) rfl (by kernel_rfl) (by kernel_rfl) (by kernel_rfl) (fun _ _ _ h => h) (Or.inl ⟨by rfl, ?_⟩) (by assumption) ?_
        rotate_left
        · (intro w hSw; (try dsimp only at hSw); go_simp; (try with_reducible rfl))
        try simp only [Act.put, List.getElem_toArray, List.getElem_cons_zero, List.getElem_cons_succ, List.setIfInBounds_toArray, List.set_cons_zero, List.set_cons_succ]
        refine wpAnyH_take (i := 2) (v := ?_) rfl (by kernel_rfl) (by kernel_rfl) (by kernel_rfl) (fun _ _ _ h => h) (Or.inl ⟨by rfl, ?_⟩) (by assumption) ?_
        rotate_left
        · (intro w hSw; (try dsimp only at hSw); go_simp; (try with_reducible rfl))
        try simp only [Act.put, List.getElem_toArray, List.getElem_cons_zero, List.getElem_cons_succ, List.setIfInBounds_toArray, List.set_cons_zero, List.set_cons_succ]
        refine wpAnyH_take (i := 3) (v := ?_) rfl (by kernel_rfl) (by kernel_rfl) (by kernel_rfl) (fun _ _ _ h => h) (Or.inl ⟨by rfl, ?_⟩) (by assumption) ?_
        rotate_left
        · (intro w hSw; (try dsimp only at hSw); go_simp; (try with_reducible rfl))
        try simp only [Act.put, List.getElem_toArray, List.getElem_cons_zero, List.getElem_cons_succ, List.setIfInBounds_toArray, List.set_cons_zero, List.set_cons_succ]
        refine wpAnyH_take (i := 4) (v := ?_) rfl (by kernel_rfl) (by kernel_rfl) (by kernel_rfl) (fun _ _ _ h => h) (Or.inl ⟨by rfl, ?_⟩) (by assumption) ?_
        rotate_left
        · (intro w hSw; (try dsimp only at hSw); go_simp; (try with_reducible rfl))
        try simp only [Act.put, List.getElem_toArray, List.getElem_cons_zero, List.getElem_cons_succ, List.setIfInBounds_toArray, List.set_cons_zero, List.set_cons_succ]
        refine wpAnyH_take (i := 6) (v := ?_) rfl (by kernel_rfl) (by kernel_rfl) (by kernel_rfl) (fun _ _ _ h => h) (Or.inl ⟨by rfl, ?_⟩) (by assumption) ?_
        rotate_left
        · (intro w hSw; (try dsimp only at hSw); go_simp; (try with_reducible rfl))
        try simp only [Act.put, List.getElem_toArray, List.getElem_cons_zero, List.getElem_cons_succ, List.setIfInBounds_toArray, List.set_cons_zero, List.set_cons_succ]
        refine wpAnyH_take (i := 7) (v := ?_) rfl (by kernel_rfl) (by kernel_rfl) (by kernel_rfl) (fun _ _ _ h => h) (Or.inl ⟨by rfl, ?_⟩) (by assumption) ?_
        rotate_left
        · (intro w hSw; (try dsimp only at hSw); go_simp; (try with_reducible rfl))
        try simp only [Act.put, List.getElem_toArray, List.getElem_cons_zero, List.getElem_cons_succ, List.setIfInBounds_toArray, List.set_cons_zero, List.set_cons_succ]
        refine wpAnyH_take (i := 8) (v := ?_) rfl (by kernel_rfl) (by kernel_rfl) (by kernel_rfl) (fun _ _ _ h => h) (Or.inl ⟨by rfl, ?_⟩) (by assumption) ?_
        rotate_left
        · (intro w hSw; (try dsimp only at hSw); go_simp; (try with_reducible rfl))
        try simp only [Act.put, List.getElem_toArray, List.getElem_cons_zero, List.getElem_cons_succ, List.setIfInBounds_toArray, List.set_cons_zero, List.set_cons_succ]
        refine wpAnyH_take (i := 9) (v := ?_) rfl (by kernel_rfl) (by kernel_rfl) (by kernel_rfl) (fun _ _ _ h => h) (Or.inl ⟨by rfl, ?_⟩) (by assumption) ?_
        rotate_left
        · (intro w hSw; (try dsimp only at hSw); go_simp; (try with_reducible rfl))
        try simp only [Act.put, List.getElem_toArray, List.getElem_cons_zero, List.getElem_cons_succ, List.setIfInBounds_toArray, List.set_cons_zero, List.set_cons_succ]
        refine wpAnyH_take (i := 10) (v := ?_) rfl (by kernel_rfl) (by kernel_rfl) (by kernel_rfl) (fun _ _ _ h => h) (Or.inl ⟨by rfl, ?_⟩) (by assumption) ?_
        rotate_left
        · (intro w hSw; (try dsimp only at hSw); go_simp; (try with_reducible rfl))
        try simp only [Act.put, List.getElem_toArray, List.getElem_cons_zero, List.getElem_cons_succ, List.setIfInBounds_toArray, List.set_cons_zero, List.set_cons_succ]
        refine wpAnyH_take (i := 11) (v := ?_) rfl (by kernel_rfl) (by kernel_rfl) (by kernel_rfl) (fun _ _ _ h => h) (Or.inl ⟨by rfl, ?_⟩) (by assumption) ?_
        rotate_left
        · (intro w hSw; (try dsimp only at hSw); go_simp; (try with_reducible rfl))
        try simp only [Act.put, List.getElem_toArray, List.getElem_cons_zero, List.getElem_cons_succ, List.setIfInBounds_toArray, List.set_cons_zero, List.set_cons_succ]
        refine wpAnyH_ready (rs := [1, 12]) (by kernel_rfl) (by simp) ?_
        refine AllReadyH.cons rfl (fun K hK => ?_) (AllReadyH.cons rfl (fun K hK => ?_) AllReadyH.nil)
        go_simp
        (try dsimp only)
        refine hK.out _ _ ⟨x_p1, hc0, hc1, hc2⟩ (fun hHeld => ?_)
        clear hK K
        try simp only [Act.put, List.getElem_toArray, List.getElem_cons_zero, List.getElem_cons_succ, List.setIfInBounds_toArray, List.set_cons_zero, List.set_cons_succ]
        refine wpAnyH_ready (rs := [5, 12]) (by kernel_rfl) (by simp) ?_
        refine AllReadyH.cons rfl (fun K hK => ?_) (AllReadyH.cons rfl (fun K hK => ?_) AllReadyH.nil)
        go_simp
        go_at_call 55
        refine (deleteFlight_any A2 m c2 k n.list _ _ _ (by exact ow2) Hl.out hk (by omega)).mono ?_
        rintro e w5 ⟨rfl, o5, hg5⟩
        have hFr : Fr _ _ w4.drew w5 := Fr.of_grown hg5 (fun g h => ow2.lt g h)
        have hX5 : Ext w w5 := hX4.drew.grown hg5 (fun g h => by have := (ow2.lt g h).1; omega)
        have hz5 : w4.heap.size ≤ w5.heap.size := hg5.size
        clear x_p1
        replace x := x.drew.fr hFr (.inl (by omega))
        replace y := y.drew.fr hFr (.inl (by omega))
        replace q := q.drew.fr hFr (.inr (by omega))
        obtain ⟨x_p1, -⟩ := x.at 1 _ rfl
        replace hc0 := hFr.cellAt (g := b) (j := off + k * 3) (by exact hc0) (.inl (by omega))
        replace hc1 := hFr.cellAt (g := b) (j := off + k * 3 + 1) (by exact hc1) (.inl (by omega))
        replace hc2 := hFr.cellAt (g := b) (j := off + k * 3 + 2) (by exact hc2) (.inl (by omega))
        clear ow2 hg5 hFr q_p1
        (try dsimp only)
        refine hK.out _ _ ⟨x_p1, hc0, hc1, hc2⟩ (fun hHeld => ?_)
        clear hK K
        try simp only [Act.put, List.getElem_toArray, List.getElem_cons_zero, List.getElem_cons_succ, List.setIfInBounds_toArray, List.set_cons_zero, List.set_cons_succ]
        refine wpAnyH_ready (rs := [12]) (by kernel_rfl) (by simp) ?_
        refine AllReadyH.cons rfl (fun K hK => ?_) AllReadyH.nil
        go_simp
        (try dsimp only)
        refine hK.out _ _ ⟨Ext.cellAt ((Ext.refl _).alloc _) x_p1, Ext.cellAt ((Ext.refl _).alloc _) hc0, Ext.cellAt ((Ext.refl _).alloc _) hc1, Ext.cellAt ((Ext.refl _).alloc _) hc2⟩ (fun hHeld => ?_)
        clear hK K
        try simp only [Act.put, List.getElem_toArray, List.getElem_cons_zero, List.getElem_cons_succ, List.setIfInBounds_toArray, List.set_cons_zero, List.set_cons_succ]
        have hV : Ext w5 (w5.alloc (.cells #[.int .i64 fl'.id, .int .i64 fl'.to, .string fl'.bytes] 43)) := (Ext.refl _).alloc _
        have hnew : (w5.alloc (.cells #[.int .i64 fl'.id, .int .i64 fl'.to, .string fl'.bytes] 43)).heap[w5.heap.size]? = some (.cells (eFlight fl').toArray 43 (0, 0)) := heap_alloc_new w5 _
        replace o5 := hV.own o5 (by omega)
        replace x := x.ext hV
        replace y := y.ext hV
        replace q := q.ext hV
        replace hc0 := hV.cellAt hc0
        replace hc1 := hV.cellAt hc1
        replace hc2 := hV.cellAt hc2
        have hX6 := hX5.trans hV
        have hz6 : (w5.alloc (.cells #[.int .i64 fl'.id, .int .i64 fl'.to, .string fl'.bytes] 43)).heap.size = w5.heap.size + 1 := by simp
        clear x_p1 hV hX5 hHeld
        generalize w5.alloc (.cells #[.int .i64 fl'.id, .int .i64 fl'.to, .string fl'.bytes] 43) = w6 at *
        generalize w5.heap.size = g6 at *
        obtain ⟨x_p1, -⟩ := x.at 1 _ rfl
        rotate_left
        go_simp
        (try dsimp only)
        refine hK.out _ _ ⟨Ext.cellAt ((Ext.refl _).alloc _) x_p1, Ext.cellAt ((Ext.refl _).alloc _) hc0, Ext.cellAt ((Ext.refl _).alloc _) hc1, Ext.cellAt ((Ext.refl _).alloc _) hc2⟩ (fun hHeld => ?_)
        clear hK K
        try simp only [Act.put, List.getElem_toArray, List.getElem_cons_zero, List.getElem_cons_succ, List.setIfInBounds_toArray, List.set_cons_zero, List.set_cons_succ]
        refine wpAnyH_ready (rs := [5]) (by kernel_rfl) (by simp) ?_
        refine AllReadyH.cons rfl (fun K hK => ?_) AllReadyH.nil
        go_simp
        have hV : Ext w4 ((w4.alloc (.cells #[.int .i64 fl'.id, .int .i64 fl'.to, .string fl'.bytes] 43)).drew) := ((Ext.refl _).alloc _).drew
        have hnew : ((w4.alloc (.cells #[.int .i64 fl'.id, .int .i64 fl'.to, .string fl'.bytes] 43)).drew).heap[w4.heap.size]? = some (.cells (eFlight fl').toArray 43 (0, 0)) := heap_alloc_new w4 _
        replace ow2 := hV.own ow2 (by omega)
        replace x := x.ext hV
        replace y := y.ext hV
        replace q := q.ext hV
        replace hc0 := hV.cellAt hc0
        replace hc1 := hV.cellAt hc1
        replace hc2 := hV.cellAt hc2
        replace hX4 := hX4.trans hV
        have hz6 : ((w4.alloc (.cells #[.int .i64 fl'.id, .int .i64 fl'.to, .string fl'.bytes] 43)).drew).heap.size = w4.heap.size + 1 := by simp
        clear x_p1 hV hHeld q_p1
        generalize ((w4.alloc (.cells #[.int .i64 fl'.id, .int .i64 fl'.to, .string fl'.bytes] 43)).drew) = wa at *
        obtain ⟨x_p1, -⟩ := x.at 1 _ rfl
        go_at_call 55
        refine (deleteFlight_any A2 m c2 k n.list _ _ _ (by exact ow2) Hl.out hk (by omega)).mono ?_
        rintro e w6 ⟨rfl, o5, hg5⟩
        have hFr : Fr _ _ wa w6 := Fr.of_grown hg5 (fun g h => ow2.lt g h)
        have hX5 : Ext w w6 := hX4.grown hg5 (fun g h => by have := (ow2.lt g h).1; omega)
        have hz5 : wa.heap.size ≤ w6.heap.size := hg5.size
        clear x_p1
        replace x := x.fr hFr (.inl (by omega))
        replace y := y.fr hFr (.inl (by omega))
        replace q := q.fr hFr (.inr (by omega))
        obtain ⟨x_p1, -⟩ := x.at 1 _ rfl
        replace hc0 := hFr.cellAt (g := b) (j := off + k * 3) (by exact hc0) (.inl (by omega))
        replace hc1 := hFr.cellAt (g := b) (j := off + k * 3 + 1) (by exact hc1) (.inl (by omega))
        replace hc2 := hFr.cellAt (g := b) (j := off + k * 3 + 2) (by exact hc2) (.inl (by omega))
        replace hnew := (hFr.block w4.heap.size (by omega) (.inr (by omega))).trans hnew
        have hX6 := hX5
        replace hz6 : w4.heap.size + 1 ≤ w6.heap.size := by omega
        clear ow2 hg5 hFr hX5
        (try dsimp only)
        refine hK.out _ _ ⟨x_p1, hc0, hc1, hc2⟩ (fun hHeld => ?_)
        clear hK K
        try simp only [Act.put, List.getElem_toArray, List.getElem_cons_zero, List.getElem_cons_succ, List.setIfInBounds_toArray, List.set_cons_zero, List.set_cons_succ]
        clear hHeld
        generalize w4.heap.size = g6 at *
        rotate_left
        go_simp
        (try dsimp only)
        refine hK.out _ _ ⟨Ext.cellAt ((Ext.refl _).alloc _) x_p1, Ext.cellAt ((Ext.refl _).alloc _) hc0, Ext.cellAt ((Ext.refl _).alloc _) hc1, Ext.cellAt ((Ext.refl _).alloc _) hc2⟩ (fun hHeld => ?_)
        clear hK K
        try simp only [Act.put, List.getElem_toArray, List.getElem_cons_zero, List.getElem_cons_succ, List.setIfInBounds_toArray, List.set_cons_zero, List.set_cons_succ]
        have q_p9 := Ext.cellAt ((Ext.refl w4).alloc (.cells #[.int .i64 fl'.id, .int .i64 fl'.to, .string fl'.bytes] 43)) q_p1
        refine wpAnyH_ready (rs := [1]) (by kernel_rfl) (by simp) ?_
        refine AllReadyH.cons rfl (fun K hK => ?_) AllReadyH.nil
        go_simp
        (try dsimp only)
        refine hK.out _ _ ⟨Ext.cellAt ((Ext.refl _).alloc _) x_p1, Ext.cellAt ((Ext.refl _).alloc _) hc0, Ext.cellAt ((Ext.refl _).alloc _) hc1, Ext.cellAt ((Ext.refl _).alloc _) hc2⟩ (fun hHeld => ?_)
        clear hK K
        try simp only [Act.put, List.getElem_toArray, List.getElem_cons_zero, List.getElem_cons_succ, List.setIfInBounds_toArray, List.set_cons_zero, List.set_cons_succ]
        clear q_p9
        refine wpAnyH_ready (rs := [5]) (by kernel_rfl) (by simp) ?_
        refine AllReadyH.cons rfl (fun K hK => ?_) AllReadyH.nil
        go_simp
        have hV : Ext w4 ((w4.alloc (.cells #[.int .i64 fl'.id, .int .i64 fl'.to, .string fl'.bytes] 43)).drew) := ((Ext.refl _).alloc _).drew
        have hnew : ((w4.alloc (.cells #[.int .i64 fl'.id, .int .i64 fl'.to, .string fl'.bytes] 43)).drew).heap[w4.heap.size]? = some (.cells (eFlight fl').toArray 43 (0, 0)) := heap_alloc_new w4 _
        replace ow2 := hV.own ow2 (by omega)
        replace x := x.ext hV
        replace y := y.ext hV
        replace q := q.ext hV
        replace hc0 := hV.cellAt hc0
        replace hc1 := hV.cellAt hc1
        replace hc2 := hV.cellAt hc2
        replace hX4 := hX4.trans hV
        have hz6 : ((w4.alloc (.cells #[.int .i64 fl'.id, .int .i64 fl'.to, .string fl'.bytes] 43)).drew).heap.size = w4.heap.size + 1 := by simp
        clear x_p1 hV hHeld q_p1
        generalize ((w4.alloc (.cells #[.int .i64 fl'.id, .int .i64 fl'.to, .string fl'.bytes] 43)).drew) = wa at *
        obtain ⟨x_p1, -⟩ := x.at 1 _ rfl
        go_at_call 55
        refine (deleteFlight_any A2 m c2 k n.list _ _ _ (by exact ow2) Hl.out hk (by omega)).mono ?_
        rintro e w6 ⟨rfl, o5, hg5⟩
        have hFr : Fr _ _ wa w6 := Fr.of_grown hg5 (fun g h => ow2.lt g h)
        have hX5 : Ext w w6 := hX4.grown hg5 (fun g h => by have := (ow2.lt g h).1; omega)
        have hz5 : wa.heap.size ≤ w6.heap.size := hg5.size
        clear x_p1
        replace x := x.fr hFr (.inl (by omega))
        replace y := y.fr hFr (.inl (by omega))
        replace q := q.fr hFr (.inr (by omega))
        obtain ⟨x_p1, -⟩ := x.at 1 _ rfl
        replace hc0 := hFr.cellAt (g := b) (j := off + k * 3) (by exact hc0) (.inl (by omega))
        replace hc1 := hFr.cellAt (g := b) (j := off + k * 3 + 1) (by exact hc1) (.inl (by omega))
        replace hc2 := hFr.cellAt (g := b) (j := off + k * 3 + 2) (by exact hc2) (.inl (by omega))
        replace hnew := (hFr.block w4.heap.size (by omega) (.inr (by omega))).trans hnew
        have hX6 := hX5
        replace hz6 : w4.heap.size + 1 ≤ w6.heap.size := by omega
        clear ow2 hg5 hFr hX5
        (try dsimp only)
        refine hK.out _ _ ⟨x_p1, hc0, hc1, hc2⟩ (fun hHeld => ?_)
        clear hK K
        try simp only [Act.put, List.getElem_toArray, List.getElem_cons_zero, List.getElem_cons_succ, List.setIfInBounds_toArray, List.set_cons_zero, List.set_cons_succ]
        clear hHeld
        generalize w4.heap.size = g6 at *
        rotate_left
        all_goals
          refine wpAnyH_ready (rs := [13]) (by kernel_rfl) (by simp) ?_
          refine AllReadyH.cons rfl (fun K hK => ?_) AllReadyH.nil
          go_simp
          go_at_call 56
          refine (insertFlight_any A2 (m - 1) c2 j g6 (n.list.take k ++ n.list.drop (k + 1)) fl' _ _ _ (by exact o5) Hol.out (by omega) (by omega) (by omega) (by omega) (by exact hnew)).mono ?_
          rintro e w7 ⟨A7, c7, rfl, o7, hg7⟩
          have hFr : Fr _ _ _ w7 := Fr.of_grown hg7 (fun g h => o5.lt g h)
          have hX7 : Ext w w7 := hX6.grown hg7 (fun g h => by have := (o5.lt g h).1; omega)
          have hz7 := hg7.size
          clear x_p1
          replace x := x.fr hFr (.inl (by omega))
          replace y := y.fr hFr (.inl (by omega))
          replace q := q.fr hFr (.inr (by omega))
          obtain ⟨x_p1, x_f1⟩ := x.at 1 _ rfl
          obtain ⟨q_p0, q_f0⟩ := q.at 0 _ rfl
          obtain ⟨q_p1, q_f1⟩ := q.at 1 _ rfl
          obtain ⟨y_p0, y_f0⟩ := y.at 0 _ rfl
          obtain ⟨y_p1, y_f1⟩ := y.at 1 _ rfl
          replace hc0 := hFr.cellAt hc0 (.inl (by omega))
          replace hc1 := hFr.cellAt hc1 (.inl (by omega))
          replace hc2 := hFr.cellAt hc2 (.inl (by omega))
          rw [Hm11.out] at o7
          rw [Hm11.out]
          clear o5 hg7 hFr
          (try dsimp only)
          refine hK.out _ _ ⟨x_p1, hc0, hc1, hc2⟩ (fun hHeld => ?_)
          clear hK K
          try simp only [Act.put, List.getElem_toArray, List.getElem_cons_zero, List.getElem_cons_succ, List.setIfInBounds_toArray, List.set_cons_zero, List.set_cons_succ]
          refine wpAnyH_take (i := 14) (v := ?_) rfl (by kernel_rfl) (by kernel_rfl) (by kernel_rfl) (fun _ _ _ h => h) (Or.inl ⟨by rfl, ?_⟩) (by assumption) ?_
          rotate_left
          · (intro w hSw; (try dsimp only at hSw); go_simp; (try with_reducible rfl))
          try simp only [Act.put, List.getElem_toArray, List.getElem_cons_zero, List.getElem_cons_succ, List.setIfInBounds_toArray, List.set_cons_zero, List.set_cons_succ]
          have k8 : O_FlightS (w7.setCell ⟨w2.heap.size, 1, none⟩ (.slice A7 m c7)) _ _ (.slice A7 m c7) (moveL n.list k j fl') := OwnS.dodge (OwnS.of o7 Hml.out) q.bt (by decide) 1 (.slice A7 m c7)
          refine wpAnyH_ready (rs := [15]) (by kernel_rfl) (by simp) ?_
          refine AllReadyH.cons rfl (fun K hK => ?_) AllReadyH.nil
          go_simp
          (try dsimp only)
          refine hK.out _ _ ⟨(by (try rw [cell_drew]); (repeat rw [cell_set_ne _ _ _ _ _ _ (by omega)]); exact x_p1), (by (try rw [cell_drew]); (repeat rw [cell_set_ne _ _ _ _ _ _ (by omega)]); exact hc0), (by (try rw [cell_drew]); (repeat rw [cell_set_ne _ _ _ _ _ _ (by omega)]); exact hc1), (by (try rw [cell_drew]); (repeat rw [cell_set_ne _ _ _ _ _ _ (by omega)]); exact hc2)⟩ (fun hHeld => ?_)
          clear hK K
          try simp only [Act.put, List.getElem_toArray, List.getElem_cons_zero, List.getElem_cons_succ, List.setIfInBounds_toArray, List.set_cons_zero, List.set_cons_succ]
          refine wpAnyH_done (by kernel_rfl) ?_ _
          clear hHeld o7
          have hX8 : Ext w (w7.setCell ⟨w2.heap.size, 1, none⟩ (.slice A7 m c7)) := hX7.set (by omega) _ _
          go_wp2
          rw [hf.out]
          exact bodyPost_ret (v := .tuple #[.agg #[.int .i64 n.next, .slice A7 m c7], .int .i64 0]) (by simp [results, Try.results33, go_sem, y_p0, y_p1]) rfl ⟨_, rfl, ⟨_, rfl, (O_FlightS.keep k8 (show Kp _ _ _ _ by repeat' (first | with_reducible exact Kp.refl _ _ _ | with_reducible assumption | with_reducible refine Kp.set ?_ ?_ _ _ | with_reducible refine Kp.alloc ?_ ?_ _ | with_reducible refine Kp.drew ?_ | with_reducible refine Kp.drewN ?_ _ | with_reducible refine Kp.ext ?_ ?_ (by with_reducible assumption) | with_reducible refine Kp.fr ?_ ?_ ?_ (by with_reducible assumption) | omega | (simp; done) | (simp; omega)))).wide (by first | omega | (simp; omega)) (by first | (simp; done) | (simp; omega))⟩, by repeat' (first | with_reducible exact Ext.refl _ | with_reducible assumption | with_reducible refine Ext.set ?_ ?_ _ _ | with_reducible refine Ext.alloc ?_ _ | with_reducible refine Ext.drew ?_ | with_reducible refine Ext.drewN ?_ _ | with_reducible refine Ext.trans ?_ (by with_reducible assumption) | omega | (simp; done) | (simp; omega))⟩

theorem moveL_form (l : List FlightD) (k j : Nat) (x : FlightD) : ((offL l k).take j ++ [x]) ++ (offL l k).drop j = moveL l k j x := by
  unfold moveL
  simp
set_option maxRecDepth 100000 in
set_option maxHeartbeats 8000000 in
theorem netMove_s (v : Value) (n : NetD) (i tt : Int) (w : World) (B : Nat) (hr : R_Net w B v n) (hB : B ≤ w.heap.size) (hsz : n.list.length ≤ 1048576) :
    Calls Try.prog 32 #[v, .int .i64 i, .int .i64 tt] w fun e w' => ∃ v', e = .returned (.tuple #[v', .int .i64 (netMove n i tt).2]) ∧ O_Net w' w.heap.size w'.heap.size v' (netMove n i tt).1 ∧ Ext w w' := by
  have hr0 := hr
  obtain ⟨u, rfl, A, m, c, rfl, hl, hmc, hcm, hrd⟩ := hr
  rw [hl] at hsz
  have Hl := Lib.hid hl
  obtain ⟨i0, hi0, hz0, hz1, hz2⟩ := info_parts info_Flight
  clear hl
  have hW0 : Ext w ((w.alloc (.cells #[.int .i64 n.next, .slice A m c] 29)).alloc (.cells #[.int .i64 0, .slice none 0 0] 29)) := by repeat' (first | with_reducible exact Ext.refl _ | with_reducible assumption | with_reducible refine Ext.set ?_ ?_ _ _ | with_reducible refine Ext.alloc ?_ _ | with_reducible refine Ext.drew ?_ | with_reducible refine Ext.drewN ?_ _ | with_reducible refine Ext.trans ?_ (by with_reducible assumption) | omega | (simp; done) | (simp; omega))
  have zW0 : w.heap.size + 2 ≤ ((w.alloc (.cells #[.int .i64 n.next, .slice A m c] 29)).alloc (.cells #[.int .i64 0, .slice none 0 0] 29)).heap.size := by simp
  have x : Blk ((w.alloc (.cells #[.int .i64 n.next, .slice A m c] 29)).alloc (.cells #[.int .i64 0, .slice none 0 0] 29)) w.heap.size 29 [.int .i64 n.next, .slice A m c] := ((Blk.new w #[.int .i64 n.next, .slice A m c] 29 (by first | rfl | simp)).alloc (.cells #[.int .i64 0, .slice none 0 0] 29))
  have y : Blk ((w.alloc (.cells #[.int .i64 n.next, .slice A m c] 29)).alloc (.cells #[.int .i64 0, .slice none 0 0] 29)) (w.heap.size + 1) 29 [.int .i64 0, .slice none 0 0] := (Blk.new (w.alloc (.cells #[.int .i64 n.next, .slice A m c] 29)) #[.int .i64 0, .slice none 0 0] 29 (by first | rfl | simp))
  have htk := fun W hW hB' => netTake_s (.agg #[.int .i64 n.next, .slice A m c]) n i W B hW hB' (by rw [Hl.out]; exact hsz)
  rcases netMove_cases n i tt with ⟨N, cd, hcd, ht, hd⟩ | ⟨hok, fl, hfa⟩
  · rw [ht] at htk
    rw [hd]
    have e1 : (cd != 0) = true := by simpa using hcd
    clear ht hd hcd
    go_enter Try.func32, Try.ntmps32
    go_wp2_with fail
    generalize ((w.alloc (.cells #[.int .i64 n.next, .slice A m c] 29)).alloc (.cells #[.int .i64 0, .slice none 0 0] 29)) = W0 at *
    refine (htk _ (by exact hr0.keep (keepE' hW0 hB)) (by omega)).mono ?_
    rintro e w1 ⟨v1, rfl, o1, hE1⟩
    obtain ⟨u1, rfl, k1⟩ := o1
    obtain ⟨A1, m1, c1, hv1, -⟩ := id k1
    subst hv1
    have hX1 := hW0.trans hE1
    have hz1' := hE1.size
    replace x := x.ext hE1
    replace y := y.ext hE1
    clear hE1 hW0 htk
    have hW1 : Ext w1 ((w1.alloc (.cells #[.int .i64 N.next, .slice A1 m1 c1] 29)).alloc (.cells #[.int .i64 zeroF.id, .int .i64 zeroF.to, .string zeroF.bytes] 43)) := by repeat' (first | with_reducible exact Ext.refl _ | with_reducible assumption | with_reducible refine Ext.set ?_ ?_ _ _ | with_reducible refine Ext.alloc ?_ _ | with_reducible refine Ext.drew ?_ | with_reducible refine Ext.drewN ?_ _ | with_reducible refine Ext.trans ?_ (by with_reducible assumption) | omega | (simp; done) | (simp; omega))
    have zW1 : w1.heap.size + 2 ≤ ((w1.alloc (.cells #[.int .i64 N.next, .slice A1 m1 c1] 29)).alloc (.cells #[.int .i64 zeroF.id, .int .i64 zeroF.to, .string zeroF.bytes] 43)).heap.size := by simp
    have q : Blk ((w1.alloc (.cells #[.int .i64 N.next, .slice A1 m1 c1] 29)).alloc (.cells #[.int .i64 zeroF.id, .int .i64 zeroF.to, .string zeroF.bytes] 43)) w1.heap.size 29 [.int .i64 N.next, .slice A1 m1 c1] := ((Blk.new w1 #[.int .i64 N.next, .slice A1 m1 c1] 29 (by first | rfl | simp)).alloc (.cells #[.int .i64 zeroF.id, .int .i64 zeroF.to, .string zeroF.bytes] 43))
    have f : Blk ((w1.alloc (.cells #[.int .i64 N.next, .slice A1 m1 c1] 29)).alloc (.cells #[.int .i64 zeroF.id, .int .i64 zeroF.to, .string zeroF.bytes] 43)) (w1.heap.size + 1) 43 [.int .i64 zeroF.id, .int .i64 zeroF.to, .string zeroF.bytes] := (Blk.new (w1.alloc (.cells #[.int .i64 N.next, .slice A1 m1 c1] 29)) #[.int .i64 zeroF.id, .int .i64 zeroF.to, .string zeroF.bytes] 43 (by first | rfl | simp))
    replace x := x.ext hW1
    replace y := y.ext hW1
    replace k1 := k1.keep (keepE hW1 (Nat.le_refl _))
    have hX2 := hX1.trans hW1
    have hlx := x.lt
    have hly := y.lt
    obtain ⟨x_p0, x_f0⟩ := x.at 0 _ rfl
    obtain ⟨x_p1, x_f1⟩ := x.at 1 _ rfl
    obtain ⟨y_p0, y_f0⟩ := y.at 0 _ rfl
    obtain ⟨y_p1, y_f1⟩ := y.at 1 _ rfl
    obtain ⟨q_p0, q_f0⟩ := q.at 0 _ rfl
    obtain ⟨q_p1, q_f1⟩ := q.at 1 _ rfl
    obtain ⟨f_p0, f_f0⟩ := f.at 0 _ rfl
    obtain ⟨f_p1, f_f1⟩ := f.at 1 _ rfl
    obtain ⟨f_p2, f_f2⟩ := f.at 2 _ rfl
    go_upto_region 2 with (fail)
    clear hW1
    generalize ((w1.alloc (.cells #[.int .i64 N.next, .slice A1 m1 c1] 29)).alloc (.cells #[.int .i64 zeroF.id, .int .i64 zeroF.to, .string zeroF.bytes] 43)) = W1 at *
    go_wp2
    exact bodyPost_ret (v := .tuple #[.agg #[.int .i64 N.next, .slice A1 m1 c1], .int .i64 cd]) (by simp [results, Try.results32, go_sem, y_p0, y_p1]) rfl ⟨_, rfl, ⟨_, rfl, (O_FlightS.keep k1 (show Kp _ _ _ _ by repeat' (first | with_reducible exact Kp.refl _ _ _ | with_reducible assumption | with_reducible refine Kp.set ?_ ?_ _ _ | with_reducible refine Kp.alloc ?_ ?_ _ | with_reducible refine Kp.drew ?_ | with_reducible refine Kp.drewN ?_ _ | with_reducible refine Kp.ext ?_ ?_ (by with_reducible assumption) | with_reducible refine Kp.fr ?_ ?_ ?_ (by with_reducible assumption) | omega | (simp; done) | (simp; omega)))).wide (by omega) (by first | (simp; done) | (simp; omega))⟩, by repeat' (first | with_reducible exact Ext.refl _ | with_reducible assumption | with_reducible refine Ext.set ?_ ?_ _ _ | with_reducible refine Ext.alloc ?_ _ | with_reducible refine Ext.drew ?_ | with_reducible refine Ext.drewN ?_ _ | with_reducible refine Ext.trans ?_ (by with_reducible assumption) | omega | (simp; done) | (simp; omega))⟩
  · obtain ⟨k, hk0, hk, hfl⟩ := flAt_some hfa
    subst hk0
    obtain ⟨h1, h2, h3⟩ := netOk_parts hok
    rw [netTake_in hok hfa] at htk
    dsimp only at htk
    have Hol : Hid ((offL n.list k).length = m - 1) := by show _ = _; rw [offL_length hk, Hl.out]
    rw [Hl.out] at h3 hk
    have Hok := Lib.hid hok
    have Hfa := Lib.hid hfa
    obtain ⟨ft, hft⟩ : ∃ ft, flAt n.list tt = ft := ⟨_, rfl⟩
    have Hft := Lib.hid hft
    clear hfa hfl hok hft
    go_enter Try.func32, Try.ntmps32
    go_wp2_with fail
    generalize ((w.alloc (.cells #[.int .i64 n.next, .slice A m c] 29)).alloc (.cells #[.int .i64 0, .slice none 0 0] 29)) = W0 at *
    refine (htk _ (by exact hr0.keep (keepE' hW0 hB)) (by omega)).mono ?_
    rintro e w1 ⟨v1, rfl, o1, hE1⟩
    obtain ⟨u1, rfl, k1⟩ := o1
    obtain ⟨A1, m1, c1, hv1, hl1, ow1⟩ := k1
    subst hv1
    have hm1 : m - 1 = m1 := by rw [← Hol.out]; exact hl1
    clear hl1
    have hX1 := hW0.trans hE1
    have hz1' := hE1.size
    replace x := x.ext hE1
    replace y := y.ext hE1
    clear hE1 hW0 htk
    have hW1 : Ext w1 ((w1.alloc (.cells #[.int .i64 n.next, .slice A1 m1 c1] 29)).alloc (.cells #[.int .i64 fl.id, .int .i64 fl.to, .string fl.bytes] 43)) := by repeat' (first | with_reducible exact Ext.refl _ | with_reducible assumption | with_reducible refine Ext.set ?_ ?_ _ _ | with_reducible refine Ext.alloc ?_ _ | with_reducible refine Ext.drew ?_ | with_reducible refine Ext.drewN ?_ _ | with_reducible refine Ext.trans ?_ (by with_reducible assumption) | omega | (simp; done) | (simp; omega))
    have zW1 : w1.heap.size + 2 ≤ ((w1.alloc (.cells #[.int .i64 n.next, .slice A1 m1 c1] 29)).alloc (.cells #[.int .i64 fl.id, .int .i64 fl.to, .string fl.bytes] 43)).heap.size := by simp
    have q : Blk ((w1.alloc (.cells #[.int .i64 n.next, .slice A1 m1 c1] 29)).alloc (.cells #[.int .i64 fl.id, .int .i64 fl.to, .string fl.bytes] 43)) w1.heap.size 29 [.int .i64 n.next, .slice A1 m1 c1] := ((Blk.new w1 #[.int .i64 n.next, .slice A1 m1 c1] 29 (by first | rfl | simp)).alloc (.cells #[.int .i64 fl.id, .int .i64 fl.to, .string fl.bytes] 43))
    have f : Blk ((w1.alloc (.cells #[.int .i64 n.next, .slice A1 m1 c1] 29)).alloc (.cells #[.int .i64 fl.id, .int .i64 fl.to, .string fl.bytes] 43)) (w1.heap.size + 1) 43 [.int .i64 fl.id, .int .i64 fl.to, .string fl.bytes] := (Blk.new (w1.alloc (.cells #[.int .i64 n.next, .slice A1 m1 c1] 29)) #[.int .i64 fl.id, .int .i64 fl.to, .string fl.bytes] 43 (by first | rfl | simp))
    replace x := x.ext hW1
    replace y := y.ext hW1
    replace ow1 := hW1.own ow1 (Nat.le_refl _)
    have hX2 := hX1.trans hW1
    have hlx := x.lt
    have hly := y.lt
    obtain ⟨x_p0, x_f0⟩ := x.at 0 _ rfl
    obtain ⟨x_p1, x_f1⟩ := x.at 1 _ rfl
    obtain ⟨y_p0, y_f0⟩ := y.at 0 _ rfl
    obtain ⟨y_p1, y_f1⟩ := y.at 1 _ rfl
    obtain ⟨q_p0, q_f0⟩ := q.at 0 _ rfl
    obtain ⟨q_p1, q_f1⟩ := q.at 1 _ rfl
    obtain ⟨f_p0, f_f0⟩ := f.at 0 _ rfl
    obtain ⟨f_p1, f_f1⟩ := f.at 1 _ rfl
    obtain ⟨f_p2, f_f2⟩ := f.at 2 _ rfl
    go_upto_region 2 with (fail)
    clear hW1
    generalize ((w1.alloc (.cells #[.int .i64 n.next, .slice A1 m1 c1] 29)).alloc (.cells #[.int .i64 fl.id, .int .i64 fl.to, .string fl.bytes] 43)) = W1 at *
    have hlq := q.lt
    have hlf := f.lt
    cases ft with
    | none =>
      have hf : Hid (netMove n (k : Int) tt = (n, 2)) := by show _ = _; exact netMove_none2 Hok.out Hft.out
      have hno := flAt_none Hft.out
      rw [Hl.out] at hno
      have hw : decide (tt < 0) = true ∨ decide (tt < 0) = false ∧ decide ((m : Int) ≤ tt) = true := by
        by_cases h : tt < 0
        · exact .inl (by simpa using h)
        · exact .inr ⟨by simpa using h, by simp; omega⟩
      clear hno hm1
      rcases hw with d1 | ⟨d1, d2⟩
      all_goals
        go_wp2_with fail
        refine (l5Copy_s _ n _ B (by exact hr0.keep (keepE' hX2 hB)) (by omega) (by rw [Hl.out]; omega)).mono ?_
        rintro e w2 ⟨v2, rfl, o2, hE2⟩
        obtain ⟨u2, rfl, k2⟩ := o2
        obtain ⟨A2, m2, c2, hv2, -⟩ := id k2
        subst hv2
        have hz2' := hE2.size
        have hX3 := hX2.trans hE2
        clear x_p0 x_f0 x_p1 x_f1 y_p0 y_f0 y_p1 y_f1
        replace x := x.ext hE2
        replace y := y.ext hE2
        obtain ⟨x_p0, x_f0⟩ := x.at 0 _ rfl
        obtain ⟨x_p1, x_f1⟩ := x.at 1 _ rfl
        obtain ⟨y_p0, y_f0⟩ := y.at 0 _ rfl
        obtain ⟨y_p1, y_f1⟩ := y.at 1 _ rfl
        clear hE2
        go_wp2
        rw [hf.out]
        exact bodyPost_ret (v := .tuple #[.agg #[.int .i64 n.next, .slice A2 m2 c2], .int .i64 2]) (by simp [results, Try.results32, go_sem, y_p0, y_p1]) rfl ⟨_, rfl, ⟨_, rfl, (O_FlightS.keep k2 (show Kp _ _ _ _ by repeat' (first | with_reducible exact Kp.refl _ _ _ | with_reducible assumption | with_reducible refine Kp.set ?_ ?_ _ _ | with_reducible refine Kp.alloc ?_ ?_ _ | with_reducible refine Kp.drew ?_ | with_reducible refine Kp.drewN ?_ _ | with_reducible refine Kp.ext ?_ ?_ (by with_reducible assumption) | with_reducible refine Kp.fr ?_ ?_ ?_ (by with_reducible assumption) | omega | (simp; done) | (simp; omega)))).wide (by omega) (by first | (simp; done) | (simp; omega))⟩, by repeat' (first | with_reducible exact Ext.refl _ | with_reducible assumption | with_reducible refine Ext.set ?_ ?_ _ _ | with_reducible refine Ext.alloc ?_ _ | with_reducible refine Ext.drew ?_ | with_reducible refine Ext.drewN ?_ _ | with_reducible refine Ext.trans ?_ (by with_reducible assumption) | omega | (simp; done) | (simp; omega))⟩
    | some fy =>
      obtain ⟨j, hj0, hj, -⟩ := flAt_some Hft.out
      subst hj0
      have hf : Hid (netMove n (k : Int) (j : Int) = (⟨n.next, moveL n.list k j fl⟩, 0)) := by show _ = _; exact netMove_in Hok.out Hfa.out Hft.out
      have Hml : Hid ((moveL n.list k j fl).length = m) := by show _ = _; rw [moveL_length fl (by rw [Hl.out]; exact hk) hj, Hl.out]
      rw [Hl.out] at hj
      have hj1 : (j : Int) < (m : Int) := by omega
      have d1 : decide ((j : Int) < 0) = false := by simp
      have d2 : decide ((m : Int) ≤ (j : Int)) = false := by simp; omega
      have d3 : decide (m ≤ j) = false := by simp; omega
      have hjm : j ≤ m1 := by omega
      have hm1b : m1 ≤ 60 := by omega
      have hm1m : m1 + 1 = m := by omega
      have Hm1m := Lib.hid hm1m
      clear hm1 hm1m
      obtain ⟨-, hmc1, hcm1, hrd1⟩ := ow1.rd
      have hrt := hrd1.take hjm
      rw [flat_take eFlight_len] at hrt
      have hrc := hrd1.cut hjm hmc1
      rw [flat_drop eFlight_len] at hrc
      clear hrd1
      go_upto_region 6 with (fail)
      go_wp2_with (at_builtin; refine wpList_app _ rfl _ _ 27 rfl 43 i0 _ 3 32 Try.underlying27 hi0 hz0 hz1 hz2 rfl (by omega) (W1.heap.size + 1) (W1.heap.size + 1) (.slice (some ⟨W1.heap.size, 0, none⟩) 0 0) 0 [] rfl (Own.nil _ _ _ _ _ _) (by simp) (by simp) W1.heap.size A1 j _ _ rfl (((Ext.refl W1).alloc _).rd (hrt.more (by omega)) (Nat.le_refl _)) (oneCell_Flight _) (by unfold maxLen; omega) (by omega) ?_)
      intro A6 c6 w6 o6 hg6
      have hE6 : Ext W1 w6 := ((Ext.refl W1).alloc _).grown hg6 (fun g h => by simp [blk] at h)
      try simp only [Nat.zero_add, List.nil_append] at o6
      have hz6 := hE6.size
      have hX6 := hX2.trans hE6
      clear hrt hg6
      clear x_p0 x_f0 x_p1 x_f1 y_p0 y_f0 y_p1 y_f1 q_p0 q_f0 q_p1 q_f1 f_p0 f_f0 f_p1 f_f1 f_p2 f_f2
      replace x := x.ext hE6
      replace y := y.ext hE6
      replace q := q.ext hE6
      replace f := f.ext hE6
      obtain ⟨x_p0, x_f0⟩ := x.at 0 _ rfl
      obtain ⟨x_p1, x_f1⟩ := x.at 1 _ rfl
      obtain ⟨y_p0, y_f0⟩ := y.at 0 _ rfl
      obtain ⟨y_p1, y_f1⟩ := y.at 1 _ rfl
      obtain ⟨q_p0, q_f0⟩ := q.at 0 _ rfl
      obtain ⟨q_p1, q_f1⟩ := q.at 1 _ rfl
      obtain ⟨f_p0, f_f0⟩ := f.at 0 _ rfl
      obtain ⟨f_p1, f_f1⟩ := f.at 1 _ rfl
      obtain ⟨f_p2, f_f2⟩ := f.at 2 _ rfl
      go_upto_region 7 with (fail)
      go_wp2_with (at_builtin; refine wpList_app _ rfl _ _ 27 rfl 43 i0 _ 3 32 Try.underlying27 hi0 hz0 hz1 hz2 rfl (by omega) (W1.heap.size + 1) w6.heap.size (.slice A6 j c6) j _ rfl (((Ext.refl w6).alloc _).own o6 (by omega)) (by simp; omega) (by first | omega | (simp; done) | (simp; omega)) (w6.heap.size + 1) (some ⟨w6.heap.size, 0, none⟩) 1 1 (eFlight fl) rfl (own_made w6 #[.int .i64 fl.id, .int .i64 fl.to, .string fl.bytes] 1 43 3 (by unfold maxLen; omega) rfl).rd.2.2.2 (fun u hu => oneCell_Flight [fl] u (by simpa using hu)) (by unfold maxLen; omega) (by omega) ?_)
      intro A7 c7 w7 o7 hg7
      have hFr : Fr _ _ _ w7 := Fr.of_grown hg7 (fun g h => o6.lt g h)
      have hX7 : Ext w w7 := (hX6.alloc _).grown hg7 (fun g h => by have := (o6.lt g h).1; omega)
      have hE7 : Ext W1 w7 := (hE6.alloc _).grown hg7 (fun g h => by have := (o6.lt g h).1; omega)
      have hz7 := hg7.size
      simp only [World.size_alloc] at hz7
      clear x_p0 x_f0 x_p1 x_f1 y_p0 y_f0 y_p1 y_f1 q_p0 q_f0 q_p1 q_f1 f_p0 f_f0 f_p1 f_f1 f_p2 f_f2
      replace x := (x.alloc (.cells #[.int .i64 fl.id, .int .i64 fl.to, .string fl.bytes] 43)).fr hFr (.inl (by omega))
      replace y := (y.alloc (.cells #[.int .i64 fl.id, .int .i64 fl.to, .string fl.bytes] 43)).fr hFr (.inl (by omega))
      replace q := (q.alloc (.cells #[.int .i64 fl.id, .int .i64 fl.to, .string fl.bytes] 43)).fr hFr (.inl (by omega))
      clear hFr hg7
      have o7' : Own w7 (W1.heap.size + 1) w7.heap.size 43 3 (.slice A7 (j + 1) c7) (j + 1) (((offL n.list k).take j ++ [fl]).flatMap eFlight) := by rw [List.flatMap_append]; simpa using o7
      clear o7 o6
      have hrc7 := hE7.rd (hrc.more (by omega)) (Nat.le_refl _)
      by_cases hck : c1 = j
      · have hnk : m1 = j := by omega
        have hnz : m1 - j = 0 := by omega
        rw [if_pos hck, hnz] at hrc7
        clear hnz hrc
        subst hck
        obtain ⟨y_p0, y_f0⟩ := y.at 0 _ rfl
        obtain ⟨y_p1, y_f1⟩ := y.at 1 _ rfl
        obtain ⟨q_p0, q_f0⟩ := q.at 0 _ rfl
        obtain ⟨q_p1, q_f1⟩ := q.at 1 _ rfl
        go_wp2_with (at_builtin; refine wpList_app _ rfl _ _ 27 rfl 43 i0 _ 3 32 Try.underlying27 hi0 hz0 hz1 hz2 rfl (by omega) (W1.heap.size + 1) w7.heap.size (.slice A7 (c1 + 1) c7) (c1 + 1) _ rfl o7' (by omega) (Nat.le_refl _) W1.heap.size A1 0 _ _ rfl hrc7 (oneCell_Flight _) (by unfold maxLen; omega) (by omega) ?_)
        intro A9 c9 w9 o9 hg9
        have hFr : Fr _ _ _ w9 := Fr.of_grown hg9 (fun g h => o7'.lt g h)
        have hX9 : Ext w w9 := hX7.grown hg9 (fun g h => by have := (o7'.lt g h).1; omega)
        have hz9 := hg9.size
        clear y_p0 y_f0 y_p1 y_f1 q_p0 q_f0 q_p1 q_f1
        replace y := y.fr hFr (.inl (by omega))
        replace q := q.fr hFr (.inl (by omega))
        clear hFr hg9
        have hLm : c1 + 1 + 0 = m := by have := Hm1m.out; omega
        rw [hLm] at o9
        rw [hLm]
        have k9 : O_FlightS (w9.setCell ⟨w1.heap.size, 1, none⟩ (.slice A9 m c9)) _ _ (.slice A9 m c9) (moveL n.list k c1 fl) := OwnS.dodge (OwnS.of (by rw [← moveL_form, List.flatMap_append, List.flatMap_append]; simpa using o9) Hml.out) q.bt (by decide) 1 (.slice A9 m c9)
        have hX10 : Ext w (w9.setCell ⟨w1.heap.size, 1, none⟩ (.slice A9 m c9)) := hX9.set (by omega) _ _
        clear o9 o7' hLm hrc7 hnk
        obtain ⟨y_p0, y_f0⟩ := y.at 0 _ rfl
        obtain ⟨y_p1, y_f1⟩ := y.at 1 _ rfl
        obtain ⟨q_p0, q_f0⟩ := q.at 0 _ rfl
        obtain ⟨q_p1, q_f1⟩ := q.at 1 _ rfl
        go_wp2
        rw [hf.out]
        exact bodyPost_ret (v := .tuple #[.agg #[.int .i64 n.next, .slice A9 m c9], .int .i64 0]) (by simp [results, Try.results32, go_sem, y_p0, y_p1]) rfl ⟨_, rfl, ⟨_, rfl, (O_FlightS.keep k9 (show Kp _ _ _ _ by repeat' (first | with_reducible exact Kp.refl _ _ _ | with_reducible assumption | with_reducible refine Kp.set ?_ ?_ _ _ | with_reducible refine Kp.alloc ?_ ?_ _ | with_reducible refine Kp.drew ?_ | with_reducible refine Kp.drewN ?_ _ | with_reducible refine Kp.ext ?_ ?_ (by with_reducible assumption) | with_reducible refine Kp.fr ?_ ?_ ?_ (by with_reducible assumption) | omega | (simp; done) | (simp; omega)))).wide (by first | omega | (simp; omega)) (by first | (simp; done) | (simp; omega))⟩, by repeat' (first | with_reducible exact Ext.refl _ | with_reducible assumption | with_reducible refine Ext.set ?_ ?_ _ _ | with_reducible refine Ext.alloc ?_ _ | with_reducible refine Ext.drew ?_ | with_reducible refine Ext.drewN ?_ _ | with_reducible refine Ext.trans ?_ (by with_reducible assumption) | omega | (simp; done) | (simp; omega))⟩
      · rw [if_neg hck] at hrc7
        clear hrc
        obtain ⟨y_p0, y_f0⟩ := y.at 0 _ rfl
        obtain ⟨y_p1, y_f1⟩ := y.at 1 _ rfl
        obtain ⟨q_p0, q_f0⟩ := q.at 0 _ rfl
        obtain ⟨q_p1, q_f1⟩ := q.at 1 _ rfl
        go_wp2_with (at_builtin; refine wpList_app _ rfl _ _ 27 rfl 43 i0 _ 3 32 Try.underlying27 hi0 hz0 hz1 hz2 rfl (by omega) (W1.heap.size + 1) w7.heap.size (.slice A7 (j + 1) c7) (j + 1) _ rfl o7' (by omega) (Nat.le_refl _) W1.heap.size (Option.map (fun x => x.add (j * 3)) A1) (m1 - j) _ _ rfl hrc7 (oneCell_Flight _) (by unfold maxLen; omega) (by omega) ?_)
        intro A9 c9 w9 o9 hg9
        have hFr : Fr _ _ _ w9 := Fr.of_grown hg9 (fun g h => o7'.lt g h)
        have hX9 : Ext w w9 := hX7.grown hg9 (fun g h => by have := (o7'.lt g h).1; omega)
        have hz9 := hg9.size
        clear y_p0 y_f0 y_p1 y_f1 q_p0 q_f0 q_p1 q_f1
        replace y := y.fr hFr (.inl (by omega))
        replace q := q.fr hFr (.inl (by omega))
        clear hFr hg9
        have hLm : j + 1 + (m1 - j) = m := by have := Hm1m.out; omega
        rw [hLm] at o9
        rw [hLm]
        have k9 : O_FlightS (w9.setCell ⟨w1.heap.size, 1, none⟩ (.slice A9 m c9)) _ _ (.slice A9 m c9) (moveL n.list k j fl) := OwnS.dodge (OwnS.of (by rw [← moveL_form, List.flatMap_append, List.flatMap_append]; simpa using o9) Hml.out) q.bt (by decide) 1 (.slice A9 m c9)
        have hX10 : Ext w (w9.setCell ⟨w1.heap.size, 1, none⟩ (.slice A9 m c9)) := hX9.set (by omega) _ _
        clear o9 o7' hLm hrc7
        obtain ⟨y_p0, y_f0⟩ := y.at 0 _ rfl
        obtain ⟨y_p1, y_f1⟩ := y.at 1 _ rfl
        obtain ⟨q_p0, q_f0⟩ := q.at 0 _ rfl
        obtain ⟨q_p1, q_f1⟩ := q.at 1 _ rfl
        go_wp2
        rw [hf.out]
        exact bodyPost_ret (v := .tuple #[.agg #[.int .i64 n.next, .slice A9 m c9], .int .i64 0]) (by simp [results, Try.results32, go_sem, y_p0, y_p1]) rfl ⟨_, rfl, ⟨_, rfl, (O_FlightS.keep k9 (show Kp _ _ _ _ by repeat' (first | with_reducible exact Kp.refl _ _ _ | with_reducible assumption | with_reducible refine Kp.set ?_ ?_ _ _ | with_reducible refine Kp.alloc ?_ ?_ _ | with_reducible refine Kp.drew ?_ | with_reducible refine Kp.drewN ?_ _ | with_reducible refine Kp.ext ?_ ?_ (by with_reducible assumption) | with_reducible refine Kp.fr ?_ ?_ ?_ (by with_reducible assumption) | omega | (simp; done) | (simp; omega)))).wide (by first | omega | (simp; omega)) (by first | (simp; done) | (simp; omega))⟩, by repeat' (first | with_reducible exact Ext.refl _ | with_reducible assumption | with_reducible refine Ext.set ?_ ?_ _ _ | with_reducible refine Ext.alloc ?_ _ | with_reducible refine Ext.drew ?_ | with_reducible refine Ext.drewN ?_ _ | with_reducible refine Ext.trans ?_ (by with_reducible assumption) | omega | (simp; done) | (simp; omega))⟩

end Go.Proofs.Ytllljddojncemaa
