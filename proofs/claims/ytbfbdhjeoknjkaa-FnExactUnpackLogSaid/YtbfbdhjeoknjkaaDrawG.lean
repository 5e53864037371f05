/-
  Logs as the reference draws them.
-/
import Derived.Test.YtbfbdhjeoknjkaaDrawM
import Derived.Test.YtbfbdhjeoknjkaaFoldW
import Derived.Test.YtbfbdhjeoknjkaaHeldY
namespace Go.Proofs.Ytbfbdhjeoknjkaa
open Go.RowKit

/-- A log that is not large. -/
structure SmallL (l : LogD) : Prop where
  img : szI l.image ≤ 111
  ent : l.entries.length ≤ 61
  base : -1 ≤ l.base ∧ l.base ≤ 1000000001
theorem logFold_small (l : LogD) (n : Int) : szI (logFold l n).1.image ≤ 111 ∧ (logFold l n).1.entries.length ≤ 60 ∧ 0 ≤ (logFold l n).1.base ∧ (logFold l n).1.base ≤ 1000000000 := by
  cases h : hasNum l n with
  | false =>
    rw [logFold_no h]
    simp [zeroL, szI]
  | true =>
    obtain ⟨hg, k, rfl, hk⟩ := hasNum_parts h
    rw [logFold_in h]
    have h1 := fold_good hg hk
    have h2 := h1.sz50
    have h3 := h1.many
    have h4 := h1.base
    have h5 := h1.last
    dsimp only at *
    omega

theorem O_Log.rebase {w : World} {lo hi : Nat} {b x : Int} {u s t : Value} {l : LogD} (h : O_Log w lo hi (.agg #[.int .i64 b, u, s, t]) l) : O_Log w lo hi (.agg #[.int .i64 x, u, s, t]) ⟨x, l.image, l.entries⟩ := by
  obtain ⟨u', s', t', e, h1, h2, h3⟩ := h
  injection e with e
  simp only [Array.mk.injEq, List.cons.injEq, and_true] at e
  obtain ⟨-, e1, e2, e3⟩ := e
  subst e1 e2 e3
  exact ⟨_, _, _, rfl, h1, h2, h3⟩
theorem O_Log.reimage {w : World} {lo hi : Nat} {b : Int} {u s t u2 s2 : Value} {l : LogD} {M : ImageD} (h : O_Log w lo hi (.agg #[.int .i64 b, u, s, t]) l) (hi2 : O_Image w lo hi (.agg #[u2, s2]) M) : O_Log w lo hi (.agg #[.int .i64 b, u2, s2, t]) ⟨b, M, l.entries⟩ := by
  obtain ⟨u', s', t', e, h1, h2, h3⟩ := h
  injection e with e
  simp only [Array.mk.injEq, List.cons.injEq, and_true] at e
  obtain ⟨-, e1, e2, e3⟩ := e
  subst e1 e2 e3
  obtain ⟨u', s', e, g1, g2⟩ := hi2
  injection e with e
  simp only [Array.mk.injEq, List.cons.injEq, and_true] at e
  obtain ⟨e1, e2⟩ := e
  subst e1 e2
  exact ⟨_, _, _, rfl, g1, g2, h3⟩
theorem O_Log.dodge1 {w : World} {lo hi k : Nat} {v : Value} {l : LogD} (h : O_Log w lo hi v l) (hk : BT w k 42) (j : Nat) (u : Value) : O_Log (w.setCell ⟨k, j, none⟩ u) lo hi v l := by
  obtain ⟨u', s', t', rfl, h1, h2, h3⟩ := h
  exact ⟨_, _, _, rfl, OwnS.dodge h1 hk (by decide) j u, OwnS.dodge h2 hk (by decide) j u, OwnS.dodge h3 hk (by decide) j u⟩
theorem O_EntryS.dodge4 {w : World} {lo hi k : Nat} {v : Value} {l : List EntryD} (h : O_EntryS w lo hi v l) (hk : BT w k 42) (a b c d : Value) : O_EntryS ((((w.setCell ⟨k, 0, none⟩ a).setCell ⟨k, 1, none⟩ b).setCell ⟨k, 2, none⟩ c).setCell ⟨k, 3, none⟩ d) lo hi v l :=
  OwnS.dodge (OwnS.dodge (OwnS.dodge (OwnS.dodge h hk (by decide) 0 a) (hk.set _ 0 _) (by decide) 1 b) ((hk.set _ 0 _).set _ 1 _) (by decide) 2 c) (((hk.set _ 0 _).set _ 1 _).set _ 2 _) (by decide) 3 d
theorem O_Log.dodge2 {w : World} {lo hi k : Nat} {v : Value} {l : LogD} (h : O_Log w lo hi v l) (hk : BT w k 42) (i j : Nat) (u s : Value) : O_Log ((w.setCell ⟨k, i, none⟩ u).setCell ⟨k, j, none⟩ s) lo hi v l :=
  (h.dodge1 hk i u).dodge1 (hk.set _ i _) j s
theorem O_Log.dodge4 {w : World} {lo hi k : Nat} {v : Value} {l : LogD} (h : O_Log w lo hi v l) (hk : BT w k 42) (a b c d : Value) : O_Log ((((w.setCell ⟨k, 0, none⟩ a).setCell ⟨k, 1, none⟩ b).setCell ⟨k, 2, none⟩ c).setCell ⟨k, 3, none⟩ d) lo hi v l :=
  (h.dodge2 hk 0 1 a b).dodge2 ((hk.set _ 0 _).set _ 1 _) 2 3 c d


set_option maxRecDepth 100000 in
set_option maxHeartbeats 8000000 in
theorem l3DrawRight_s (g : Nat) (most : Int) (w : World) (hc : Cur w g) (h0 : 0 ≤ most) (h1 : most ≤ 60) : Calls Try.prog 104 #[.pointer (some ⟨g, 0, none⟩), .int .i64 most] w fun e w' => ∃ v l, e = .returned v ∧ O_Log w' w.heap.size w'.heap.size v l ∧ SmallL l ∧ l.entries.length ≤ 60 ∧ Cur w' g ∧ Fr g (g + 1) w w' := by
  have hg := hc.lt
  have hW0 : Ext w (w.alloc (.cells #[.int .i64 0, .slice none 0 0, .slice none 0 0, .slice none 0 0] 42)) := by repeat' (first | with_reducible exact Ext.refl _ | with_reducible assumption | with_reducible refine Ext.set ?_ ?_ _ _ | with_reducible refine Ext.alloc ?_ _ | with_reducible refine Ext.drew ?_ | with_reducible refine Ext.drewN ?_ _ | with_reducible refine Ext.trans ?_ (by with_reducible assumption) | omega | (simp; done) | (simp; omega))
  have zW0 : w.heap.size + 1 ≤ (w.alloc (.cells #[.int .i64 0, .slice none 0 0, .slice none 0 0, .slice none 0 0] 42)).heap.size := by simp
  have r : Blk (w.alloc (.cells #[.int .i64 0, .slice none 0 0, .slice none 0 0, .slice none 0 0] 42)) w.heap.size 42 [.int .i64 0, .slice none 0 0, .slice none 0 0, .slice none 0 0] := (Blk.new w #[.int .i64 0, .slice none 0 0, .slice none 0 0, .slice none 0 0] 42 (by first | rfl | simp))
  go_enter Try.func104, Try.ntmps104
  go_wp2_with fail
  generalize (w.alloc (.cells #[.int .i64 0, .slice none 0 0, .slice none 0 0, .slice none 0 0] 42)) = W0 at *
  refine (l2DrawEntries_s g most _ (hc.ext hW0) h0 h1).mono ?_
  rintro e w1 ⟨ve, L, rfl, oe, hLe, -, hc1, hF1⟩
  have hlr := r.lt
  have hz1' := hF1.size
  replace r := r.fr hF1 (.inr (by omega))
  have hFr := (Fr.ext (lo := g) (hi := g + 1) hW0).trans hF1
  obtain ⟨A1, n1, c1, hve, hl1, -⟩ := id oe
  subst hve
  have hn1 : n1 ≤ 60 := by omega
  have Hl1 := Lib.hid hl1
  clear hF1 hW0 hc hl1
  have hW1 : Ext w1 (w1.alloc (.cells #[.int .i64 0, .slice none 0 0, .slice none 0 0, .slice A1 n1 c1] 42)) := by repeat' (first | with_reducible exact Ext.refl _ | with_reducible assumption | with_reducible refine Ext.set ?_ ?_ _ _ | with_reducible refine Ext.alloc ?_ _ | with_reducible refine Ext.drew ?_ | with_reducible refine Ext.drewN ?_ _ | with_reducible refine Ext.trans ?_ (by with_reducible assumption) | omega | (simp; done) | (simp; omega))
  have zW1 : w1.heap.size + 1 ≤ (w1.alloc (.cells #[.int .i64 0, .slice none 0 0, .slice none 0 0, .slice A1 n1 c1] 42)).heap.size := by simp
  have q : Blk (w1.alloc (.cells #[.int .i64 0, .slice none 0 0, .slice none 0 0, .slice A1 n1 c1] 42)) w1.heap.size 42 [.int .i64 0, .slice none 0 0, .slice none 0 0, .slice A1 n1 c1] := (Blk.new w1 #[.int .i64 0, .slice none 0 0, .slice none 0 0, .slice A1 n1 c1] 42 (by first | rfl | simp))
  go_upto_region 2 with (fail)
  replace r := r.ext hW1
  replace hc1 := hc1.ext hW1
  replace hFr := hFr.thenExt hW1
  replace oe := (hW1.owns oe (Nat.le_refl _))
  have hzW1 := hW1.size
  clear hW1
  generalize (w1.alloc (.cells #[.int .i64 0, .slice none 0 0, .slice none 0 0, .slice A1 n1 c1] 42)) = W1 at *
  go_wp2_with fail
  refine (l1Once_s g _ _ hc1 (by omega)).mono ?_
  rintro e w2 ⟨b1, rfl, hc2, hF2⟩
  have hlq := q.lt
  have hlr2 := r.lt
  have hz2 := hF2.size
  replace r := r.fr hF2 (.inr (by omega))
  replace q := q.fr hF2 (.inr (by omega))
  replace hFr := hFr.trans hF2
  replace oe := hF2.owns oe (.inr (by omega))
  clear hF2 hc1
  cases b1 with
  | false =>
    obtain ⟨q_p0, q_f0⟩ := q.at 0 _ rfl
    obtain ⟨q_p1, q_f1⟩ := q.at 1 _ rfl
    obtain ⟨q_p2, q_f2⟩ := q.at 2 _ rfl
    obtain ⟨q_p3, q_f3⟩ := q.at 3 _ rfl
    obtain ⟨r_p0, r_f0⟩ := r.at 0 _ rfl
    obtain ⟨r_p1, r_f1⟩ := r.at 1 _ rfl
    obtain ⟨r_p2, r_f2⟩ := r.at 2 _ rfl
    obtain ⟨r_p3, r_f3⟩ := r.at 3 _ rfl
    go_wp2
    exact bodyPost_ret (v := .agg #[.int .i64 0, .slice none 0 0, .slice none 0 0, .slice A1 n1 c1]) (by simp [results, Try.results104, go_sem, r_p0, r_p1, r_p2, r_p3]) rfl ⟨_, ⟨0, ⟨[], []⟩, L⟩, rfl, ⟨_, _, _, rfl, OwnS.nil _, OwnS.nil _, (O_EntryS.keep oe (show Kp _ _ _ _ by repeat' (first | with_reducible exact Kp.refl _ _ _ | with_reducible assumption | with_reducible refine Kp.set ?_ ?_ _ _ | with_reducible refine Kp.alloc ?_ ?_ _ | with_reducible refine Kp.drew ?_ | with_reducible refine Kp.drewN ?_ _ | with_reducible refine Kp.ext ?_ ?_ (by with_reducible assumption) | with_reducible refine Kp.fr ?_ ?_ ?_ (by with_reducible assumption) | omega | (simp; done) | (simp; omega)))).wide (by omega) (by first | (simp; done) | (simp; omega))⟩, ⟨by simp [szI], by dsimp only; omega, by dsimp only; omega⟩, hLe, by repeat' (first | with_reducible assumption | with_reducible refine Cur.set ?_ ?_ _ _ | with_reducible refine Cur.alloc ?_ _ | with_reducible refine Cur.drew ?_ | omega | (simp; done) | (simp; omega)), by repeat' (first | with_reducible assumption | with_reducible refine Fr.thenSet ?_ ?_ | with_reducible refine Fr.thenAlloc ?_ _ | with_reducible refine Fr.thenDrew ?_ | omega | (simp; done) | (simp; omega))⟩
  | true =>
    obtain ⟨q_p0, q_f0⟩ := q.at 0 _ rfl
    obtain ⟨q_p1, q_f1⟩ := q.at 1 _ rfl
    obtain ⟨q_p2, q_f2⟩ := q.at 2 _ rfl
    obtain ⟨q_p3, q_f3⟩ := q.at 3 _ rfl
    have hwn : IntKind.i64.wrap ((n1 : Int) + 1) = (n1 : Int) + 1 := IntWalk.i64_in _ (by omega)
    go_upto_region 3 with (fail)
    refine region_anyY (X := [9, 10, 11]) (S := (fun w' => w'.cell? ⟨w1.heap.size, 0, none⟩ = some (.int .i64 0) ∧ w'.cell? ⟨w1.heap.size, 1, none⟩ = some (.slice none 0 0) ∧ w'.cell? ⟨w1.heap.size, 2, none⟩ = some (.slice none 0 0) ∧ w'.cell? ⟨w1.heap.size, 3, none⟩ = some (.slice A1 n1 c1))) (by kernel_rfl) ⟨q_p0, q_p1, q_p2, q_p3⟩ (fun hHeld => ?_)
    refine anyY_take (i := 0) (v := ?_) rfl (by kernel_rfl) (by kernel_rfl) (by kernel_rfl) (by kernel_rfl) (fun _ _ _ h => h) (Or.inl ⟨by rfl, ?_⟩) (by assumption) ?_
    rotate_left
    · (intro w hSw; (try dsimp only at hSw); go_simp; (try with_reducible rfl))
    try simp only [Act.put, List.getElem_toArray, List.getElem_cons_zero, List.getElem_cons_succ, List.setIfInBounds_toArray, List.set_cons_zero, List.set_cons_succ]
    refine anyY_take (i := 1) (v := ?_) rfl (by kernel_rfl) (by kernel_rfl) (by kernel_rfl) (by kernel_rfl) (fun _ _ _ h => h) (Or.inl ⟨by rfl, ?_⟩) (by assumption) ?_
    rotate_left
    · (intro w hSw; (try dsimp only at hSw); go_simp; (try with_reducible rfl))
    try simp only [Act.put, List.getElem_toArray, List.getElem_cons_zero, List.getElem_cons_succ, List.setIfInBounds_toArray, List.set_cons_zero, List.set_cons_succ]
    refine anyY_take (i := 2) (v := ?_) rfl (by kernel_rfl) (by kernel_rfl) (by kernel_rfl) (by kernel_rfl) (fun _ _ _ h => h) (Or.inl ⟨by rfl, ?_⟩) (by assumption) ?_
    rotate_left
    · (intro w hSw; (try dsimp only at hSw); go_simp; (try with_reducible rfl))
    try simp only [Act.put, List.getElem_toArray, List.getElem_cons_zero, List.getElem_cons_succ, List.setIfInBounds_toArray, List.set_cons_zero, List.set_cons_succ]
    refine anyY_take (i := 3) (v := ?_) rfl (by kernel_rfl) (by kernel_rfl) (by kernel_rfl) (by kernel_rfl) (fun _ _ _ h => h) (Or.inl ⟨by rfl, ?_⟩) (by assumption) ?_
    rotate_left
    · (intro w hSw; (try dsimp only at hSw); go_simp; (try with_reducible rfl))
    try simp only [Act.put, List.getElem_toArray, List.getElem_cons_zero, List.getElem_cons_succ, List.setIfInBounds_toArray, List.set_cons_zero, List.set_cons_succ]
    refine anyY_take (i := 4) (v := ?_) rfl (by kernel_rfl) (by kernel_rfl) (by kernel_rfl) (by kernel_rfl) (fun _ _ _ h => h) (Or.inl ⟨by rfl, ?_⟩) (by assumption) ?_
    rotate_left
    · (intro w hSw; (try dsimp only at hSw); go_simp; (try with_reducible rfl))
    try simp only [Act.put, List.getElem_toArray, List.getElem_cons_zero, List.getElem_cons_succ, List.setIfInBounds_toArray, List.set_cons_zero, List.set_cons_succ]
    refine anyY_take (i := 5) (v := ?_) rfl (by kernel_rfl) (by kernel_rfl) (by kernel_rfl) (by kernel_rfl) (fun _ _ _ h => h) (Or.inl ⟨by rfl, ?_⟩) (by assumption) ?_
    rotate_left
    · (intro w hSw; (try dsimp only at hSw); go_simp; (try with_reducible rfl))
    try simp only [Act.put, List.getElem_toArray, List.getElem_cons_zero, List.getElem_cons_succ, List.setIfInBounds_toArray, List.set_cons_zero, List.set_cons_succ]
    refine anyY_one (i := 6) (by kernel_rfl) rfl (fun K hK => ?_)
    go_simp
    go_at_call 105
    refine (l1Below_s g _ _ hc2.drew (by omega)).mono ?_
    rintro e w3 ⟨x, rfl, hx, -, hc3, hF⟩
    have hxx := hx (by omega)
    have hF3 : Fr g (g + 1) w2 w3 := (Fr.ext (Ext.refl _).drew).trans hF
    have hz3 := hF3.size
    (clear q_p0 q_f0 q_p1 q_f1 q_p2 q_f2 q_p3 q_f3)
    replace r := r.fr hF3 (.inr (by omega))
    replace q := q.fr hF3 (.inr (by omega))
    replace oe := hF3.owns oe (.inr (by omega))
    replace hFr := hFr.trans hF3
    obtain ⟨q_p0, q_f0⟩ := q.at 0 _ rfl
    obtain ⟨q_p1, q_f1⟩ := q.at 1 _ rfl
    obtain ⟨q_p2, q_f2⟩ := q.at 2 _ rfl
    obtain ⟨q_p3, q_f3⟩ := q.at 3 _ rfl
    clear hF hF3 hc2 hx
    (try dsimp only)
    refine hK.out _ _ ⟨q_p0, q_p1, q_p2, q_p3⟩ (fun hHeld => ?_)
    clear hK K
    try simp only [Act.put, List.getElem_toArray, List.getElem_cons_zero, List.getElem_cons_succ, List.setIfInBounds_toArray, List.set_cons_zero, List.set_cons_succ]
    have hrl : R_Log w3 w1.heap.size (.agg #[.int .i64 0, .slice none 0 0, .slice none 0 0, .slice A1 n1 c1]) ⟨0, ⟨[], []⟩, L⟩ := ⟨_, _, _, rfl, RdS.nil, RdS.nil, oe.rd⟩
    refine anyY_one (i := 7) (by kernel_rfl) rfl (fun K hK => ?_)
    go_simp
    go_at_call 131
    refine (logFold_s _ ⟨0, ⟨[], []⟩, L⟩ (x : Int) _ w1.heap.size (by exact hrl) (by omega) (by omega)).mono ?_
    rintro e w4 ⟨v4, rfl, o4, hE4⟩
    have hz4 := hE4.size
    (clear q_p0 q_f0 q_p1 q_f1 q_p2 q_f2 q_p3 q_f3)
    replace r := r.ext hE4
    replace q := q.ext hE4
    replace hc3 := hc3.ext hE4
    replace hFr := hFr.thenExt hE4
    obtain ⟨q_p0, q_f0⟩ := q.at 0 _ rfl
    obtain ⟨q_p1, q_f1⟩ := q.at 1 _ rfl
    obtain ⟨q_p2, q_f2⟩ := q.at 2 _ rfl
    obtain ⟨q_p3, q_f3⟩ := q.at 3 _ rfl
    have hsm := logFold_small ⟨0, ⟨[], []⟩, L⟩ (x : Int)
    generalize logFold ⟨0, ⟨[], []⟩, L⟩ (x : Int) = F at *
    obtain ⟨F, fk⟩ := F
    dsimp only at hsm o4
    obtain ⟨A5, n5, c5, B5, k5, d5, C5, m5, e5, rfl, -, -, -⟩ := o4.form
    clear hE4 hrl oe
    (try dsimp only)
    refine hK.out _ _ ⟨q_p0, q_p1, q_p2, q_p3⟩ (fun hHeld => ?_)
    clear hK K
    try simp only [Act.put, List.getElem_toArray, List.getElem_cons_zero, List.getElem_cons_succ, List.setIfInBounds_toArray, List.set_cons_zero, List.set_cons_succ]
    refine anyY_take (i := 8) (v := ?_) rfl (by kernel_rfl) (by kernel_rfl) (by kernel_rfl) (by kernel_rfl) (fun _ _ _ h => h) (Or.inl ⟨by rfl, ?_⟩) (by assumption) ?_
    rotate_left
    · (intro w hSw; (try dsimp only at hSw); go_simp; (try with_reducible rfl))
    try simp only [Act.put, List.getElem_toArray, List.getElem_cons_zero, List.getElem_cons_succ, List.setIfInBounds_toArray, List.set_cons_zero, List.set_cons_succ]
    refine anyY_take0 (i := 9) (v := ?_) rfl (by kernel_rfl) (by kernel_rfl) (by kernel_rfl) (by kernel_rfl) (fun _ _ _ h => h) (Or.inl ⟨by rfl, ?_⟩) ?_
    rotate_left
    · (intro w hSw; go_simp; (try with_reducible rfl))
    try simp only [Act.put, List.getElem_toArray, List.getElem_cons_zero, List.getElem_cons_succ, List.setIfInBounds_toArray, List.set_cons_zero, List.set_cons_succ]
    refine anyY_take0 (i := 10) (v := ?_) rfl (by kernel_rfl) (by kernel_rfl) (by kernel_rfl) (by kernel_rfl) (fun _ _ _ h => h) (Or.inl ⟨by rfl, ?_⟩) ?_
    rotate_left
    · (intro w hSw; go_simp; (try with_reducible rfl))
    try simp only [Act.put, List.getElem_toArray, List.getElem_cons_zero, List.getElem_cons_succ, List.setIfInBounds_toArray, List.set_cons_zero, List.set_cons_succ]
    refine anyY_last (x := 11) (by kernel_rfl) (by kernel_rfl) rfl (fun K hK => ?_)
    go_simp
    (try dsimp only)
    refine hK.out _ _ ?_
    clear hK K
    try simp only [Act.put, List.getElem_toArray, List.getElem_cons_zero, List.getElem_cons_succ, List.setIfInBounds_toArray, List.set_cons_zero, List.set_cons_succ]
    refine anyY_done (by kernel_rfl) ?_ _
    clear hHeld
    clear q_p0 q_f0 q_p1 q_f1 q_p2 q_f2 q_p3 q_f3
    have hFz : ((((w4.setCell ⟨w1.heap.size, 0, none⟩ (.int .i64 F.base)).setCell ⟨w1.heap.size, 1, none⟩ (.slice A5 n5 c5)).setCell ⟨w1.heap.size, 2, none⟩ (.slice B5 k5 d5)).setCell ⟨w1.heap.size, 3, none⟩ (.slice C5 m5 e5)).heap.size = w4.heap.size := by simp
    have q7 := (((q.set 0 (.int .i64 F.base)).set 1 (.slice A5 n5 c5)).set 2 (.slice B5 k5 d5)).set 3 (.slice C5 m5 e5)
    replace q := (show Blk _ _ _ [.int .i64 F.base, .slice A5 n5 c5, .slice B5 k5 d5, .slice C5 m5 e5] from q7)
    replace r := (((r.far (h := w1.heap.size) (by omega) 0 (.int .i64 F.base)).far (h := w1.heap.size) (by omega) 1 (.slice A5 n5 c5)).far (h := w1.heap.size) (by omega) 2 (.slice B5 k5 d5)).far (h := w1.heap.size) (by omega) 3 (.slice C5 m5 e5)
    replace hc3 := (((hc3.set (k := w1.heap.size) (by omega) 0 (.int .i64 F.base)).set (k := w1.heap.size) (by omega) 1 (.slice A5 n5 c5)).set (k := w1.heap.size) (by omega) 2 (.slice B5 k5 d5)).set (k := w1.heap.size) (by omega) 3 (.slice C5 m5 e5)
    replace hFr := (((hFr.thenSet (k := w1.heap.size) (j := 0) (u := .int .i64 F.base) (by omega)).thenSet (k := w1.heap.size) (j := 1) (u := .slice A5 n5 c5) (by omega)).thenSet (k := w1.heap.size) (j := 2) (u := .slice B5 k5 d5) (by omega)).thenSet (k := w1.heap.size) (j := 3) (u := .slice C5 m5 e5) (by omega)
    replace o4 := o4.keep (show Kp _ _ _ ((((w4.setCell ⟨w1.heap.size, 0, none⟩ (.int .i64 F.base)).setCell ⟨w1.heap.size, 1, none⟩ (.slice A5 n5 c5)).setCell ⟨w1.heap.size, 2, none⟩ (.slice B5 k5 d5)).setCell ⟨w1.heap.size, 3, none⟩ (.slice C5 m5 e5)) from ((((Kp.refl _ _ _).set (.inl (by omega)) _ _).set (.inl (by omega)) _ _).set (.inl (by omega)) _ _).set (.inl (by omega)) _ _)
    have hz6 := Nat.le_of_eq hFz.symm
    clear q7 hFz
    generalize (((w4.setCell ⟨w1.heap.size, 0, none⟩ (.int .i64 F.base)).setCell ⟨w1.heap.size, 1, none⟩ (.slice A5 n5 c5)).setCell ⟨w1.heap.size, 2, none⟩ (.slice B5 k5 d5)).setCell ⟨w1.heap.size, 3, none⟩ (.slice C5 m5 e5) = w6 at *
    obtain ⟨q_p0, q_f0⟩ := q.at 0 _ rfl
    obtain ⟨q_p1, q_f1⟩ := q.at 1 _ rfl
    obtain ⟨q_p2, q_f2⟩ := q.at 2 _ rfl
    obtain ⟨q_p3, q_f3⟩ := q.at 3 _ rfl
    obtain ⟨r_p0, r_f0⟩ := r.at 0 _ rfl
    obtain ⟨r_p1, r_f1⟩ := r.at 1 _ rfl
    obtain ⟨r_p2, r_f2⟩ := r.at 2 _ rfl
    obtain ⟨r_p3, r_f3⟩ := r.at 3 _ rfl
    go_wp2
    exact bodyPost_ret (v := .agg #[.int .i64 F.base, .slice A5 n5 c5, .slice B5 k5 d5, .slice C5 m5 e5]) (by simp [results, Try.results104, go_sem, r_p0, r_p1, r_p2, r_p3]) rfl ⟨_, F, rfl, (O_Log.keep o4 (show Kp _ _ _ _ by repeat' (first | with_reducible exact Kp.refl _ _ _ | with_reducible assumption | with_reducible refine Kp.set ?_ ?_ _ _ | with_reducible refine Kp.alloc ?_ ?_ _ | with_reducible refine Kp.drew ?_ | with_reducible refine Kp.drewN ?_ _ | with_reducible refine Kp.ext ?_ ?_ (by with_reducible assumption) | with_reducible refine Kp.fr ?_ ?_ ?_ (by with_reducible assumption) | omega | (simp; done) | (simp; omega)))).wide (by omega) (by first | (simp; done) | (simp; omega)), ⟨hsm.1, by omega, by omega⟩, hsm.2.1, by repeat' (first | with_reducible assumption | with_reducible refine Cur.set ?_ ?_ _ _ | with_reducible refine Cur.alloc ?_ _ | with_reducible refine Cur.drew ?_ | omega | (simp; done) | (simp; omega)), by repeat' (first | with_reducible assumption | with_reducible refine Fr.thenSet ?_ ?_ | with_reducible refine Fr.thenAlloc ?_ _ | with_reducible refine Fr.thenDrew ?_ | omega | (simp; done) | (simp; omega))⟩

end Go.Proofs.Ytbfbdhjeoknjkaa
