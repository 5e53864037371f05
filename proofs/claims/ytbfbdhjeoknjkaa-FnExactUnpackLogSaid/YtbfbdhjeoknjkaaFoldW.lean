/-
  LogFold, the program's and the reference's, walked.
-/
import Derived.Test.YtbfbdhjeoknjkaaFold
import Derived.Test.YtbfbdhjeoknjkaaMg1
import Derived.Test.YtbfbdhjeoknjkaaBig
import Derived.Test.YtbfbdhjeoknjkaaMg3
namespace Go.Proofs.Ytbfbdhjeoknjkaa
open Go.RowKit


set_option maxRecDepth 100000 in
set_option maxHeartbeats 8000000 in
theorem logFold_s (v : Value) (l : LogD) (n : Int) (w : World) (B : Nat) (hr : R_Log w B v l) (hB : B ≤ w.heap.size) (hn : -9223372036854775808 ≤ n ∧ n ≤ 9223372036854775807) :
    Calls Try.prog 131 #[v, .int .i64 n] w fun e w' => ∃ v', e = .returned (.tuple #[v', .bool (logFold l n).2]) ∧ O_Log w' w.heap.size w'.heap.size v' (logFold l n).1 ∧ Ext w w' := by
  have hr0 := hr
  obtain ⟨u, s, t, rfl, hu, hs, ht⟩ := hr
  obtain ⟨A0, n0, c0, hv0, -⟩ := id hu
  obtain ⟨A1, n1, c1, hv1, -⟩ := id hs
  obtain ⟨A2, n2, c2, hv2, hl2, hnc2, hcm2, hrd⟩ := ht
  subst hv0 hv1 hv2
  have Hl2 := Lib.hid hl2
  clear hl2 hu hs
  obtain ⟨i0, hi0, hy0, hy1, hy2⟩ := info_parts info_Entry
  have hW0 : Ext w ((w.alloc (.cells #[.int .i64 l.base, .slice A0 n0 c0, .slice A1 n1 c1, .slice A2 n2 c2] 42)).alloc (.cells #[.int .i64 0, .slice none 0 0, .slice none 0 0, .slice none 0 0] 42)) := by repeat' (first | with_reducible exact Ext.refl _ | with_reducible assumption | with_reducible refine Ext.set ?_ ?_ _ _ | with_reducible refine Ext.alloc ?_ _ | with_reducible refine Ext.drew ?_ | with_reducible refine Ext.drewN ?_ _ | with_reducible refine Ext.trans ?_ (by with_reducible assumption) | omega | (simp; done) | (simp; omega))
  have zW0 : w.heap.size + 2 ≤ ((w.alloc (.cells #[.int .i64 l.base, .slice A0 n0 c0, .slice A1 n1 c1, .slice A2 n2 c2] 42)).alloc (.cells #[.int .i64 0, .slice none 0 0, .slice none 0 0, .slice none 0 0] 42)).heap.size := by simp
  have p : Blk ((w.alloc (.cells #[.int .i64 l.base, .slice A0 n0 c0, .slice A1 n1 c1, .slice A2 n2 c2] 42)).alloc (.cells #[.int .i64 0, .slice none 0 0, .slice none 0 0, .slice none 0 0] 42)) w.heap.size 42 [.int .i64 l.base, .slice A0 n0 c0, .slice A1 n1 c1, .slice A2 n2 c2] := ((Blk.new w #[.int .i64 l.base, .slice A0 n0 c0, .slice A1 n1 c1, .slice A2 n2 c2] 42 (by first | rfl | simp)).alloc (.cells #[.int .i64 0, .slice none 0 0, .slice none 0 0, .slice none 0 0] 42))
  have q : Blk ((w.alloc (.cells #[.int .i64 l.base, .slice A0 n0 c0, .slice A1 n1 c1, .slice A2 n2 c2] 42)).alloc (.cells #[.int .i64 0, .slice none 0 0, .slice none 0 0, .slice none 0 0] 42)) (w.heap.size + 1) 42 [.int .i64 0, .slice none 0 0, .slice none 0 0, .slice none 0 0] := (Blk.new (w.alloc (.cells #[.int .i64 l.base, .slice A0 n0 c0, .slice A1 n1 c1, .slice A2 n2 c2] 42)) #[.int .i64 0, .slice none 0 0, .slice none 0 0, .slice none 0 0] 42 (by first | rfl | simp))
  obtain ⟨ok, hok⟩ : ∃ ok, hasNum l n = ok := ⟨_, rfl⟩
  have Hok := Lib.hid hok
  clear hok
  go_enter Try.func131, Try.ntmps131
  obtain ⟨p_p0, p_f0⟩ := p.at 0 _ rfl
  obtain ⟨p_p1, p_f1⟩ := p.at 1 _ rfl
  obtain ⟨p_p2, p_f2⟩ := p.at 2 _ rfl
  obtain ⟨p_p3, p_f3⟩ := p.at 3 _ rfl
  obtain ⟨q_p0, q_f0⟩ := q.at 0 _ rfl
  obtain ⟨q_p1, q_f1⟩ := q.at 1 _ rfl
  obtain ⟨q_p2, q_f2⟩ := q.at 2 _ rfl
  obtain ⟨q_p3, q_f3⟩ := q.at 3 _ rfl
  go_wp2_with fail
  generalize ((w.alloc (.cells #[.int .i64 l.base, .slice A0 n0 c0, .slice A1 n1 c1, .slice A2 n2 c2] 42)).alloc (.cells #[.int .i64 0, .slice none 0 0, .slice none 0 0, .slice none 0 0] 42)) = W0 at *
  obtain ⟨tt, htt⟩ : ∃ tt, logImage l n = tt := ⟨_, rfl⟩
  obtain ⟨M, mok⟩ := tt
  have Htt := Lib.hid htt
  refine (logImage_s _ l n _ B (by exact hr0.keep (keepE' hW0 hB)) (by omega) hn).mono ?_
  rw [htt]
  clear htt
  rintro e w1 ⟨v1, rfl, o1, hE1⟩
  have hz1 := hE1.size
  have hX1 : Ext w w1 := hW0.trans hE1
  clear p_p0 p_f0 p_p1 p_f1 p_p2 p_f2 p_p3 p_f3 q_p0 q_f0 q_p1 q_f1 q_p2 q_f2 q_p3 q_f3
  replace p := p.ext hE1
  replace q := q.ext hE1
  obtain ⟨p_p0, p_f0⟩ := p.at 0 _ rfl
  obtain ⟨p_p1, p_f1⟩ := p.at 1 _ rfl
  obtain ⟨p_p2, p_f2⟩ := p.at 2 _ rfl
  obtain ⟨p_p3, p_f3⟩ := p.at 3 _ rfl
  obtain ⟨q_p0, q_f0⟩ := q.at 0 _ rfl
  obtain ⟨q_p1, q_f1⟩ := q.at 1 _ rfl
  obtain ⟨q_p2, q_f2⟩ := q.at 2 _ rfl
  obtain ⟨q_p3, q_f3⟩ := q.at 3 _ rfl
  clear hE1 hW0
  obtain ⟨A5, n5, c5, B5, k5, d5, rfl, -, -⟩ := o1.form
  have hW1 : Ext w1 (w1.alloc (.cells #[.slice A5 n5 c5, .slice B5 k5 d5] 39)) := by repeat' (first | with_reducible exact Ext.refl _ | with_reducible assumption | with_reducible refine Ext.set ?_ ?_ _ _ | with_reducible refine Ext.alloc ?_ _ | with_reducible refine Ext.drew ?_ | with_reducible refine Ext.drewN ?_ _ | with_reducible refine Ext.trans ?_ (by with_reducible assumption) | omega | (simp; done) | (simp; omega))
  have zW1 : w1.heap.size + 1 ≤ (w1.alloc (.cells #[.slice A5 n5 c5, .slice B5 k5 d5] 39)).heap.size := by simp
  have r : Blk (w1.alloc (.cells #[.slice A5 n5 c5, .slice B5 k5 d5] 39)) w1.heap.size 39 [.slice A5 n5 c5, .slice B5 k5 d5] := (Blk.new w1 #[.slice A5 n5 c5, .slice B5 k5 d5] 39 (by first | rfl | simp))
  obtain ⟨r_p0, r_f0⟩ := r.at 0 _ rfl
  obtain ⟨r_p1, r_f1⟩ := r.at 1 _ rfl
  go_upto_region 2 with (fail)
  clear r_p0 r_f0 r_p1 r_f1
  clear p_p0 p_f0 p_p1 p_f1 p_p2 p_f2 p_p3 p_f3 q_p0 q_f0 q_p1 q_f1 q_p2 q_f2 q_p3 q_f3
  replace p := p.ext hW1
  replace q := q.ext hW1
  obtain ⟨p_p0, p_f0⟩ := p.at 0 _ rfl
  obtain ⟨p_p1, p_f1⟩ := p.at 1 _ rfl
  obtain ⟨p_p2, p_f2⟩ := p.at 2 _ rfl
  obtain ⟨p_p3, p_f3⟩ := p.at 3 _ rfl
  obtain ⟨q_p0, q_f0⟩ := q.at 0 _ rfl
  obtain ⟨q_p1, q_f1⟩ := q.at 1 _ rfl
  obtain ⟨q_p2, q_f2⟩ := q.at 2 _ rfl
  obtain ⟨q_p3, q_f3⟩ := q.at 3 _ rfl
  replace o1 := o1.keep (keepE hW1 (Nat.le_refl _))
  have hz2 := hW1.size
  replace hX1 := hX1.trans hW1
  clear hW1
  generalize (w1.alloc (.cells #[.slice A5 n5 c5, .slice B5 k5 d5] 39)) = W1 at *
  obtain ⟨r_p0, r_f0⟩ := r.at 0 _ rfl
  obtain ⟨r_p1, r_f1⟩ := r.at 1 _ rfl
  cases ok with
  | false =>
    have hf := Lib.hid (logFold_no Hok.out)
    have hh := Htt.out
    rw [logImage_no Hok.out] at hh
    injection hh with e1 e2
    subst e1 e2
    go_wp2
    rw [hf.out]
    exact bodyPost_ret (v := .tuple #[.agg #[.int .i64 0, .slice none 0 0, .slice none 0 0, .slice none 0 0], .bool false]) (by simp [results, Try.results131, go_sem, q_p0, q_p1, q_p2, q_p3]) rfl ⟨_, rfl, ⟨_, _, _, rfl, OwnS.nil _, OwnS.nil _, OwnS.nil _⟩, by repeat' (first | with_reducible exact Ext.refl _ | with_reducible assumption | with_reducible refine Ext.set ?_ ?_ _ _ | with_reducible refine Ext.alloc ?_ _ | with_reducible refine Ext.drew ?_ | with_reducible refine Ext.drewN ?_ _ | with_reducible refine Ext.trans ?_ (by with_reducible assumption) | omega | (simp; done) | (simp; omega))⟩
  | true =>
    obtain ⟨hg, k, hk', hkl⟩ := hasNum_parts Hok.out
    have h1 := hg.base
    have h2 := hg.many
    have h3 := hg.last
    rw [Hl2.out] at h2 h3 hkl
    clear hg
    subst hk'
    have hh := Htt.out
    rw [logImage_in Hok.out] at hh
    injection hh with e1 e2
    subst e2
    have hf : Hid (logFold l (l.base + (k : Int)) = (⟨l.base + k, M, l.entries.drop k⟩, true)) := by show _ = _; rw [logFold_in Hok.out, e1]
    clear e1
    have hcut : Rd W1 B 5 (if c2 = k then A2 else A2.map (·.add (k * 5))) (n2 - k) ((l.entries.drop k).flatMap eEntry) := by
      have h := (hX1.rd hrd hB).cut hkl hnc2
      rwa [flat_drop eEntry_len] at h
    have hlen : Hid ((l.entries.drop k).length = n2 - k) := by show _ = _; rw [List.length_drop, Hl2.out]
    have hke : l.base + (k : Int) - l.base = k := by omega
    have hwk2 : IntKind.i64.wrap (k : Int) = k := IntWalk.i64_in _ (by omega)
    have hkl2 : (k : Int) ≤ (n2 : Int) := by omega
    have hlp := p.lt
    have hlq := q.lt
    have hlr := r.lt
    have h5 : 0 < 5 := by omega
    by_cases hck : c2 = k
    · have hnz : n2 - k = 0 := by omega
      rw [hnz] at hcut hlen
      have hr2 : Rd W1 B 5 A2 (0) ((l.entries.drop k).flatMap eEntry) := by
        rw [if_pos hck] at hcut
        exact hcut
      have hm2 : c2 ≤ maxLen := hcm2
      clear hcut
      have hnk : n2 = k := by omega
      subst hnk
      subst hck
      go_upto_region 4 with (fail)
      refine wp_region_held_drew (S := (fun w' => w'.cell? ⟨w.heap.size, 0, none⟩ = some (.int .i64 l.base) ∧ w'.cell? ⟨w.heap.size, 3, none⟩ = some (.slice A2 c2 c2) ∧ w'.cell? ⟨w1.heap.size, 0, none⟩ = some (.slice A5 n5 c5) ∧ w'.cell? ⟨w1.heap.size, 1, none⟩ = some (.slice B5 k5 d5))) (by kernel_rfl) ⟨p_p0, p_p3, r_p0, r_p1⟩ (fun hHeld => ?_)
      refine wpAnyH_take (i := 0) (v := ?_) rfl (by kernel_rfl) (by kernel_rfl) (by kernel_rfl) (fun _ _ _ h => h) (Or.inl ⟨by rfl, ?_⟩) (by assumption) ?_
      rotate_left
      · (intro w hSw; (try dsimp only at hSw); go_simp; (try with_reducible rfl))
      try simp only [Act.put, List.getElem_toArray, List.getElem_cons_zero, List.getElem_cons_succ, List.setIfInBounds_toArray, List.set_cons_zero, List.set_cons_succ]
      refine wpAnyH_take (i := 1) (v := ?_) rfl (by kernel_rfl) (by kernel_rfl) (by kernel_rfl) (fun _ _ _ h => h) (Or.inl ⟨by rfl, ?_⟩) (by assumption) ?_
      rotate_left
      · (intro w hSw; (try dsimp only at hSw); go_simp; (try with_reducible rfl))
      try simp only [Act.put, List.getElem_toArray, List.getElem_cons_zero, List.getElem_cons_succ, List.setIfInBounds_toArray, List.set_cons_zero, List.set_cons_succ]
      refine wpAnyH_take (i := 3) (v := ?_) rfl (by kernel_rfl) (by kernel_rfl) (by kernel_rfl) (fun _ _ _ h => h) (Or.inl ⟨by rfl, ?_⟩) (by assumption) ?_
      rotate_left
      · (intro w hSw; (try dsimp only at hSw); go_simp; (try with_reducible rfl))
      try simp only [Act.put, List.getElem_toArray, List.getElem_cons_zero, List.getElem_cons_succ, List.setIfInBounds_toArray, List.set_cons_zero, List.set_cons_succ]
      refine wpAnyH_take (i := 4) (v := ?_) rfl (by kernel_rfl) (by kernel_rfl) (by kernel_rfl) (fun _ _ _ h => h) (Or.inl ⟨by rfl, ?_⟩) (by assumption) ?_
      rotate_left
      · (intro w hSw; (try dsimp only at hSw); go_simp; (try with_reducible rfl))
      try simp only [Act.put, List.getElem_toArray, List.getElem_cons_zero, List.getElem_cons_succ, List.setIfInBounds_toArray, List.set_cons_zero, List.set_cons_succ]
      refine wpAnyH_take (i := 5) (v := ?_) rfl (by kernel_rfl) (by kernel_rfl) (by kernel_rfl) (fun _ _ _ h => h) (Or.inl ⟨by rfl, ?_⟩) (by assumption) ?_
      rotate_left
      · (intro w hSw; (try dsimp only at hSw); go_simp; (try with_reducible rfl))
      try simp only [Act.put, List.getElem_toArray, List.getElem_cons_zero, List.getElem_cons_succ, List.setIfInBounds_toArray, List.set_cons_zero, List.set_cons_succ]
      refine wpAnyH_take (i := 6) (v := ?_) rfl (by kernel_rfl) (by kernel_rfl) (by kernel_rfl) (fun _ _ _ h => h) (Or.inl ⟨by rfl, ?_⟩) (by assumption) ?_
      rotate_left
      · (intro w hSw; (try dsimp only at hSw); go_simp; (try with_reducible rfl))
      try simp only [Act.put, List.getElem_toArray, List.getElem_cons_zero, List.getElem_cons_succ, List.setIfInBounds_toArray, List.set_cons_zero, List.set_cons_succ]
      refine wpAnyH_take (i := 7) (v := ?_) rfl (by kernel_rfl) (by kernel_rfl) (by kernel_rfl) (fun _ _ _ h => h) (Or.inl ⟨by rfl, ?_⟩) (by assumption) ?_
      rotate_left
      · (intro w hSw; (try dsimp only at hSw); go_simp; (try with_reducible rfl))
      try simp only [Act.put, List.getElem_toArray, List.getElem_cons_zero, List.getElem_cons_succ, List.setIfInBounds_toArray, List.set_cons_zero, List.set_cons_succ]
      refine wpAnyH_take (i := 8) (v := ?_) rfl (by kernel_rfl) (by kernel_rfl) (by kernel_rfl) (fun _ _ _ h => h) (Or.inl ⟨by rfl, ?_⟩) (by assumption) ?_
      rotate_left
      · (intro w hSw; (try dsimp only at hSw); go_simp; (try with_reducible rfl))
      try simp only [Act.put, List.getElem_toArray, List.getElem_cons_zero, List.getElem_cons_succ, List.setIfInBounds_toArray, List.set_cons_zero, List.set_cons_succ]
      refine wpAnyH_take (i := 9) (v := ?_) rfl (by kernel_rfl) (by kernel_rfl) (by kernel_rfl) (fun _ _ _ h => h) (Or.inl ⟨by rfl, ?_⟩) (by assumption) ?_
      rotate_left
      · (intro w hSw; (try dsimp only at hSw); go_simp; (try with_reducible rfl))
      try simp only [Act.put, List.getElem_toArray, List.getElem_cons_zero, List.getElem_cons_succ, List.setIfInBounds_toArray, List.set_cons_zero, List.set_cons_succ]
      refine wpAnyH_ready (rs := [2]) (by kernel_rfl) (by simp) ?_
      refine AllReadyH.cons rfl (fun K hK => ?_) AllReadyH.nil
      go_simp
      (try dsimp only)
      refine hK.out _ _ ⟨Ext.cellAt ((Ext.refl _).alloc _) p_p0, Ext.cellAt ((Ext.refl _).alloc _) p_p3, Ext.cellAt ((Ext.refl _).alloc _) r_p0, Ext.cellAt ((Ext.refl _).alloc _) r_p1⟩ (fun hHeld => ?_)
      clear hK K
      try simp only [Act.put, List.getElem_toArray, List.getElem_cons_zero, List.getElem_cons_succ, List.setIfInBounds_toArray, List.set_cons_zero, List.set_cons_succ]
      refine wpAnyH_ready (rs := [10]) (by kernel_rfl) (by simp) ?_
      refine AllReadyH.cons rfl (fun K hK => ?_) AllReadyH.nil
      refine step_app0 (d := .tmp 19) (s := .tmp 26) ?_ ?_ 90 i0 _ 5 40 Try.underlying40 hi0 hy0 hy1 hy2 rfl h5 ?_ B A2 0 0 ((l.entries.drop c2).flatMap eEntry) ?_ (by exact ((Ext.refl W1).drew.alloc _).rd hr2 (by omega)) (oneCell_Entry _) (by unfold maxLen; omega) (by omega) ?_
      rfl
      rfl
      (focus (simp [Act.eval, emptyB]; done))
      (focus (simp [Act.eval]; done))
      intro A3 c3 w3 o3 hE
      have hE3 : Ext W1 w3 := ((Ext.refl W1).drew.alloc _).trans hE
      have hz3 := hE3.size
      have hz4 : W1.heap.size + 1 ≤ w3.heap.size := by (have h := hE.size; simpa using h)
      replace hX1 := hX1.trans hE3
      replace o1 := o1.keep (keepE hE3 (by omega))
      (clear p_p0 p_f0 p_p1 p_f1 p_p2 p_f2 p_p3 p_f3 q_p0 q_f0 q_p1 q_f1 q_p2 q_f2 q_p3 q_f3 r_p0 r_f0 r_p1 r_f1)
      replace p := p.ext hE3
      replace q := q.ext hE3
      replace r := r.ext hE3
      obtain ⟨p_p0, p_f0⟩ := p.at 0 _ rfl
      obtain ⟨p_p3, p_f3⟩ := p.at 3 _ rfl
      obtain ⟨r_p0, r_f0⟩ := r.at 0 _ rfl
      obtain ⟨r_p1, r_f1⟩ := r.at 1 _ rfl
      obtain ⟨q_p0, q_f0⟩ := q.at 0 _ rfl
      obtain ⟨q_p1, q_f1⟩ := q.at 1 _ rfl
      obtain ⟨q_p2, q_f2⟩ := q.at 2 _ rfl
      obtain ⟨q_p3, q_f3⟩ := q.at 3 _ rfl
      (clear hE hE3 hr2)
      (try dsimp only)
      refine hK.out _ _ ⟨p_p0, p_p3, r_p0, r_p1⟩ (fun hHeld => ?_)
      clear hK K
      try simp only [Act.put, List.getElem_toArray, List.getElem_cons_zero, List.getElem_cons_succ, List.setIfInBounds_toArray, List.set_cons_zero, List.set_cons_succ]
      refine wpAnyH_take (i := 11) (v := ?_) rfl (by kernel_rfl) (by kernel_rfl) (by kernel_rfl) (fun _ _ _ h => h) (Or.inl ⟨by rfl, ?_⟩) (by assumption) ?_
      rotate_left
      · (intro w hSw; (try dsimp only at hSw); go_simp; (try with_reducible rfl))
      try simp only [Act.put, List.getElem_toArray, List.getElem_cons_zero, List.getElem_cons_succ, List.setIfInBounds_toArray, List.set_cons_zero, List.set_cons_succ]
      refine wpAnyH_ready (rs := [12]) (by kernel_rfl) (by simp) ?_
      refine AllReadyH.cons rfl (fun K hK => ?_) AllReadyH.nil
      go_simp
      (try dsimp only)
      refine hK.out _ _ ⟨(by (try rw [cell_drew]); (repeat rw [cell_set_ne _ _ _ _ _ _ (by omega)]); exact p_p0), (by (try rw [cell_drew]); (repeat rw [cell_set_ne _ _ _ _ _ _ (by omega)]); exact p_p3), (by (try rw [cell_drew]); (repeat rw [cell_set_ne _ _ _ _ _ _ (by omega)]); exact r_p0), (by (try rw [cell_drew]); (repeat rw [cell_set_ne _ _ _ _ _ _ (by omega)]); exact r_p1)⟩ (fun hHeld => ?_)
      clear hK K
      try simp only [Act.put, List.getElem_toArray, List.getElem_cons_zero, List.getElem_cons_succ, List.setIfInBounds_toArray, List.set_cons_zero, List.set_cons_succ]
      refine wpAnyH_take (i := 13) (v := ?_) rfl (by kernel_rfl) (by kernel_rfl) (by kernel_rfl) (fun _ _ _ h => h) (Or.inl ⟨by rfl, ?_⟩) (by assumption) ?_
      rotate_left
      · (intro w hSw; (try dsimp only at hSw); go_simp; (try with_reducible rfl))
      try simp only [Act.put, List.getElem_toArray, List.getElem_cons_zero, List.getElem_cons_succ, List.setIfInBounds_toArray, List.set_cons_zero, List.set_cons_succ]
      refine wpAnyH_done (by kernel_rfl) ?_ _
      clear hHeld
      go_wp2
      rw [hf.out]
      have o4 : O_EntryS w3 _ _ (.slice A3 0 c3) (l.entries.drop c2) := OwnS.of o3 hlen.out
      obtain ⟨u2, s2, e2, j1, j2⟩ := o1
      injection e2 with e2
      simp only [Array.mk.injEq, List.cons.injEq, and_true] at e2
      obtain ⟨e2, e3⟩ := e2
      subst e2 e3
      exact bodyPost_ret (v := .tuple #[.agg #[.int .i64 (l.base + (c2 : Int)), .slice A5 n5 c5, .slice B5 k5 d5, .slice A3 0 c3], .bool true]) (by simp [results, Try.results131, go_sem, q_p0, q_p1, q_p2, q_p3]) rfl ⟨_, rfl, ⟨_, _, _, rfl, (O_CellS.keep j1 (show Kp _ _ _ _ by repeat' (first | with_reducible exact Kp.refl _ _ _ | with_reducible assumption | with_reducible refine Kp.set ?_ ?_ _ _ | with_reducible refine Kp.alloc ?_ ?_ _ | with_reducible refine Kp.drew ?_ | with_reducible refine Kp.drewN ?_ _ | with_reducible refine Kp.ext ?_ ?_ (by with_reducible assumption) | with_reducible refine Kp.fr ?_ ?_ ?_ (by with_reducible assumption) | omega | (simp; done) | (simp; omega)))).wide (by omega) (by first | (simp; done) | (simp; omega)), (O_SeatS.keep j2 (show Kp _ _ _ _ by repeat' (first | with_reducible exact Kp.refl _ _ _ | with_reducible assumption | with_reducible refine Kp.set ?_ ?_ _ _ | with_reducible refine Kp.alloc ?_ ?_ _ | with_reducible refine Kp.drew ?_ | with_reducible refine Kp.drewN ?_ _ | with_reducible refine Kp.ext ?_ ?_ (by with_reducible assumption) | with_reducible refine Kp.fr ?_ ?_ ?_ (by with_reducible assumption) | omega | (simp; done) | (simp; omega)))).wide (by omega) (by first | (simp; done) | (simp; omega)), (O_EntryS.keep o4 (show Kp _ _ _ _ by repeat' (first | with_reducible exact Kp.refl _ _ _ | with_reducible assumption | with_reducible refine Kp.set ?_ ?_ _ _ | with_reducible refine Kp.alloc ?_ ?_ _ | with_reducible refine Kp.drew ?_ | with_reducible refine Kp.drewN ?_ _ | with_reducible refine Kp.ext ?_ ?_ (by with_reducible assumption) | with_reducible refine Kp.fr ?_ ?_ ?_ (by with_reducible assumption) | omega | (simp; done) | (simp; omega)))).wide (by first | omega | (simp; omega)) (by first | (simp; done) | (simp; omega))⟩, by repeat' (first | with_reducible exact Ext.refl _ | with_reducible assumption | with_reducible refine Ext.set ?_ ?_ _ _ | with_reducible refine Ext.alloc ?_ _ | with_reducible refine Ext.drew ?_ | with_reducible refine Ext.drewN ?_ _ | with_reducible refine Ext.trans ?_ (by with_reducible assumption) | omega | (simp; done) | (simp; omega))⟩
    · have hr2 : Rd W1 B 5 (Option.map (fun x => x.add (k * 5)) A2) (n2 - k) ((l.entries.drop k).flatMap eEntry) := by
        rw [if_neg hck] at hcut
        exact hcut
      have hm2 : c2 ≤ maxLen := hcm2
      clear hcut
      go_upto_region 4 with (fail)
      refine wp_region_held_drew (S := (fun w' => w'.cell? ⟨w.heap.size, 0, none⟩ = some (.int .i64 l.base) ∧ w'.cell? ⟨w.heap.size, 3, none⟩ = some (.slice A2 n2 c2) ∧ w'.cell? ⟨w1.heap.size, 0, none⟩ = some (.slice A5 n5 c5) ∧ w'.cell? ⟨w1.heap.size, 1, none⟩ = some (.slice B5 k5 d5))) (by kernel_rfl) ⟨p_p0, p_p3, r_p0, r_p1⟩ (fun hHeld => ?_)
      refine wpAnyH_take (i := 0) (v := ?_) rfl (by kernel_rfl) (by kernel_rfl) (by kernel_rfl) (fun _ _ _ h => h) (Or.inl ⟨by rfl, ?_⟩) (by assumption) ?_
      rotate_left
      · (intro w hSw; (try dsimp only at hSw); go_simp; (try with_reducible rfl))
      try simp only [Act.put, List.getElem_toArray, List.getElem_cons_zero, List.getElem_cons_succ, List.setIfInBounds_toArray, List.set_cons_zero, List.set_cons_succ]
      refine wpAnyH_take (i := 1) (v := ?_) rfl (by kernel_rfl) (by kernel_rfl) (by kernel_rfl) (fun _ _ _ h => h) (Or.inl ⟨by rfl, ?_⟩) (by assumption) ?_
      rotate_left
      · (intro w hSw; (try dsimp only at hSw); go_simp; (try with_reducible rfl))
      try simp only [Act.put, List.getElem_toArray, List.getElem_cons_zero, List.getElem_cons_succ, List.setIfInBounds_toArray, List.set_cons_zero, List.set_cons_succ]
      refine wpAnyH_take (i := 3) (v := ?_) rfl (by kernel_rfl) (by kernel_rfl) (by kernel_rfl) (fun _ _ _ h => h) (Or.inl ⟨by rfl, ?_⟩) (by assumption) ?_
      rotate_left
      · (intro w hSw; (try dsimp only at hSw); go_simp; (try with_reducible rfl))
      try simp only [Act.put, List.getElem_toArray, List.getElem_cons_zero, List.getElem_cons_succ, List.setIfInBounds_toArray, List.set_cons_zero, List.set_cons_succ]
      refine wpAnyH_take (i := 4) (v := ?_) rfl (by kernel_rfl) (by kernel_rfl) (by kernel_rfl) (fun _ _ _ h => h) (Or.inl ⟨by rfl, ?_⟩) (by assumption) ?_
      rotate_left
      · (intro w hSw; (try dsimp only at hSw); go_simp; (try with_reducible rfl))
      try simp only [Act.put, List.getElem_toArray, List.getElem_cons_zero, List.getElem_cons_succ, List.setIfInBounds_toArray, List.set_cons_zero, List.set_cons_succ]
      refine wpAnyH_take (i := 5) (v := ?_) rfl (by kernel_rfl) (by kernel_rfl) (by kernel_rfl) (fun _ _ _ h => h) (Or.inl ⟨by rfl, ?_⟩) (by assumption) ?_
      rotate_left
      · (intro w hSw; (try dsimp only at hSw); go_simp; (try with_reducible rfl))
      try simp only [Act.put, List.getElem_toArray, List.getElem_cons_zero, List.getElem_cons_succ, List.setIfInBounds_toArray, List.set_cons_zero, List.set_cons_succ]
      refine wpAnyH_take (i := 6) (v := ?_) rfl (by kernel_rfl) (by kernel_rfl) (by kernel_rfl) (fun _ _ _ h => h) (Or.inl ⟨by rfl, ?_⟩) (by assumption) ?_
      rotate_left
      · (intro w hSw; (try dsimp only at hSw); go_simp; (try with_reducible rfl))
      try simp only [Act.put, List.getElem_toArray, List.getElem_cons_zero, List.getElem_cons_succ, List.setIfInBounds_toArray, List.set_cons_zero, List.set_cons_succ]
      refine wpAnyH_take (i := 7) (v := ?_) rfl (by kernel_rfl) (by kernel_rfl) (by kernel_rfl) (fun _ _ _ h => h) (Or.inl ⟨by rfl, ?_⟩) (by assumption) ?_
      rotate_left
      · (intro w hSw; (try dsimp only at hSw); go_simp; (try with_reducible rfl))
      try simp only [Act.put, List.getElem_toArray, List.getElem_cons_zero, List.getElem_cons_succ, List.setIfInBounds_toArray, List.set_cons_zero, List.set_cons_succ]
      refine wpAnyH_take (i := 8) (v := ?_) rfl (by kernel_rfl) (by kernel_rfl) (by kernel_rfl) (fun _ _ _ h => h) (Or.inl ⟨by rfl, ?_⟩) (by assumption) ?_
      rotate_left
      · (intro w hSw; (try dsimp only at hSw); go_simp; (try with_reducible rfl))
      try simp only [Act.put, List.getElem_toArray, List.getElem_cons_zero, List.getElem_cons_succ, List.setIfInBounds_toArray, List.set_cons_zero, List.set_cons_succ]
      refine wpAnyH_take (i := 9) (v := ?_) rfl (by kernel_rfl) (by kernel_rfl) (by kernel_rfl) (fun _ _ _ h => h) (Or.inl ⟨by rfl, ?_⟩) (by assumption) ?_
      rotate_left
      · (intro w hSw; (try dsimp only at hSw); go_simp; (try with_reducible rfl))
      try simp only [Act.put, List.getElem_toArray, List.getElem_cons_zero, List.getElem_cons_succ, List.setIfInBounds_toArray, List.set_cons_zero, List.set_cons_succ]
      refine wpAnyH_ready (rs := [2]) (by kernel_rfl) (by simp) ?_
      refine AllReadyH.cons rfl (fun K hK => ?_) AllReadyH.nil
      go_simp
      (try dsimp only)
      refine hK.out _ _ ⟨Ext.cellAt ((Ext.refl _).alloc _) p_p0, Ext.cellAt ((Ext.refl _).alloc _) p_p3, Ext.cellAt ((Ext.refl _).alloc _) r_p0, Ext.cellAt ((Ext.refl _).alloc _) r_p1⟩ (fun hHeld => ?_)
      clear hK K
      try simp only [Act.put, List.getElem_toArray, List.getElem_cons_zero, List.getElem_cons_succ, List.setIfInBounds_toArray, List.set_cons_zero, List.set_cons_succ]
      refine wpAnyH_ready (rs := [10]) (by kernel_rfl) (by simp) ?_
      refine AllReadyH.cons rfl (fun K hK => ?_) AllReadyH.nil
      refine step_app0 (d := .tmp 19) (s := .tmp 26) ?_ ?_ 90 i0 _ 5 40 Try.underlying40 hi0 hy0 hy1 hy2 rfl h5 ?_ B (Option.map (fun x => x.add (k * 5)) A2) (n2 - k) (c2 - k) ((l.entries.drop k).flatMap eEntry) ?_ (by exact ((Ext.refl W1).drew.alloc _).rd hr2 (by omega)) (oneCell_Entry _) (by unfold maxLen; omega) (by omega) ?_
      rfl
      rfl
      (focus (simp [Act.eval, emptyB]; done))
      (focus (simp [Act.eval]; done))
      intro A3 c3 w3 o3 hE
      have hE3 : Ext W1 w3 := ((Ext.refl W1).drew.alloc _).trans hE
      have hz3 := hE3.size
      have hz4 : W1.heap.size + 1 ≤ w3.heap.size := by (have h := hE.size; simpa using h)
      replace hX1 := hX1.trans hE3
      replace o1 := o1.keep (keepE hE3 (by omega))
      (clear p_p0 p_f0 p_p1 p_f1 p_p2 p_f2 p_p3 p_f3 q_p0 q_f0 q_p1 q_f1 q_p2 q_f2 q_p3 q_f3 r_p0 r_f0 r_p1 r_f1)
      replace p := p.ext hE3
      replace q := q.ext hE3
      replace r := r.ext hE3
      obtain ⟨p_p0, p_f0⟩ := p.at 0 _ rfl
      obtain ⟨p_p3, p_f3⟩ := p.at 3 _ rfl
      obtain ⟨r_p0, r_f0⟩ := r.at 0 _ rfl
      obtain ⟨r_p1, r_f1⟩ := r.at 1 _ rfl
      obtain ⟨q_p0, q_f0⟩ := q.at 0 _ rfl
      obtain ⟨q_p1, q_f1⟩ := q.at 1 _ rfl
      obtain ⟨q_p2, q_f2⟩ := q.at 2 _ rfl
      obtain ⟨q_p3, q_f3⟩ := q.at 3 _ rfl
      (clear hE hE3 hr2)
      (try dsimp only)
      refine hK.out _ _ ⟨p_p0, p_p3, r_p0, r_p1⟩ (fun hHeld => ?_)
      clear hK K
      try simp only [Act.put, List.getElem_toArray, List.getElem_cons_zero, List.getElem_cons_succ, List.setIfInBounds_toArray, List.set_cons_zero, List.set_cons_succ]
      refine wpAnyH_take (i := 11) (v := ?_) rfl (by kernel_rfl) (by kernel_rfl) (by kernel_rfl) (fun _ _ _ h => h) (Or.inl ⟨by rfl, ?_⟩) (by assumption) ?_
      rotate_left
      · (intro w hSw; (try dsimp only at hSw); go_simp; (try with_reducible rfl))
      try simp only [Act.put, List.getElem_toArray, List.getElem_cons_zero, List.getElem_cons_succ, List.setIfInBounds_toArray, List.set_cons_zero, List.set_cons_succ]
      refine wpAnyH_ready (rs := [12]) (by kernel_rfl) (by simp) ?_
      refine AllReadyH.cons rfl (fun K hK => ?_) AllReadyH.nil
      go_simp
      (try dsimp only)
      refine hK.out _ _ ⟨(by (try rw [cell_drew]); (repeat rw [cell_set_ne _ _ _ _ _ _ (by omega)]); exact p_p0), (by (try rw [cell_drew]); (repeat rw [cell_set_ne _ _ _ _ _ _ (by omega)]); exact p_p3), (by (try rw [cell_drew]); (repeat rw [cell_set_ne _ _ _ _ _ _ (by omega)]); exact r_p0), (by (try rw [cell_drew]); (repeat rw [cell_set_ne _ _ _ _ _ _ (by omega)]); exact r_p1)⟩ (fun hHeld => ?_)
      clear hK K
      try simp only [Act.put, List.getElem_toArray, List.getElem_cons_zero, List.getElem_cons_succ, List.setIfInBounds_toArray, List.set_cons_zero, List.set_cons_succ]
      refine wpAnyH_take (i := 13) (v := ?_) rfl (by kernel_rfl) (by kernel_rfl) (by kernel_rfl) (fun _ _ _ h => h) (Or.inl ⟨by rfl, ?_⟩) (by assumption) ?_
      rotate_left
      · (intro w hSw; (try dsimp only at hSw); go_simp; (try with_reducible rfl))
      try simp only [Act.put, List.getElem_toArray, List.getElem_cons_zero, List.getElem_cons_succ, List.setIfInBounds_toArray, List.set_cons_zero, List.set_cons_succ]
      refine wpAnyH_done (by kernel_rfl) ?_ _
      clear hHeld
      go_wp2
      rw [hf.out]
      have o4 : O_EntryS w3 _ _ (.slice A3 (n2 - k) c3) (l.entries.drop k) := OwnS.of o3 hlen.out
      obtain ⟨u2, s2, e2, j1, j2⟩ := o1
      injection e2 with e2
      simp only [Array.mk.injEq, List.cons.injEq, and_true] at e2
      obtain ⟨e2, e3⟩ := e2
      subst e2 e3
      exact bodyPost_ret (v := .tuple #[.agg #[.int .i64 (l.base + (k : Int)), .slice A5 n5 c5, .slice B5 k5 d5, .slice A3 (n2 - k) c3], .bool true]) (by simp [results, Try.results131, go_sem, q_p0, q_p1, q_p2, q_p3]) rfl ⟨_, rfl, ⟨_, _, _, rfl, (O_CellS.keep j1 (show Kp _ _ _ _ by repeat' (first | with_reducible exact Kp.refl _ _ _ | with_reducible assumption | with_reducible refine Kp.set ?_ ?_ _ _ | with_reducible refine Kp.alloc ?_ ?_ _ | with_reducible refine Kp.drew ?_ | with_reducible refine Kp.drewN ?_ _ | with_reducible refine Kp.ext ?_ ?_ (by with_reducible assumption) | with_reducible refine Kp.fr ?_ ?_ ?_ (by with_reducible assumption) | omega | (simp; done) | (simp; omega)))).wide (by omega) (by first | (simp; done) | (simp; omega)), (O_SeatS.keep j2 (show Kp _ _ _ _ by repeat' (first | with_reducible exact Kp.refl _ _ _ | with_reducible assumption | with_reducible refine Kp.set ?_ ?_ _ _ | with_reducible refine Kp.alloc ?_ ?_ _ | with_reducible refine Kp.drew ?_ | with_reducible refine Kp.drewN ?_ _ | with_reducible refine Kp.ext ?_ ?_ (by with_reducible assumption) | with_reducible refine Kp.fr ?_ ?_ ?_ (by with_reducible assumption) | omega | (simp; done) | (simp; omega)))).wide (by omega) (by first | (simp; done) | (simp; omega)), (O_EntryS.keep o4 (show Kp _ _ _ _ by repeat' (first | with_reducible exact Kp.refl _ _ _ | with_reducible assumption | with_reducible refine Kp.set ?_ ?_ _ _ | with_reducible refine Kp.alloc ?_ ?_ _ | with_reducible refine Kp.drew ?_ | with_reducible refine Kp.drewN ?_ _ | with_reducible refine Kp.ext ?_ ?_ (by with_reducible assumption) | with_reducible refine Kp.fr ?_ ?_ ?_ (by with_reducible assumption) | omega | (simp; done) | (simp; omega)))).wide (by first | omega | (simp; omega)) (by first | (simp; done) | (simp; omega))⟩, by repeat' (first | with_reducible exact Ext.refl _ | with_reducible assumption | with_reducible refine Ext.set ?_ ?_ _ _ | with_reducible refine Ext.alloc ?_ _ | with_reducible refine Ext.drew ?_ | with_reducible refine Ext.drewN ?_ _ | with_reducible refine Ext.trans ?_ (by with_reducible assumption) | omega | (simp; done) | (simp; omega))⟩

end Go.Proofs.Ytbfbdhjeoknjkaa
