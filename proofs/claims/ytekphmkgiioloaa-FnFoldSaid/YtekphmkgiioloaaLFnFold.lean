/-
  FnFold returns true for every input: folding a drawn log turns no later image, and no entry behind the fold; its end is what it was.
  Conditions: none: for every argument, in whatever memory.
-/
import Derived.Test.YtekphmkgiioloaaOpen
import Derived.Test.YtekphmkgiioloaaBytes
import Derived.Test.YtekphmkgiioloaaDrawP
import Derived.Test.YtekphmkgiioloaaBig
import Derived.Test.YtekphmkgiioloaaSame
import Derived.Deep.DeepCutAuto
import Derived.IntWalk
namespace Go.Proofs.Ytekphmkgiioloaa.fnFold
open Go.ChangeShapes Go.WideShapes Go.ChangeAt Go.RowKit
set_option linter.unusedVariables false
set_option maxRecDepth 1000000

set_option maxRecDepth 100000 in
theorem neqEntryS (x : EntryD) (w : World) : (binOp .neq 39 (.agg #[.int .i64 x.client, .int .i64 x.req, .int .i64 x.cmd.kind, .int .i64 x.cmd.key, .int .i64 x.cmd.value]) (.agg #[.int .i64 x.client, .int .i64 x.req, .int .i64 x.cmd.kind, .int .i64 x.cmd.key, .int .i64 x.cmd.value])).run Try.prog w = .ok (.bool false) w := by
  have u3 := Try.underlying3
  have a3 := Try.isAgg3
  have z3 := Try.sizeOf3
  have hS : Try.prog.underlying 39 = some (.struct (Try.prog.fieldsOf 39)) := by kernel_rfl
  have hp : Try.prog.stoodInHeld 39 = false := by kernel_rfl
  have a4 := Try.isAgg37
  have z4 := Try.sizeOf37
  rw [run_neq_struct, show (10000 : Nat) = 9999 + 1 from rfl, run_equalIn_agg w 9999 39 _ _ hS hp]
  simp only [Program.fieldsOf, Try.underlying39]
  clear hS hp
  go_simp

set_option maxRecDepth 100000 in
set_option maxHeartbeats 16000000 in
theorem walk (vv0 : Value) (l0 : List UInt8) (w : World) (r0 : R_ByteS w w.heap.size vv0 l0) :
    Calls Try.prog 3 #[vv0] w fun e w' => e = .returned (.bool true) ∧ Ext w w' := by
  obtain ⟨A0, n0, c0, rfl, hl0, hnc0, hcm0, hr0⟩ := r0
  by_cases hbig : 1048576 < n0
  · go_enter Try.func3, Try.ntmps3
    go_wp2_with fail
    refine (bigU_any A0 n0 c0 _).mono ?_
    rw [decide_eq_true hbig]
    rintro e w1 ⟨rfl, rfl⟩
    go_wp2
    go_ret
    exact ⟨rfl, Ext.refl _⟩
  · go_enter Try.func3, Try.ntmps3
    go_wp2_with fail
    refine (bigU_any A0 n0 c0 _).mono ?_
    rw [decide_eq_false hbig]
    rintro e w0 ⟨rfl, rfl⟩
    go_wp2_with fail
    refine (drawLogFold_s A0 n0 c0 l0 _ hr0 hl0 (by omega)).mono ?_
    rintro e w1 ⟨v1, l, n, hnr, rfl, o1, hsm, hX⟩
    obtain ⟨A1, n1, c1, B1, k1, d1, C1, m1, e1, rfl, hn1, hk1, hm1⟩ := o1.form
    have r1 : R_Log w1 w1.heap.size (.agg #[.int .i64 (l).base, .slice A1 n1 c1, .slice B1 k1 d1, .slice C1 m1 e1]) l := o1.rd
    clear o1
    have hm61 : m1 ≤ 61 := by have := hsm.ent; omega
    have Hm1 := Lib.hid hm1
    clear hn1 hk1 hm1 hsm
    have zzw1 := Nat.le_refl w1.heap.size
    have hnf : -9223372036854775808 ≤ n ∧ n ≤ 9223372036854775807 := by omega
    have hW1 : Ext w1 (w1.alloc (.cells #[.int .i64 (l).base, .slice A1 n1 c1, .slice B1 k1 d1, .slice C1 m1 e1] 30)) := by repeat' (first | with_reducible exact Ext.refl _ | with_reducible assumption | with_reducible refine Ext.set ?_ ?_ _ _ | with_reducible refine Ext.alloc ?_ _ | with_reducible refine Ext.drew ?_ | with_reducible refine Ext.drewN ?_ _ | with_reducible refine Ext.trans ?_ (by with_reducible assumption) | omega | (simp; done) | (simp; omega))
    have zW1 : w1.heap.size + 1 ≤ (w1.alloc (.cells #[.int .i64 (l).base, .slice A1 n1 c1, .slice B1 k1 d1, .slice C1 m1 e1] 30)).heap.size := by simp
    have a : Blk (w1.alloc (.cells #[.int .i64 (l).base, .slice A1 n1 c1, .slice B1 k1 d1, .slice C1 m1 e1] 30)) w1.heap.size 30 [.int .i64 (l).base, .slice A1 n1 c1, .slice B1 k1 d1, .slice C1 m1 e1] := (Blk.new w1 #[.int .i64 (l).base, .slice A1 n1 c1, .slice B1 k1 d1, .slice C1 m1 e1] 30 (by first | rfl | simp))
    go_upto_region 4 with (fail)
    replace r1 := r1.keep (keepE' hW1 (by omega))
    have zzW1 := hW1.size
    replace hX := hX.trans hW1
    clear hW1
    generalize (w1.alloc (.cells #[.int .i64 (l).base, .slice A1 n1 c1, .slice B1 k1 d1, .slice C1 m1 e1] 30)) = W1 at *
    obtain ⟨a_p0, a_f0⟩ := a.at 0 _ rfl
    obtain ⟨a_p1, a_f1⟩ := a.at 1 _ rfl
    obtain ⟨a_p2, a_f2⟩ := a.at 2 _ rfl
    obtain ⟨a_p3, a_f3⟩ := a.at 3 _ rfl
    obtain ⟨tt, htt⟩ : ∃ tt, logFold l n = tt := ⟨_, rfl⟩
    obtain ⟨F, ok⟩ := tt
    have Htt := Lib.hid htt
    go_wp2_with fail
    refine (logFold_i _ l n _ w1.heap.size (by exact r1) (by omega) hnf).mono ?_
    rw [htt]
    rintro e w2 ⟨v2, rfl, o2, hE2⟩
    obtain ⟨A2, n2, c2, B2, k2, d2, C2, m2, e2, rfl, hn2, hk2, hm2⟩ := o2.form
    have r2 : R_Log w2 w2.heap.size (.agg #[.int .i64 (F).base, .slice A2 n2 c2, .slice B2 k2 d2, .slice C2 m2 e2]) F := o2.rd
    clear o2
    clear hn2 hk2 hm2
    clear a_p0 a_f0 a_p1 a_f1 a_p2 a_f2 a_p3 a_f3
    replace a := a.ext hE2
    replace r1 := r1.keep (keepE' hE2 (by omega))
    have zzw2 := hE2.size
    replace hX := hX.trans hE2
    clear hE2
    have hW2 : Ext w2 (w2.alloc (.cells #[.int .i64 (F).base, .slice A2 n2 c2, .slice B2 k2 d2, .slice C2 m2 e2] 30)) := by repeat' (first | with_reducible exact Ext.refl _ | with_reducible assumption | with_reducible refine Ext.set ?_ ?_ _ _ | with_reducible refine Ext.alloc ?_ _ | with_reducible refine Ext.drew ?_ | with_reducible refine Ext.drewN ?_ _ | with_reducible refine Ext.trans ?_ (by with_reducible assumption) | omega | (simp; done) | (simp; omega))
    have zW2 : w2.heap.size + 1 ≤ (w2.alloc (.cells #[.int .i64 (F).base, .slice A2 n2 c2, .slice B2 k2 d2, .slice C2 m2 e2] 30)).heap.size := by simp
    have f : Blk (w2.alloc (.cells #[.int .i64 (F).base, .slice A2 n2 c2, .slice B2 k2 d2, .slice C2 m2 e2] 30)) w2.heap.size 30 [.int .i64 (F).base, .slice A2 n2 c2, .slice B2 k2 d2, .slice C2 m2 e2] := (Blk.new w2 #[.int .i64 (F).base, .slice A2 n2 c2, .slice B2 k2 d2, .slice C2 m2 e2] 30 (by first | rfl | simp))
    obtain ⟨a_p0, a_f0⟩ := a.at 0 _ rfl
    obtain ⟨a_p1, a_f1⟩ := a.at 1 _ rfl
    obtain ⟨a_p2, a_f2⟩ := a.at 2 _ rfl
    obtain ⟨a_p3, a_f3⟩ := a.at 3 _ rfl
    go_upto_region 5 with (fail)
    clear a_p0 a_f0 a_p1 a_f1 a_p2 a_f2 a_p3 a_f3
    replace a := a.ext hW2
    replace r1 := r1.keep (keepE' hW2 (by omega))
    replace r2 := r2.keep (keepE' hW2 (by omega))
    have zzW2 := hW2.size
    replace hX := hX.trans hW2
    clear hW2
    generalize (w2.alloc (.cells #[.int .i64 (F).base, .slice A2 n2 c2, .slice B2 k2 d2, .slice C2 m2 e2] 30)) = W2 at *
    obtain ⟨a_p0, a_f0⟩ := a.at 0 _ rfl
    obtain ⟨a_p1, a_f1⟩ := a.at 1 _ rfl
    obtain ⟨a_p2, a_f2⟩ := a.at 2 _ rfl
    obtain ⟨a_p3, a_f3⟩ := a.at 3 _ rfl
    obtain ⟨f_p0, f_f0⟩ := f.at 0 _ rfl
    obtain ⟨f_p1, f_f1⟩ := f.at 1 _ rfl
    obtain ⟨f_p2, f_f2⟩ := f.at 2 _ rfl
    obtain ⟨f_p3, f_f3⟩ := f.at 3 _ rfl
    go_wp2_with fail
    refine (logFold_s _ l n _ w1.heap.size (by exact r1) (by omega) hnf).mono ?_
    rw [htt]
    rintro e w3 ⟨v3, rfl, o3, hE3⟩
    obtain ⟨A3, n3, c3, B3, k3, d3, C3, m3, e3, rfl, hn3, hk3, hm3⟩ := o3.form
    have r3 : R_Log w3 w3.heap.size (.agg #[.int .i64 (F).base, .slice A3 n3 c3, .slice B3 k3 d3, .slice C3 m3 e3]) F := o3.rd
    clear o3
    clear hn3 hk3 hm3 r3 htt
    clear a_p0 a_f0 a_p1 a_f1 a_p2 a_f2 a_p3 a_f3 f_p0 f_f0 f_p1 f_f1 f_p2 f_f2 f_p3 f_f3
    replace a := a.ext hE3
    replace f := f.ext hE3
    replace r1 := r1.keep (keepE' hE3 (by omega))
    replace r2 := r2.keep (keepE' hE3 (by omega))
    have zzw3 := hE3.size
    replace hX := hX.trans hE3
    clear hE3
    have hW3 : Ext w3 (w3.alloc (.cells #[.int .i64 (F).base, .slice A3 n3 c3, .slice B3 k3 d3, .slice C3 m3 e3] 30)) := by repeat' (first | with_reducible exact Ext.refl _ | with_reducible assumption | with_reducible refine Ext.set ?_ ?_ _ _ | with_reducible refine Ext.alloc ?_ _ | with_reducible refine Ext.drew ?_ | with_reducible refine Ext.drewN ?_ _ | with_reducible refine Ext.trans ?_ (by with_reducible assumption) | omega | (simp; done) | (simp; omega))
    have zW3 : w3.heap.size + 1 ≤ (w3.alloc (.cells #[.int .i64 (F).base, .slice A3 n3 c3, .slice B3 k3 d3, .slice C3 m3 e3] 30)).heap.size := by simp
    have g : Blk (w3.alloc (.cells #[.int .i64 (F).base, .slice A3 n3 c3, .slice B3 k3 d3, .slice C3 m3 e3] 30)) w3.heap.size 30 [.int .i64 (F).base, .slice A3 n3 c3, .slice B3 k3 d3, .slice C3 m3 e3] := (Blk.new w3 #[.int .i64 (F).base, .slice A3 n3 c3, .slice B3 k3 d3, .slice C3 m3 e3] 30 (by first | rfl | simp))
    obtain ⟨a_p0, a_f0⟩ := a.at 0 _ rfl
    obtain ⟨a_p1, a_f1⟩ := a.at 1 _ rfl
    obtain ⟨a_p2, a_f2⟩ := a.at 2 _ rfl
    obtain ⟨a_p3, a_f3⟩ := a.at 3 _ rfl
    obtain ⟨f_p0, f_f0⟩ := f.at 0 _ rfl
    obtain ⟨f_p1, f_f1⟩ := f.at 1 _ rfl
    obtain ⟨f_p2, f_f2⟩ := f.at 2 _ rfl
    obtain ⟨f_p3, f_f3⟩ := f.at 3 _ rfl
    go_upto_region 6 with (fail)
    clear a_p0 a_f0 a_p1 a_f1 a_p2 a_f2 a_p3 a_f3 f_p0 f_f0 f_p1 f_f1 f_p2 f_f2 f_p3 f_f3
    replace a := a.ext hW3
    replace f := f.ext hW3
    replace r1 := r1.keep (keepE' hW3 (by omega))
    replace r2 := r2.keep (keepE' hW3 (by omega))
    have zzW3 := hW3.size
    replace hX := hX.trans hW3
    clear hW3
    generalize (w3.alloc (.cells #[.int .i64 (F).base, .slice A3 n3 c3, .slice B3 k3 d3, .slice C3 m3 e3] 30)) = W3 at *
    obtain ⟨a_p0, a_f0⟩ := a.at 0 _ rfl
    obtain ⟨a_p1, a_f1⟩ := a.at 1 _ rfl
    obtain ⟨a_p2, a_f2⟩ := a.at 2 _ rfl
    obtain ⟨a_p3, a_f3⟩ := a.at 3 _ rfl
    obtain ⟨f_p0, f_f0⟩ := f.at 0 _ rfl
    obtain ⟨f_p1, f_f1⟩ := f.at 1 _ rfl
    obtain ⟨f_p2, f_f2⟩ := f.at 2 _ rfl
    obtain ⟨f_p3, f_f3⟩ := f.at 3 _ rfl
    obtain ⟨g_p0, g_f0⟩ := g.at 0 _ rfl
    obtain ⟨g_p1, g_f1⟩ := g.at 1 _ rfl
    obtain ⟨g_p2, g_f2⟩ := g.at 2 _ rfl
    obtain ⟨g_p3, g_f3⟩ := g.at 3 _ rfl
    clear g_p0 g_f0 g_p1 g_f1 g_p2 g_f2 g_p3 g_f3
    clear g
    obtain ⟨hn, hhn⟩ : ∃ hn, hasNum l n = hn := ⟨_, rfl⟩
    cases hn with
    | false =>
      have h2 := Htt.out
      rw [logFold_no hhn] at h2
      injection h2 with h2 h3
      subst h3
      clear h2 hhn
      go_wp2_with fail
      clear a_p0 a_f0 a_p1 a_f1 a_p2 a_f2 a_p3 a_f3 f_p0 f_f0 f_p1 f_f1 f_p2 f_f2 f_p3 f_f3
      have hr4 : R_Log (W3.alloc (.cells #[.int .i64 0, .int .i64 1, .int .i64 1, .int .i64 0, .int .i64 0] 39)) (W3.heap.size + 1) (.agg #[.int .i64 4, .slice none 0 0, .slice none 0 0, .slice (some ⟨W3.heap.size, 0, none⟩) 1 1]) ⟨4, ⟨[], []⟩, [⟨0, 1, ⟨1, 0, 0⟩⟩]⟩ := ⟨_, _, _, rfl, RdS.nil, RdS.nil, RdS.of (rd_new W3 [.int .i64 0, .int .i64 1, .int .i64 1, .int .i64 0, .int .i64 0] 39 5 rfl) rfl (Nat.le_refl _) (by unfold maxLen; omega)⟩
      have hEA : Ext W3 (W3.alloc (.cells #[.int .i64 0, .int .i64 1, .int .i64 1, .int .i64 0, .int .i64 0] 39)) := (Ext.refl _).alloc _
      refine (logEnd_i _ ⟨4, ⟨[], []⟩, [⟨0, 1, ⟨1, 0, 0⟩⟩]⟩ _ (W3.heap.size + 1) (by exact hr4) (by simp)).mono ?_
      rw [show logEnd ⟨4, ⟨[], []⟩, [⟨0, 1, ⟨1, 0, 0⟩⟩]⟩ = 5 by decide]
      rintro e w4 ⟨rfl, hE4⟩
      go_wp2
      go_ret
      exact ⟨rfl, (hX.trans hEA).trans hE4⟩
    | true =>
      obtain ⟨hg, j0, rfl, hj0⟩ := hasNum_parts hhn
      have h2 := Htt.out
      rw [logFold_in hhn] at h2
      injection h2 with h2 h3
      subst h3
      have hF := Lib.hid h2
      have hfb : F.base = l.base + (j0 : Int) := by rw [← h2]
      have Hg := Lib.hid hg
      have hEnd : Hid (logEnd l = l.base + (m1 : Int)) := by show _ = _; rw [logEnd_ok (logOk_iff.2 hg), Hm1.out]
      have hEndF : Hid (logEnd F = l.base + (m1 : Int)) := by show _ = _; rw [← h2, fold_end hg hj0]; exact hEnd.out
      rw [Hm1.out] at hj0
      have hb0 := hg.base
      have hb1 := hg.last
      rw [Hm1.out] at hb1
      clear hg h2 hhn
      rw [hfb] at r2
      clear a_p0 a_f0 a_p1 a_f1 a_p2 a_f2 a_p3 a_f3 f_p0 f_f0 f_p1 f_f1 f_p2 f_f2 f_p3 f_f3
      rw [hfb] at f
      obtain ⟨a_p0, a_f0⟩ := a.at 0 _ rfl
      obtain ⟨a_p1, a_f1⟩ := a.at 1 _ rfl
      obtain ⟨a_p2, a_f2⟩ := a.at 2 _ rfl
      obtain ⟨a_p3, a_f3⟩ := a.at 3 _ rfl
      obtain ⟨f_p0, f_f0⟩ := f.at 0 _ rfl
      obtain ⟨f_p1, f_f1⟩ := f.at 1 _ rfl
      obtain ⟨f_p2, f_f2⟩ := f.at 2 _ rfl
      obtain ⟨f_p3, f_f3⟩ := f.at 3 _ rfl
      go_upto_region 10 with (fail)
      refine wp_region_held_drew (S := (fun w' => w'.cell? ⟨w2.heap.size, 0, none⟩ = some (.int .i64 (l.base + (j0 : Int))) ∧ w'.cell? ⟨w2.heap.size, 1, none⟩ = some (.slice A2 n2 c2) ∧ w'.cell? ⟨w2.heap.size, 2, none⟩ = some (.slice B2 k2 d2) ∧ w'.cell? ⟨w2.heap.size, 3, none⟩ = some (.slice C2 m2 e2) ∧ w'.cell? ⟨w1.heap.size, 0, none⟩ = some (.int .i64 (l).base) ∧ w'.cell? ⟨w1.heap.size, 1, none⟩ = some (.slice A1 n1 c1) ∧ w'.cell? ⟨w1.heap.size, 2, none⟩ = some (.slice B1 k1 d1) ∧ w'.cell? ⟨w1.heap.size, 3, none⟩ = some (.slice C1 m1 e1))) (by kernel_rfl) ⟨f_p0, f_p1, f_p2, f_p3, a_p0, a_p1, a_p2, a_p3⟩ (fun hHeld => ?_)
      refine wpAnyH_take (i := 0) (v := ?_) rfl (by kernel_rfl) (by kernel_rfl) (by kernel_rfl) (fun _ _ _ h => h) (Or.inl ⟨by rfl, ?_⟩) (by assumption) ?_
      rotate_left
      · (intro w hSw; (try dsimp only at hSw); go_simp; (try with_reducible rfl))
      try simp only [Act.put, List.getElem_toArray, List.getElem_cons_zero, List.getElem_cons_succ, List.setIfInBounds_toArray, List.set_cons_zero, List.set_cons_succ]
      refine wpAnyH_take (i := 2) (v := ?_) rfl (by kernel_rfl) (by kernel_rfl) (by kernel_rfl) (fun _ _ _ h => h) (Or.inl ⟨by rfl, ?_⟩) (by assumption) ?_
      rotate_left
      · (intro w hSw; (try dsimp only at hSw); go_simp; (try with_reducible rfl))
      try simp only [Act.put, List.getElem_toArray, List.getElem_cons_zero, List.getElem_cons_succ, List.setIfInBounds_toArray, List.set_cons_zero, List.set_cons_succ]
      refine wpAnyH_ready (rs := [1]) (by kernel_rfl) (by simp) ?_
      refine AllReadyH.cons rfl (fun K hK => ?_) AllReadyH.nil
      go_simp
      go_at_call 10
      refine (logEnd_i _ F _ w2.heap.size (by exact r2) (by simp; omega)).mono ?_
      rw [hEndF.out]
      rintro e w5 ⟨rfl, hE⟩
      have hE5 : Ext W3 w5 := ((Ext.refl _).drew).trans hE
      have zz5 := hE5.size
      (try dsimp only)
      refine hK.out _ _ ⟨Ext.cellAt hE5 f_p0, Ext.cellAt hE5 f_p1, Ext.cellAt hE5 f_p2, Ext.cellAt hE5 f_p3, Ext.cellAt hE5 a_p0, Ext.cellAt hE5 a_p1, Ext.cellAt hE5 a_p2, Ext.cellAt hE5 a_p3⟩ (fun hHeld => ?_)
      clear hK K
      try simp only [Act.put, List.getElem_toArray, List.getElem_cons_zero, List.getElem_cons_succ, List.setIfInBounds_toArray, List.set_cons_zero, List.set_cons_succ]
      refine wpAnyH_ready (rs := [3]) (by kernel_rfl) (by simp) ?_
      refine AllReadyH.cons rfl (fun K hK => ?_) AllReadyH.nil
      go_simp
      go_at_call 10
      refine (logEnd_i _ l _ w1.heap.size (by exact r1.keep (keepE' hE5 (by omega))) (by omega)).mono ?_
      rw [hEnd.out]
      rintro e w6 ⟨rfl, hE⟩
      replace hE5 : Ext W3 w6 := hE5.trans hE
      (try dsimp only)
      refine hK.out _ _ ⟨Ext.cellAt hE5 f_p0, Ext.cellAt hE5 f_p1, Ext.cellAt hE5 f_p2, Ext.cellAt hE5 f_p3, Ext.cellAt hE5 a_p0, Ext.cellAt hE5 a_p1, Ext.cellAt hE5 a_p2, Ext.cellAt hE5 a_p3⟩ (fun hHeld => ?_)
      clear hK K
      try simp only [Act.put, List.getElem_toArray, List.getElem_cons_zero, List.getElem_cons_succ, List.setIfInBounds_toArray, List.set_cons_zero, List.set_cons_succ]
      refine wpAnyH_take (i := 4) (v := ?_) rfl (by kernel_rfl) (by kernel_rfl) (by kernel_rfl) (fun _ _ _ h => h) (Or.inl ⟨by rfl, ?_⟩) (by assumption) ?_
      rotate_left
      · (intro w hSw; (try dsimp only at hSw); go_simp; (try with_reducible rfl))
      try simp only [Act.put, List.getElem_toArray, List.getElem_cons_zero, List.getElem_cons_succ, List.setIfInBounds_toArray, List.set_cons_zero, List.set_cons_succ]
      refine wpAnyH_take (i := 5) (v := ?_) rfl (by kernel_rfl) (by kernel_rfl) (by kernel_rfl) (fun _ _ _ h => h) (Or.inl ⟨by rfl, ?_⟩) (by assumption) ?_
      rotate_left
      · (intro w hSw; (try dsimp only at hSw); go_simp; (try with_reducible rfl))
      try simp only [Act.put, List.getElem_toArray, List.getElem_cons_zero, List.getElem_cons_succ, List.setIfInBounds_toArray, List.set_cons_zero, List.set_cons_succ]
      refine wpAnyH_take (i := 6) (v := ?_) rfl (by kernel_rfl) (by kernel_rfl) (by kernel_rfl) (fun _ _ _ h => h) (Or.inl ⟨by rfl, ?_⟩) (by assumption) ?_
      rotate_left
      · (intro w hSw; (try dsimp only at hSw); go_simp; (try with_reducible rfl))
      try simp only [Act.put, List.getElem_toArray, List.getElem_cons_zero, List.getElem_cons_succ, List.setIfInBounds_toArray, List.set_cons_zero, List.set_cons_succ]
      refine wpAnyH_take (i := 7) (v := ?_) rfl (by kernel_rfl) (by kernel_rfl) (by kernel_rfl) (fun _ _ _ h => h) (Or.inl ⟨by rfl, ?_⟩) (by assumption) ?_
      rotate_left
      · (intro w hSw; (try dsimp only at hSw); go_simp; (try with_reducible rfl))
      try simp only [Act.put, List.getElem_toArray, List.getElem_cons_zero, List.getElem_cons_succ, List.setIfInBounds_toArray, List.set_cons_zero, List.set_cons_succ]
      refine wpAnyH_take (i := 8) (v := ?_) rfl (by kernel_rfl) (by kernel_rfl) (by kernel_rfl) (fun _ _ _ h => h) (Or.inl ⟨by rfl, ?_⟩) (by assumption) ?_
      rotate_left
      · (intro w hSw; (try dsimp only at hSw); go_simp; (try with_reducible rfl))
      try simp only [Act.put, List.getElem_toArray, List.getElem_cons_zero, List.getElem_cons_succ, List.setIfInBounds_toArray, List.set_cons_zero, List.set_cons_succ]
      refine wpAnyH_take (i := 9) (v := ?_) rfl (by kernel_rfl) (by kernel_rfl) (by kernel_rfl) (fun _ _ _ h => h) (Or.inl ⟨by rfl, ?_⟩) (by assumption) ?_
      rotate_left
      · (intro w hSw; (try dsimp only at hSw); go_simp; (try with_reducible rfl))
      try simp only [Act.put, List.getElem_toArray, List.getElem_cons_zero, List.getElem_cons_succ, List.setIfInBounds_toArray, List.set_cons_zero, List.set_cons_succ]
      refine wpAnyH_take (i := 10) (v := ?_) rfl (by kernel_rfl) (by kernel_rfl) (by kernel_rfl) (fun _ _ _ h => h) (Or.inl ⟨by rfl, ?_⟩) (by assumption) ?_
      rotate_left
      · (intro w hSw; (try dsimp only at hSw); go_simp; (try with_reducible rfl))
      try simp only [Act.put, List.getElem_toArray, List.getElem_cons_zero, List.getElem_cons_succ, List.setIfInBounds_toArray, List.set_cons_zero, List.set_cons_succ]
      refine wpAnyH_done (by kernel_rfl) ?_ _
      clear hHeld
      clear a_p0 a_f0 a_p1 a_f1 a_p2 a_f2 a_p3 a_f3 f_p0 f_f0 f_p1 f_f1 f_p2 f_f2 f_p3 f_f3
      clear hE
      replace a := a.ext hE5
      replace f := f.ext hE5
      replace r1 := r1.keep (keepE' hE5 (by omega))
      replace r2 := r2.keep (keepE' hE5 (by omega))
      have zzw6 := hE5.size
      replace hX := hX.trans hE5
      clear hE5
      obtain ⟨a_p0, a_f0⟩ := a.at 0 _ rfl
      obtain ⟨a_p1, a_f1⟩ := a.at 1 _ rfl
      obtain ⟨a_p2, a_f2⟩ := a.at 2 _ rfl
      obtain ⟨a_p3, a_f3⟩ := a.at 3 _ rfl
      obtain ⟨f_p0, f_f0⟩ := f.at 0 _ rfl
      obtain ⟨f_p1, f_f1⟩ := f.at 1 _ rfl
      obtain ⟨f_p2, f_f2⟩ := f.at 2 _ rfl
      obtain ⟨f_p3, f_f3⟩ := f.at 3 _ rfl
      go_wp2
      go_loopw [9] (fun kv wr => ∃ j : Nat, j0 + j ≤ m1 + 1 ∧ kv = .int .i64 (l.base + ((j0 + j : Nat) : Int)) ∧ Ext w wr ∧ w2.heap.size ≤ wr.heap.size ∧ w1.heap.size ≤ wr.heap.size ∧ R_Log wr w1.heap.size (.agg #[.int .i64 (l).base, .slice A1 n1 c1, .slice B1 k1 d1, .slice C1 m1 e1]) l ∧ R_Log wr w2.heap.size (.agg #[.int .i64 (l.base + (j0 : Int)), .slice A2 n2 c2, .slice B2 k2 d2, .slice C2 m2 e2]) F ∧ Blk wr w1.heap.size 30 [.int .i64 (l).base, .slice A1 n1 c1, .slice B1 k1 d1, .slice C1 m1 e1] ∧ Blk wr w2.heap.size 30 [.int .i64 (l.base + (j0 : Int)), .slice A2 n2 c2, .slice B2 k2 d2, .slice C2 m2 e2]) (fun kv _ => (l.base + (m1 : Int) + 1 - intOf kv).toNat)
      case atStart => exact ⟨0, by omega, rfl, hX, by omega, by omega, r1, r2, a, f⟩
      case round =>
        clear a_p0 a_f0 f_p0 f_f0 a_p1 a_f1 f_p1 f_f1 a_p2 a_f2 f_p2 f_f2 a_p3 a_f3 f_p3 f_f3
        clear a f r1 r2 hX
        obtain ⟨j, hj, rfl, hX, zzr, zzr1, r1, r2, a, f⟩ := hrel
        obtain ⟨a_p0, a_f0⟩ := a.at 0 _ rfl
        obtain ⟨a_p1, a_f1⟩ := a.at 1 _ rfl
        obtain ⟨a_p2, a_f2⟩ := a.at 2 _ rfl
        obtain ⟨a_p3, a_f3⟩ := a.at 3 _ rfl
        obtain ⟨f_p0, f_f0⟩ := f.at 0 _ rfl
        obtain ⟨f_p1, f_f1⟩ := f.at 1 _ rfl
        obtain ⟨f_p2, f_f2⟩ := f.at 2 _ rfl
        obtain ⟨f_p3, f_f3⟩ := f.at 3 _ rfl
        obtain ⟨kk, hkk⟩ : ∃ kk : Int, l.base + ((j0 + j : Nat) : Int) = kk := ⟨_, rfl⟩
        have hkr : 0 ≤ kk ∧ kk ≤ 1000000061 := by omega
        rw [hkk]
        go_wp2_with fail
        refine (logEnd_s _ l _ w1.heap.size (by exact r1) (by omega)).mono ?_
        rw [hEnd.out]
        rintro e w7 ⟨rfl, hE7⟩
        clear a_p0 a_f0 a_p1 a_f1 a_p2 a_f2 a_p3 a_f3 f_p0 f_f0 f_p1 f_f1 f_p2 f_f2 f_p3 f_f3
        replace a := a.ext hE7
        replace f := f.ext hE7
        replace r1 := r1.keep (keepE' hE7 (by omega))
        replace r2 := r2.keep (keepE' hE7 (by omega))
        have zzw7 := hE7.size
        replace hX := hX.trans hE7
        clear hE7
        obtain ⟨a_p0, a_f0⟩ := a.at 0 _ rfl
        obtain ⟨a_p1, a_f1⟩ := a.at 1 _ rfl
        obtain ⟨a_p2, a_f2⟩ := a.at 2 _ rfl
        obtain ⟨a_p3, a_f3⟩ := a.at 3 _ rfl
        obtain ⟨f_p0, f_f0⟩ := f.at 0 _ rfl
        obtain ⟨f_p1, f_f1⟩ := f.at 1 _ rfl
        obtain ⟨f_p2, f_f2⟩ := f.at 2 _ rfl
        obtain ⟨f_p3, f_f3⟩ := f.at 3 _ rfl
        by_cases hlt : kk ≤ l.base + (m1 : Int)
        · have d1 : decide (kk ≤ l.base + (m1 : Int)) = true := by simpa using hlt
          have hjl : j0 + j ≤ l.entries.length := by rw [Hm1.out]; omega
          have hn1 := fold_num (j := j) Hg.out hjl
          have hi1 := logImage_in hn1
          have hi2 := fold_image Hg.out (by rw [Hm1.out]; exact hj0) (j := j) (by omega)
          have ha2 := fold_at Hg.out (by rw [Hm1.out]; exact hj0) (j := j)
          rw [hF.out] at hi2 ha2
          rw [hkk] at hi1 hi2 ha2
          obtain ⟨M, hM⟩ : ∃ M, (runAll l.image (l.entries.take (j0 + j))).1 = M := ⟨_, rfl⟩
          rw [hM] at hi1 hi2
          obtain ⟨aa, haa⟩ : ∃ aa, logAt l (kk + 1) = aa := ⟨_, rfl⟩
          rw [haa] at ha2
          obtain ⟨y, has⟩ := aa
          clear hM hn1 hjl
          have hww : IntKind.i64.wrap (kk + 1) = kk + 1 := IntWalk.i64_in _ (by omega)
          go_wp2_with fail
          refine (logImage_i _ l kk _ w1.heap.size (by exact r1) (by omega) (by omega)).mono ?_
          rw [hi1]
          rintro e w8 ⟨v8, rfl, o8, hE8⟩
          obtain ⟨A8, n8, c8, B8, k8, d8, rfl, hn8, hk8⟩ := o8.form
          have r8 : R_Image w8 w8.heap.size (.agg #[.slice A8 n8 c8, .slice B8 k8 d8]) M := o8.rd
          clear o8
          clear hn8 hk8 hi1
          clear a_p0 a_f0 a_p1 a_f1 a_p2 a_f2 a_p3 a_f3 f_p0 f_f0 f_p1 f_f1 f_p2 f_f2 f_p3 f_f3
          replace a := a.ext hE8
          replace f := f.ext hE8
          replace r1 := r1.keep (keepE' hE8 (by omega))
          replace r2 := r2.keep (keepE' hE8 (by omega))
          have zzw8 := hE8.size
          replace hX := hX.trans hE8
          clear hE8
          have hW8 : Ext w8 (w8.alloc (.cells #[.slice A8 n8 c8, .slice B8 k8 d8] 27)) := by repeat' (first | with_reducible exact Ext.refl _ | with_reducible assumption | with_reducible refine Ext.set ?_ ?_ _ _ | with_reducible refine Ext.alloc ?_ _ | with_reducible refine Ext.drew ?_ | with_reducible refine Ext.drewN ?_ _ | with_reducible refine Ext.trans ?_ (by with_reducible assumption) | omega | (simp; done) | (simp; omega))
          have zW8 : w8.heap.size + 1 ≤ (w8.alloc (.cells #[.slice A8 n8 c8, .slice B8 k8 d8] 27)).heap.size := by simp
          have p : Blk (w8.alloc (.cells #[.slice A8 n8 c8, .slice B8 k8 d8] 27)) w8.heap.size 27 [.slice A8 n8 c8, .slice B8 k8 d8] := (Blk.new w8 #[.slice A8 n8 c8, .slice B8 k8 d8] 27 (by first | rfl | simp))
          obtain ⟨a_p0, a_f0⟩ := a.at 0 _ rfl
          obtain ⟨a_p1, a_f1⟩ := a.at 1 _ rfl
          obtain ⟨a_p2, a_f2⟩ := a.at 2 _ rfl
          obtain ⟨a_p3, a_f3⟩ := a.at 3 _ rfl
          obtain ⟨f_p0, f_f0⟩ := f.at 0 _ rfl
          obtain ⟨f_p1, f_f1⟩ := f.at 1 _ rfl
          obtain ⟨f_p2, f_f2⟩ := f.at 2 _ rfl
          obtain ⟨f_p3, f_f3⟩ := f.at 3 _ rfl
          go_upto_region 16 with (fail)
          clear a_p0 a_f0 a_p1 a_f1 a_p2 a_f2 a_p3 a_f3 f_p0 f_f0 f_p1 f_f1 f_p2 f_f2 f_p3 f_f3
          replace a := a.ext hW8
          replace f := f.ext hW8
          replace r1 := r1.keep (keepE' hW8 (by omega))
          replace r2 := r2.keep (keepE' hW8 (by omega))
          replace r8 := r8.keep (keepE' hW8 (by omega))
          have zzW8 := hW8.size
          replace hX := hX.trans hW8
          clear hW8
          generalize (w8.alloc (.cells #[.slice A8 n8 c8, .slice B8 k8 d8] 27)) = W8 at *
          obtain ⟨a_p0, a_f0⟩ := a.at 0 _ rfl
          obtain ⟨a_p1, a_f1⟩ := a.at 1 _ rfl
          obtain ⟨a_p2, a_f2⟩ := a.at 2 _ rfl
          obtain ⟨a_p3, a_f3⟩ := a.at 3 _ rfl
          obtain ⟨f_p0, f_f0⟩ := f.at 0 _ rfl
          obtain ⟨f_p1, f_f1⟩ := f.at 1 _ rfl
          obtain ⟨f_p2, f_f2⟩ := f.at 2 _ rfl
          obtain ⟨f_p3, f_f3⟩ := f.at 3 _ rfl
          obtain ⟨p_p0, p_f0⟩ := p.at 0 _ rfl
          obtain ⟨p_p1, p_f1⟩ := p.at 1 _ rfl
          go_wp2_with fail
          refine (logImage_i _ F kk _ w2.heap.size (by exact r2) (by omega) (by omega)).mono ?_
          rw [hi2]
          rintro e w9 ⟨v9, rfl, o9, hE9⟩
          obtain ⟨A9, n9, c9, B9, k9, d9, rfl, hn9, hk9⟩ := o9.form
          have r9 : R_Image w9 w9.heap.size (.agg #[.slice A9 n9 c9, .slice B9 k9 d9]) M := o9.rd
          clear o9
          clear hn9 hk9 hi2
          clear a_p0 a_f0 a_p1 a_f1 a_p2 a_f2 a_p3 a_f3 f_p0 f_f0 f_p1 f_f1 f_p2 f_f2 f_p3 f_f3 p_p0 p_f0 p_p1 p_f1
          replace a := a.ext hE9
          replace f := f.ext hE9
          replace p := p.ext hE9
          replace r1 := r1.keep (keepE' hE9 (by omega))
          replace r2 := r2.keep (keepE' hE9 (by omega))
          replace r8 := r8.keep (keepE' hE9 (by omega))
          have zzw9 := hE9.size
          replace hX := hX.trans hE9
          clear hE9
          have hW9 : Ext w9 (w9.alloc (.cells #[.slice A9 n9 c9, .slice B9 k9 d9] 27)) := by repeat' (first | with_reducible exact Ext.refl _ | with_reducible assumption | with_reducible refine Ext.set ?_ ?_ _ _ | with_reducible refine Ext.alloc ?_ _ | with_reducible refine Ext.drew ?_ | with_reducible refine Ext.drewN ?_ _ | with_reducible refine Ext.trans ?_ (by with_reducible assumption) | omega | (simp; done) | (simp; omega))
          have zW9 : w9.heap.size + 1 ≤ (w9.alloc (.cells #[.slice A9 n9 c9, .slice B9 k9 d9] 27)).heap.size := by simp
          have q : Blk (w9.alloc (.cells #[.slice A9 n9 c9, .slice B9 k9 d9] 27)) w9.heap.size 27 [.slice A9 n9 c9, .slice B9 k9 d9] := (Blk.new w9 #[.slice A9 n9 c9, .slice B9 k9 d9] 27 (by first | rfl | simp))
          obtain ⟨a_p0, a_f0⟩ := a.at 0 _ rfl
          obtain ⟨a_p1, a_f1⟩ := a.at 1 _ rfl
          obtain ⟨a_p2, a_f2⟩ := a.at 2 _ rfl
          obtain ⟨a_p3, a_f3⟩ := a.at 3 _ rfl
          obtain ⟨f_p0, f_f0⟩ := f.at 0 _ rfl
          obtain ⟨f_p1, f_f1⟩ := f.at 1 _ rfl
          obtain ⟨f_p2, f_f2⟩ := f.at 2 _ rfl
          obtain ⟨f_p3, f_f3⟩ := f.at 3 _ rfl
          obtain ⟨p_p0, p_f0⟩ := p.at 0 _ rfl
          obtain ⟨p_p1, p_f1⟩ := p.at 1 _ rfl
          go_upto_region 17 with (fail)
          clear a_p0 a_f0 a_p1 a_f1 a_p2 a_f2 a_p3 a_f3 f_p0 f_f0 f_p1 f_f1 f_p2 f_f2 f_p3 f_f3 p_p0 p_f0 p_p1 p_f1
          replace a := a.ext hW9
          replace f := f.ext hW9
          replace p := p.ext hW9
          replace r1 := r1.keep (keepE' hW9 (by omega))
          replace r2 := r2.keep (keepE' hW9 (by omega))
          replace r8 := r8.keep (keepE' hW9 (by omega))
          replace r9 := r9.keep (keepE' hW9 (by omega))
          have zzW9 := hW9.size
          replace hX := hX.trans hW9
          clear hW9
          generalize (w9.alloc (.cells #[.slice A9 n9 c9, .slice B9 k9 d9] 27)) = W9 at *
          obtain ⟨a_p0, a_f0⟩ := a.at 0 _ rfl
          obtain ⟨a_p1, a_f1⟩ := a.at 1 _ rfl
          obtain ⟨a_p2, a_f2⟩ := a.at 2 _ rfl
          obtain ⟨a_p3, a_f3⟩ := a.at 3 _ rfl
          obtain ⟨f_p0, f_f0⟩ := f.at 0 _ rfl
          obtain ⟨f_p1, f_f1⟩ := f.at 1 _ rfl
          obtain ⟨f_p2, f_f2⟩ := f.at 2 _ rfl
          obtain ⟨f_p3, f_f3⟩ := f.at 3 _ rfl
          obtain ⟨p_p0, p_f0⟩ := p.at 0 _ rfl
          obtain ⟨p_p1, p_f1⟩ := p.at 1 _ rfl
          obtain ⟨q_p0, q_f0⟩ := q.at 0 _ rfl
          obtain ⟨q_p1, q_f1⟩ := q.at 1 _ rfl
          go_wp2_with fail
          refine (logAt_i _ l (kk + 1) _ w1.heap.size (by exact r1) (by omega) (by omega)).mono ?_
          rw [haa]
          rintro e w10 ⟨rfl, hE10⟩
          clear a_p0 a_f0 a_p1 a_f1 a_p2 a_f2 a_p3 a_f3 f_p0 f_f0 f_p1 f_f1 f_p2 f_f2 f_p3 f_f3 p_p0 p_f0 p_p1 p_f1 q_p0 q_f0 q_p1 q_f1
          replace a := a.ext hE10
          replace f := f.ext hE10
          replace p := p.ext hE10
          replace q := q.ext hE10
          replace r1 := r1.keep (keepE' hE10 (by omega))
          replace r2 := r2.keep (keepE' hE10 (by omega))
          replace r8 := r8.keep (keepE' hE10 (by omega))
          replace r9 := r9.keep (keepE' hE10 (by omega))
          have zzw10 := hE10.size
          replace hX := hX.trans hE10
          clear hE10
          have hW10 : Ext w10 (w10.alloc (.cells #[.int .i64 y.client, .int .i64 y.req, .int .i64 y.cmd.kind, .int .i64 y.cmd.key, .int .i64 y.cmd.value] 39)) := by repeat' (first | with_reducible exact Ext.refl _ | with_reducible assumption | with_reducible refine Ext.set ?_ ?_ _ _ | with_reducible refine Ext.alloc ?_ _ | with_reducible refine Ext.drew ?_ | with_reducible refine Ext.drewN ?_ _ | with_reducible refine Ext.trans ?_ (by with_reducible assumption) | omega | (simp; done) | (simp; omega))
          have zW10 : w10.heap.size + 1 ≤ (w10.alloc (.cells #[.int .i64 y.client, .int .i64 y.req, .int .i64 y.cmd.kind, .int .i64 y.cmd.key, .int .i64 y.cmd.value] 39)).heap.size := by simp
          have s : Blk (w10.alloc (.cells #[.int .i64 y.client, .int .i64 y.req, .int .i64 y.cmd.kind, .int .i64 y.cmd.key, .int .i64 y.cmd.value] 39)) w10.heap.size 39 [.int .i64 y.client, .int .i64 y.req, .int .i64 y.cmd.kind, .int .i64 y.cmd.key, .int .i64 y.cmd.value] := (Blk.new w10 #[.int .i64 y.client, .int .i64 y.req, .int .i64 y.cmd.kind, .int .i64 y.cmd.key, .int .i64 y.cmd.value] 39 (by first | rfl | simp))
          obtain ⟨a_p0, a_f0⟩ := a.at 0 _ rfl
          obtain ⟨a_p1, a_f1⟩ := a.at 1 _ rfl
          obtain ⟨a_p2, a_f2⟩ := a.at 2 _ rfl
          obtain ⟨a_p3, a_f3⟩ := a.at 3 _ rfl
          obtain ⟨f_p0, f_f0⟩ := f.at 0 _ rfl
          obtain ⟨f_p1, f_f1⟩ := f.at 1 _ rfl
          obtain ⟨f_p2, f_f2⟩ := f.at 2 _ rfl
          obtain ⟨f_p3, f_f3⟩ := f.at 3 _ rfl
          obtain ⟨p_p0, p_f0⟩ := p.at 0 _ rfl
          obtain ⟨p_p1, p_f1⟩ := p.at 1 _ rfl
          obtain ⟨q_p0, q_f0⟩ := q.at 0 _ rfl
          obtain ⟨q_p1, q_f1⟩ := q.at 1 _ rfl
          go_upto_region 18 with (fail)
          clear a_p0 a_f0 a_p1 a_f1 a_p2 a_f2 a_p3 a_f3 f_p0 f_f0 f_p1 f_f1 f_p2 f_f2 f_p3 f_f3 p_p0 p_f0 p_p1 p_f1 q_p0 q_f0 q_p1 q_f1
          replace a := a.ext hW10
          replace f := f.ext hW10
          replace p := p.ext hW10
          replace q := q.ext hW10
          replace r1 := r1.keep (keepE' hW10 (by omega))
          replace r2 := r2.keep (keepE' hW10 (by omega))
          replace r8 := r8.keep (keepE' hW10 (by omega))
          replace r9 := r9.keep (keepE' hW10 (by omega))
          have zzW10 := hW10.size
          replace hX := hX.trans hW10
          clear hW10
          generalize (w10.alloc (.cells #[.int .i64 y.client, .int .i64 y.req, .int .i64 y.cmd.kind, .int .i64 y.cmd.key, .int .i64 y.cmd.value] 39)) = W10 at *
          obtain ⟨a_p0, a_f0⟩ := a.at 0 _ rfl
          obtain ⟨a_p1, a_f1⟩ := a.at 1 _ rfl
          obtain ⟨a_p2, a_f2⟩ := a.at 2 _ rfl
          obtain ⟨a_p3, a_f3⟩ := a.at 3 _ rfl
          obtain ⟨f_p0, f_f0⟩ := f.at 0 _ rfl
          obtain ⟨f_p1, f_f1⟩ := f.at 1 _ rfl
          obtain ⟨f_p2, f_f2⟩ := f.at 2 _ rfl
          obtain ⟨f_p3, f_f3⟩ := f.at 3 _ rfl
          obtain ⟨p_p0, p_f0⟩ := p.at 0 _ rfl
          obtain ⟨p_p1, p_f1⟩ := p.at 1 _ rfl
          obtain ⟨q_p0, q_f0⟩ := q.at 0 _ rfl
          obtain ⟨q_p1, q_f1⟩ := q.at 1 _ rfl
          obtain ⟨s_p0, s_f0⟩ := s.at 0 _ rfl
          obtain ⟨s_p1, s_f1⟩ := s.at 1 _ rfl
          obtain ⟨s_p2, s_f2⟩ := s.at 2 _ rfl
          obtain ⟨s_p3, s_f3⟩ := s.at 3 _ rfl
          obtain ⟨s_p4, s_f4⟩ := s.at 4 _ rfl
          go_wp2_with fail
          refine (logAt_i _ F (kk + 1) _ w2.heap.size (by exact r2) (by omega) (by omega)).mono ?_
          rw [ha2]
          rintro e w11 ⟨rfl, hE11⟩
          clear a_p0 a_f0 a_p1 a_f1 a_p2 a_f2 a_p3 a_f3 f_p0 f_f0 f_p1 f_f1 f_p2 f_f2 f_p3 f_f3 p_p0 p_f0 p_p1 p_f1 q_p0 q_f0 q_p1 q_f1 s_p0 s_f0 s_p1 s_f1 s_p2 s_f2 s_p3 s_f3 s_p4 s_f4
          replace a := a.ext hE11
          replace f := f.ext hE11
          replace p := p.ext hE11
          replace q := q.ext hE11
          replace s := s.ext hE11
          replace r1 := r1.keep (keepE' hE11 (by omega))
          replace r2 := r2.keep (keepE' hE11 (by omega))
          replace r8 := r8.keep (keepE' hE11 (by omega))
          replace r9 := r9.keep (keepE' hE11 (by omega))
          have zzw11 := hE11.size
          replace hX := hX.trans hE11
          clear hE11
          have hW11 : Ext w11 (w11.alloc (.cells #[.int .i64 y.client, .int .i64 y.req, .int .i64 y.cmd.kind, .int .i64 y.cmd.key, .int .i64 y.cmd.value] 39)) := by repeat' (first | with_reducible exact Ext.refl _ | with_reducible assumption | with_reducible refine Ext.set ?_ ?_ _ _ | with_reducible refine Ext.alloc ?_ _ | with_reducible refine Ext.drew ?_ | with_reducible refine Ext.drewN ?_ _ | with_reducible refine Ext.trans ?_ (by with_reducible assumption) | omega | (simp; done) | (simp; omega))
          have zW11 : w11.heap.size + 1 ≤ (w11.alloc (.cells #[.int .i64 y.client, .int .i64 y.req, .int .i64 y.cmd.kind, .int .i64 y.cmd.key, .int .i64 y.cmd.value] 39)).heap.size := by simp
          have t : Blk (w11.alloc (.cells #[.int .i64 y.client, .int .i64 y.req, .int .i64 y.cmd.kind, .int .i64 y.cmd.key, .int .i64 y.cmd.value] 39)) w11.heap.size 39 [.int .i64 y.client, .int .i64 y.req, .int .i64 y.cmd.kind, .int .i64 y.cmd.key, .int .i64 y.cmd.value] := (Blk.new w11 #[.int .i64 y.client, .int .i64 y.req, .int .i64 y.cmd.kind, .int .i64 y.cmd.key, .int .i64 y.cmd.value] 39 (by first | rfl | simp))
          obtain ⟨a_p0, a_f0⟩ := a.at 0 _ rfl
          obtain ⟨a_p1, a_f1⟩ := a.at 1 _ rfl
          obtain ⟨a_p2, a_f2⟩ := a.at 2 _ rfl
          obtain ⟨a_p3, a_f3⟩ := a.at 3 _ rfl
          obtain ⟨f_p0, f_f0⟩ := f.at 0 _ rfl
          obtain ⟨f_p1, f_f1⟩ := f.at 1 _ rfl
          obtain ⟨f_p2, f_f2⟩ := f.at 2 _ rfl
          obtain ⟨f_p3, f_f3⟩ := f.at 3 _ rfl
          obtain ⟨p_p0, p_f0⟩ := p.at 0 _ rfl
          obtain ⟨p_p1, p_f1⟩ := p.at 1 _ rfl
          obtain ⟨q_p0, q_f0⟩ := q.at 0 _ rfl
          obtain ⟨q_p1, q_f1⟩ := q.at 1 _ rfl
          obtain ⟨s_p0, s_f0⟩ := s.at 0 _ rfl
          obtain ⟨s_p1, s_f1⟩ := s.at 1 _ rfl
          obtain ⟨s_p2, s_f2⟩ := s.at 2 _ rfl
          obtain ⟨s_p3, s_f3⟩ := s.at 3 _ rfl
          obtain ⟨s_p4, s_f4⟩ := s.at 4 _ rfl
          go_upto_region 19 with (fail)
          clear a_p0 a_f0 a_p1 a_f1 a_p2 a_f2 a_p3 a_f3 f_p0 f_f0 f_p1 f_f1 f_p2 f_f2 f_p3 f_f3 p_p0 p_f0 p_p1 p_f1 q_p0 q_f0 q_p1 q_f1 s_p0 s_f0 s_p1 s_f1 s_p2 s_f2 s_p3 s_f3 s_p4 s_f4
          replace a := a.ext hW11
          replace f := f.ext hW11
          replace p := p.ext hW11
          replace q := q.ext hW11
          replace s := s.ext hW11
          replace r1 := r1.keep (keepE' hW11 (by omega))
          replace r2 := r2.keep (keepE' hW11 (by omega))
          replace r8 := r8.keep (keepE' hW11 (by omega))
          replace r9 := r9.keep (keepE' hW11 (by omega))
          have zzW11 := hW11.size
          replace hX := hX.trans hW11
          clear hW11
          generalize (w11.alloc (.cells #[.int .i64 y.client, .int .i64 y.req, .int .i64 y.cmd.kind, .int .i64 y.cmd.key, .int .i64 y.cmd.value] 39)) = W11 at *
          obtain ⟨a_p0, a_f0⟩ := a.at 0 _ rfl
          obtain ⟨a_p1, a_f1⟩ := a.at 1 _ rfl
          obtain ⟨a_p2, a_f2⟩ := a.at 2 _ rfl
          obtain ⟨a_p3, a_f3⟩ := a.at 3 _ rfl
          obtain ⟨f_p0, f_f0⟩ := f.at 0 _ rfl
          obtain ⟨f_p1, f_f1⟩ := f.at 1 _ rfl
          obtain ⟨f_p2, f_f2⟩ := f.at 2 _ rfl
          obtain ⟨f_p3, f_f3⟩ := f.at 3 _ rfl
          obtain ⟨p_p0, p_f0⟩ := p.at 0 _ rfl
          obtain ⟨p_p1, p_f1⟩ := p.at 1 _ rfl
          obtain ⟨q_p0, q_f0⟩ := q.at 0 _ rfl
          obtain ⟨q_p1, q_f1⟩ := q.at 1 _ rfl
          obtain ⟨s_p0, s_f0⟩ := s.at 0 _ rfl
          obtain ⟨s_p1, s_f1⟩ := s.at 1 _ rfl
          obtain ⟨s_p2, s_f2⟩ := s.at 2 _ rfl
          obtain ⟨s_p3, s_f3⟩ := s.at 3 _ rfl
          obtain ⟨s_p4, s_f4⟩ := s.at 4 _ rfl
          obtain ⟨t_p0, t_f0⟩ := t.at 0 _ rfl
          obtain ⟨t_p1, t_f1⟩ := t.at 1 _ rfl
          obtain ⟨t_p2, t_f2⟩ := t.at 2 _ rfl
          obtain ⟨t_p3, t_f3⟩ := t.at 3 _ rfl
          obtain ⟨t_p4, t_f4⟩ := t.at 4 _ rfl
          go_wp2_with fail
          refine (sameImage_i _ _ M M _ w8.heap.size w9.heap.size (by exact r8) (by omega) (by exact r9) (by omega)).mono ?_
          rw [decide_eq_true rfl]
          rintro e w12 ⟨rfl, hE12⟩
          clear a_p0 a_f0 a_p1 a_f1 a_p2 a_f2 a_p3 a_f3 f_p0 f_f0 f_p1 f_f1 f_p2 f_f2 f_p3 f_f3 p_p0 p_f0 p_p1 p_f1 q_p0 q_f0 q_p1 q_f1 s_p0 s_f0 s_p1 s_f1 s_p2 s_f2 s_p3 s_f3 s_p4 s_f4 t_p0 t_f0 t_p1 t_f1 t_p2 t_f2 t_p3 t_f3 t_p4 t_f4
          replace a := a.ext hE12
          replace f := f.ext hE12
          replace p := p.ext hE12
          replace q := q.ext hE12
          replace s := s.ext hE12
          replace t := t.ext hE12
          replace r1 := r1.keep (keepE' hE12 (by omega))
          replace r2 := r2.keep (keepE' hE12 (by omega))
          replace r8 := r8.keep (keepE' hE12 (by omega))
          replace r9 := r9.keep (keepE' hE12 (by omega))
          have zzw12 := hE12.size
          replace hX := hX.trans hE12
          clear hE12
          obtain ⟨a_p0, a_f0⟩ := a.at 0 _ rfl
          obtain ⟨a_p1, a_f1⟩ := a.at 1 _ rfl
          obtain ⟨a_p2, a_f2⟩ := a.at 2 _ rfl
          obtain ⟨a_p3, a_f3⟩ := a.at 3 _ rfl
          obtain ⟨f_p0, f_f0⟩ := f.at 0 _ rfl
          obtain ⟨f_p1, f_f1⟩ := f.at 1 _ rfl
          obtain ⟨f_p2, f_f2⟩ := f.at 2 _ rfl
          obtain ⟨f_p3, f_f3⟩ := f.at 3 _ rfl
          obtain ⟨p_p0, p_f0⟩ := p.at 0 _ rfl
          obtain ⟨p_p1, p_f1⟩ := p.at 1 _ rfl
          obtain ⟨q_p0, q_f0⟩ := q.at 0 _ rfl
          obtain ⟨q_p1, q_f1⟩ := q.at 1 _ rfl
          obtain ⟨s_p0, s_f0⟩ := s.at 0 _ rfl
          obtain ⟨s_p1, s_f1⟩ := s.at 1 _ rfl
          obtain ⟨s_p2, s_f2⟩ := s.at 2 _ rfl
          obtain ⟨s_p3, s_f3⟩ := s.at 3 _ rfl
          obtain ⟨s_p4, s_f4⟩ := s.at 4 _ rfl
          obtain ⟨t_p0, t_f0⟩ := t.at 0 _ rfl
          obtain ⟨t_p1, t_f1⟩ := t.at 1 _ rfl
          obtain ⟨t_p2, t_f2⟩ := t.at 2 _ rfl
          obtain ⟨t_p3, t_f3⟩ := t.at 3 _ rfl
          obtain ⟨t_p4, t_f4⟩ := t.at 4 _ rfl
          have hq : ∀ w, (binOp .neq 39 (.agg #[.int .i64 y.client, .int .i64 y.req, .int .i64 y.cmd.kind, .int .i64 y.cmd.key, .int .i64 y.cmd.value]) (.agg #[.int .i64 y.client, .int .i64 y.req, .int .i64 y.cmd.kind, .int .i64 y.cmd.key, .int .i64 y.cmd.value])).run Try.prog w = .ok (.bool false) w := fun w => neqEntryS y w
          go_wp2
          go_roundw
          case rel =>
            clear a_p0 a_f0 a_p1 a_f1 a_p2 a_f2 a_p3 a_f3 f_p0 f_f0 f_p1 f_f1 f_p2 f_f2 f_p3 f_f3 p_p0 p_f0 p_p1 p_f1 q_p0 q_f0 q_p1 q_f1 s_p0 s_f0 s_p1 s_f1 s_p2 s_f2 s_p3 s_f3 s_p4 s_f4 t_p0 t_f0 t_p1 t_f1 t_p2 t_f2 t_p3 t_f3 t_p4 t_f4
            exact ⟨j + 1, by omega, by rw [← hkk]; go_num, hX, by omega, by omega, r1, r2, a, f⟩
          case measure => simp [intOf]; omega
        · have d1 : decide (kk ≤ l.base + (m1 : Int)) = false := by simpa using hlt
          go_wp2
          go_ret
          exact ⟨rfl, hX⟩

set_option maxRecDepth 100000 in
theorem lifted (os : Os) (started : os.Started) (H : Type) (enc : TypeId × Value → H) :
    ReturnsInHanded {} Try.checked os 3 .any (Rows.fnFoldSpec.pre6 enc Try.prog Try.f3 Rows.fnFoldRow.domain false) (Rows.fnFoldSpec.post enc Try.prog Try.f3 false true false false) := by
  refine returnsInHanded_of_change (C := Try.checked) own started (by kernel_rfl) Try.func3
    (ChangeSpec.witness6 (enc := enc) (C := Try.checked) false ⟨#[], #[.slice none 0 0], []⟩ 8 (by kernel_rfl) (by kernel_rfl) (by kernel_rfl) (by kernel_rfl)) ?_
  intro W base args ds gs before hval0 hW hcnd _
  have hval : ∀ (j : Nat) t v, Try.f3.params[j]? = some t → args[j]? = some v → Value.okWide Try.prog W .any base t v := hval0
  have hW' := hW
  obtain ⟨p, q, hA0, hV, rfl, hfz, hnd⟩ := hW
  have hA : DataW.TrodAll enc Try.prog W 0 (fun _ => true) true Try.f3.params.toList args.toList ds p := hA0
  rw [Try.params3] at hA hval
  obtain ⟨vv0, vs0, dd0, ds0, pp0, qq0, hargs, rfl, rfl, ht0, rr0⟩ := trodAll_cons hA
  obtain ⟨rfl, rfl, rfl⟩ := trodAll_nil rr0
  obtain rfl : args = #[vv0] := by cases args; simp_all
  obtain ⟨rfl, rfl⟩ := trodVars_none hV
  have trd0 := ht0
  have lts0 : ∀ x ∈ pp0, x.block < W.heap.size := by obtain ⟨m, hm⟩ := trd0; exact DataW.trod_lt m _ _ _ hm
  obtain ⟨l0, r0⟩ := open_ByteS_arg (hval 0 22 vv0 rfl rfl) ht0
  clear hA0 hval0
  refine (walk vv0  l0  W r0).mono fun e W' ⟨he, bel⟩ => ?_
  subst he
  exact ⟨_, rfl, _, _, _, [], _, [], hW', trodAll_mk1 (shut_bool Try.underlying4 _), (trodAll_cons_mk (Below.trod laidOut (by kernel_rfl) (of_decide_eq_true (by kernel_rfl)) trd0 bel lts0) trodAll_mk0), rfl, Below.frame bel _, fun h => by cases h⟩

theorem over : Rows.fnFoldRow.holds Try.pinned (OpenSpec.ofChange Rows.fnFoldSpec) :=
  OpenClaim.holds_of_wide 3 Try.f3 rfl rfl rfl rfl rfl rfl rfl ⟨rfl, rfl, rfl, rfl, rfl⟩ rfl rfl rfl rfl rfl (by as_aux_lemma => kernel_rfl) Try.func3 (by as_aux_lemma => kernel_rfl)
    (of_decide_eq_true (by as_aux_lemma => kernel_rfl)) (by as_aux_lemma => unfold Func.isWrapper; first | (rw [if_pos (by decide +kernel)]; kernel_rfl) | (rw [if_neg (by decide +kernel)]; exact ⟨rfl, rfl⟩))
    (fun os started H enc _ => lifted os started H enc)

theorem proved : Rows.FnFoldSaid := over
#print axioms proved
end Go.Proofs.Ytekphmkgiioloaa.fnFold
