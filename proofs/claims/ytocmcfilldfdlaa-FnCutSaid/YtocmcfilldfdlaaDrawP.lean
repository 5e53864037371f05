/-
  A log and a number, a log alone, as the reference draws them for its laws.
-/
import Derived.Test.YtocmcfilldfdlaaDrawH
namespace Go.Proofs.Ytocmcfilldfdlaa
open Go.RowKit


set_option maxRecDepth 100000 in
set_option maxHeartbeats 4000000 in
theorem drawLogUpto_s (A : Option Addr) (n c : Nat) (l : List UInt8) (w : World) (hr : Rd w w.heap.size 1 A n (l.flatMap eB)) (hl : l.length = n) (hn : n ≤ 4611686018427387904) : Calls Try.prog 30 #[.slice A n c] w fun e w' => ∃ v F, ∃ x : Int, (-10 ≤ x ∧ x ≤ 1000000100) ∧ e = .returned (.tuple #[v, .int .i64 x]) ∧ O_Log w' w.heap.size w'.heap.size v F ∧ SmallL F ∧ Ext w w' := by
  have hW0 : Ext w (w.alloc (.cells #[.int .i64 0, .slice none 0 0, .slice none 0 0, .slice none 0 0] 37)) := by repeat' (first | with_reducible exact Ext.refl _ | with_reducible assumption | with_reducible refine Ext.set ?_ ?_ _ _ | with_reducible refine Ext.alloc ?_ _ | with_reducible refine Ext.drew ?_ | with_reducible refine Ext.drewN ?_ _ | with_reducible refine Ext.trans ?_ (by with_reducible assumption) | omega | (simp; done) | (simp; omega))
  have zW0 : w.heap.size + 1 ≤ (w.alloc (.cells #[.int .i64 0, .slice none 0 0, .slice none 0 0, .slice none 0 0] 37)).heap.size := by simp
  have r : Blk (w.alloc (.cells #[.int .i64 0, .slice none 0 0, .slice none 0 0, .slice none 0 0] 37)) w.heap.size 37 [.int .i64 0, .slice none 0 0, .slice none 0 0, .slice none 0 0] := (Blk.new w #[.int .i64 0, .slice none 0 0, .slice none 0 0, .slice none 0 0] 37 (by first | rfl | simp))
  go_enter Try.func30, Try.ntmps30
  go_wp2_with fail
  generalize (w.alloc (.cells #[.int .i64 0, .slice none 0 0, .slice none 0 0, .slice none 0 0] 37)) = W0 at *
  refine (l3DrawNum_s A n c l _ ((hW0.rd hr (Nat.le_refl _)).more hW0.size) hl hn).mono ?_
  rintro e w2 ⟨v2, F, x, hx, rfl, o2, hsm, hE2⟩
  have hX2 := hW0.trans hE2
  replace r := r.ext hE2
  have hz2 := hE2.size
  clear hE2 hW0
  obtain ⟨A2, n2, c2, B2, k2, d2, C2, m2, e2, rfl, -, -, -⟩ := o2.form
  have hW2 : Ext w2 (w2.alloc (.cells #[.int .i64 F.base, .slice A2 n2 c2, .slice B2 k2 d2, .slice C2 m2 e2] 37)) := by repeat' (first | with_reducible exact Ext.refl _ | with_reducible assumption | with_reducible refine Ext.set ?_ ?_ _ _ | with_reducible refine Ext.alloc ?_ _ | with_reducible refine Ext.drew ?_ | with_reducible refine Ext.drewN ?_ _ | with_reducible refine Ext.trans ?_ (by with_reducible assumption) | omega | (simp; done) | (simp; omega))
  have zW2 : w2.heap.size + 1 ≤ (w2.alloc (.cells #[.int .i64 F.base, .slice A2 n2 c2, .slice B2 k2 d2, .slice C2 m2 e2] 37)).heap.size := by simp
  have q : Blk (w2.alloc (.cells #[.int .i64 F.base, .slice A2 n2 c2, .slice B2 k2 d2, .slice C2 m2 e2] 37)) w2.heap.size 37 [.int .i64 F.base, .slice A2 n2 c2, .slice B2 k2 d2, .slice C2 m2 e2] := (Blk.new w2 #[.int .i64 F.base, .slice A2 n2 c2, .slice B2 k2 d2, .slice C2 m2 e2] 37 (by first | rfl | simp))
  go_upto_region 2 with (fail)
  replace r := r.ext hW2
  replace hX2 := hX2.trans hW2
  replace o2 := o2.keep (keepE hW2 (Nat.le_refl _))
  have hzW2 := hW2.size
  clear hW2
  generalize (w2.alloc (.cells #[.int .i64 F.base, .slice A2 n2 c2, .slice B2 k2 d2, .slice C2 m2 e2] 37)) = W2 at *
  have hbr := r.bt
  obtain ⟨q_p0, q_f0⟩ := q.at 0 _ rfl
  obtain ⟨q_p1, q_f1⟩ := q.at 1 _ rfl
  obtain ⟨q_p2, q_f2⟩ := q.at 2 _ rfl
  obtain ⟨q_p3, q_f3⟩ := q.at 3 _ rfl
  obtain ⟨r_p0, r_f0⟩ := r.at 0 _ rfl
  obtain ⟨r_p1, r_f1⟩ := r.at 1 _ rfl
  obtain ⟨r_p2, r_f2⟩ := r.at 2 _ rfl
  obtain ⟨r_p3, r_f3⟩ := r.at 3 _ rfl
  go_wp2
  exact bodyPost_ret (v := .tuple #[.agg #[.int .i64 F.base, .slice A2 n2 c2, .slice B2 k2 d2, .slice C2 m2 e2], .int .i64 x]) (by simp [results, Try.results30, go_sem, r_p0, r_p1, r_p2, r_p3]) rfl ⟨_, F, x, hx, rfl, O_Log.wide (O_Log.dodge4 o2 hbr _ _ _ _) (by omega) (by first | (simp; omega) | (simp; done)), hsm, by repeat' (first | with_reducible exact Ext.refl _ | with_reducible assumption | with_reducible refine Ext.set ?_ ?_ _ _ | with_reducible refine Ext.alloc ?_ _ | with_reducible refine Ext.drew ?_ | with_reducible refine Ext.drewN ?_ _ | with_reducible refine Ext.trans ?_ (by with_reducible assumption) | omega | (simp; done) | (simp; omega))⟩


end Go.Proofs.Ytocmcfilldfdlaa
