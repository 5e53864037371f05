/-
  A log and a number, a log alone, as the reference draws them for its laws.
-/
import Derived.Test.YtbfbdhjeoknjkaaDrawH
namespace Go.Proofs.Ytbfbdhjeoknjkaa
open Go.RowKit



set_option maxRecDepth 100000 in
set_option maxHeartbeats 4000000 in
theorem drawPackLog_s (A : Option Addr) (n c : Nat) (l : List UInt8) (w : World) (hr : Rd w w.heap.size 1 A n (l.flatMap eB)) (hl : l.length = n) (hn : n ≤ 4611686018427387904) : Calls Try.prog 24 #[.slice A n c] w fun e w' => ∃ v F, e = .returned v ∧ O_Log w' w.heap.size w'.heap.size v F ∧ SmallL F ∧ Ext w w' := by
  have hW0 : Ext w (w.alloc (.cells #[.int .i64 0, .slice none 0 0, .slice none 0 0, .slice none 0 0] 42)) := by repeat' (first | with_reducible exact Ext.refl _ | with_reducible assumption | with_reducible refine Ext.set ?_ ?_ _ _ | with_reducible refine Ext.alloc ?_ _ | with_reducible refine Ext.drew ?_ | with_reducible refine Ext.drewN ?_ _ | with_reducible refine Ext.trans ?_ (by with_reducible assumption) | omega | (simp; done) | (simp; omega))
  have zW0 : w.heap.size + 1 ≤ (w.alloc (.cells #[.int .i64 0, .slice none 0 0, .slice none 0 0, .slice none 0 0] 42)).heap.size := by simp
  have r : Blk (w.alloc (.cells #[.int .i64 0, .slice none 0 0, .slice none 0 0, .slice none 0 0] 42)) w.heap.size 42 [.int .i64 0, .slice none 0 0, .slice none 0 0, .slice none 0 0] := (Blk.new w #[.int .i64 0, .slice none 0 0, .slice none 0 0, .slice none 0 0] 42 (by first | rfl | simp))
  go_enter Try.func24, Try.ntmps24
  go_wp2_with fail
  generalize (w.alloc (.cells #[.int .i64 0, .slice none 0 0, .slice none 0 0, .slice none 0 0] 42)) = W0 at *
  refine (l1New_s A n c l _ ((hW0.rd hr (Nat.le_refl _)).more hW0.size) hl hn).mono ?_
  rintro e w1 ⟨rfl, hc1, hE1⟩
  have hX1 := hW0.trans hE1
  replace r := r.ext hE1
  have hlr := r.lt
  have hz1 := hE1.size
  have hgW : w.heap.size + 1 ≤ W0.heap.size := zW0
  clear hE1 hW0
  generalize hg : W0.heap.size = g at *
  clear hg
  go_wp2_with fail
  refine (l1Size_s A n c 12 _ hn (by omega)).mono ?_
  rintro e w1_ ⟨x, hx, rfl, rfl⟩
  go_wp2_with fail
  refine (l3DrawLog_s g x _ hc1 (by omega) (by omega)).mono ?_
  rintro e w2 ⟨v2, F, rfl, o2, hsm, hc2, hF2⟩
  obtain ⟨A2, n2, c2, B2, k2, d2, C2, m2, e2, rfl, -, -, -⟩ := o2.form
  have hz2 := hF2.size
  have hgl := hc1.lt
  replace r := r.fr hF2 (.inl (by omega))
  have hX2 : Ext w w2 := hX1.fr hF2 (by omega)
  clear hF2 hc1 hc2
  have hbr := r.bt
  obtain ⟨r_p0, r_f0⟩ := r.at 0 _ rfl
  obtain ⟨r_p1, r_f1⟩ := r.at 1 _ rfl
  obtain ⟨r_p2, r_f2⟩ := r.at 2 _ rfl
  obtain ⟨r_p3, r_f3⟩ := r.at 3 _ rfl
  go_wp2
  exact bodyPost_ret (v := .agg #[.int .i64 F.base, .slice A2 n2 c2, .slice B2 k2 d2, .slice C2 m2 e2]) (by simp [results, Try.results24, go_sem, r_p0, r_p1, r_p2, r_p3]) rfl ⟨_, F, rfl, O_Log.wide (O_Log.dodge4 o2 hbr _ _ _ _) (by omega) (by first | (simp; omega) | (simp; done)), hsm, by repeat' (first | with_reducible exact Ext.refl _ | with_reducible assumption | with_reducible refine Ext.set ?_ ?_ _ _ | with_reducible refine Ext.alloc ?_ _ | with_reducible refine Ext.drew ?_ | with_reducible refine Ext.drewN ?_ _ | with_reducible refine Ext.trans ?_ (by with_reducible assumption) | omega | (simp; done) | (simp; omega))⟩

end Go.Proofs.Ytbfbdhjeoknjkaa
