/-
  FnOnce returns true for every input: an entry that comes twice to a drawn machine is run once, and answered alike; an entry of another client turns no seat but its own.
  Conditions: none: for every argument, in whatever memory.
-/
import Derived.Test.YtacbcnobenffdaaOpen
import Derived.Test.YtacbcnobenffdaaBytes
import Derived.Test.YtacbcnobenffdaaOnce
import Derived.Test.YtacbcnobenffdaaDrawR
import Derived.Test.YtacbcnobenffdaaBig
import Derived.Test.YtacbcnobenffdaaRunEI
import Derived.Test.YtacbcnobenffdaaRunES
import Derived.Test.YtacbcnobenffdaaSame
import Derived.Deep.DeepCutAuto
import Derived.IntWalk
namespace Go.Proofs.Ytacbcnobenffdaa.fnOnce
open Go.ChangeShapes Go.WideShapes Go.ChangeAt Go.RowKit
set_option linter.unusedVariables false
set_option maxRecDepth 1000000

set_option maxRecDepth 100000 in
set_option maxHeartbeats 16000000 in
theorem walk (vv0 : Value) (l0 : List UInt8) (w : World) (r0 : R_ByteS w w.heap.size vv0 l0) :
    Calls Try.prog 5 #[vv0] w fun e w' => e = .returned (.bool true) ∧ Ext w w' := by
  obtain ⟨A0, n0, c0, rfl, hl0, hnc0, hcm0, hr0⟩ := r0
  by_cases hbig : 1048576 < n0
  · go_enter Try.func5, Try.ntmps5
    go_wp2_with fail
    refine (bigU_any A0 n0 c0 _).mono ?_
    rw [decide_eq_true hbig]
    rintro e w1 ⟨rfl, rfl⟩
    go_wp2
    go_ret
    exact ⟨rfl, Ext.refl _⟩
  · go_enter Try.func5, Try.ntmps5
    go_wp2_with fail
    refine (bigU_any A0 n0 c0 _).mono ?_
    rw [decide_eq_false hbig]
    rintro e w0 ⟨rfl, rfl⟩
    go_wp2_with fail
    refine (drawRunEntry_s A0 n0 c0 l0 _ hr0 hl0 (by omega)).mono ?_
    rintro e w1 ⟨v1, m, p, q, kd, ky, vl, hp, hky, hQ, rfl, o1, hsz, hX⟩
    obtain ⟨A1, n1, c1, B1, k1, d1, rfl, hn1, hk1⟩ := o1.form
    have r1 : R_Image w1 w1.heap.size (.agg #[.slice A1 n1 c1, .slice B1 k1 d1]) m := o1.rd
    clear o1
    have HQ := Lib.hid hQ
    clear hQ hn1 hk1 hsz
    have zzw1 := Nat.le_refl w1.heap.size
    have hW1 : Ext w1 ((w1.alloc (.cells #[.slice A1 n1 c1, .slice B1 k1 d1] 32)).alloc (.cells #[.int .i64 (p : Int), .int .i64 q, .int .i64 kd, .int .i64 ky, .int .i64 vl] 50)) := by repeat' (first | with_reducible exact Ext.refl _ | with_reducible assumption | with_reducible refine Ext.set ?_ ?_ _ _ | with_reducible refine Ext.alloc ?_ _ | with_reducible refine Ext.drew ?_ | with_reducible refine Ext.drewN ?_ _ | with_reducible refine Ext.trans ?_ (by with_reducible assumption) | omega | (simp; done) | (simp; omega))
    have zW1 : w1.heap.size + 2 ≤ ((w1.alloc (.cells #[.slice A1 n1 c1, .slice B1 k1 d1] 32)).alloc (.cells #[.int .i64 (p : Int), .int .i64 q, .int .i64 kd, .int .i64 ky, .int .i64 vl] 50)).heap.size := by simp
    have a : Blk ((w1.alloc (.cells #[.slice A1 n1 c1, .slice B1 k1 d1] 32)).alloc (.cells #[.int .i64 (p : Int), .int .i64 q, .int .i64 kd, .int .i64 ky, .int .i64 vl] 50)) w1.heap.size 32 [.slice A1 n1 c1, .slice B1 k1 d1] := ((Blk.new w1 #[.slice A1 n1 c1, .slice B1 k1 d1] 32 (by first | rfl | simp)).alloc (.cells #[.int .i64 (p : Int), .int .i64 q, .int .i64 kd, .int .i64 ky, .int .i64 vl] 50))
    have b : Blk ((w1.alloc (.cells #[.slice A1 n1 c1, .slice B1 k1 d1] 32)).alloc (.cells #[.int .i64 (p : Int), .int .i64 q, .int .i64 kd, .int .i64 ky, .int .i64 vl] 50)) (w1.heap.size + 1) 50 [.int .i64 (p : Int), .int .i64 q, .int .i64 kd, .int .i64 ky, .int .i64 vl] := (Blk.new (w1.alloc (.cells #[.slice A1 n1 c1, .slice B1 k1 d1] 32)) #[.int .i64 (p : Int), .int .i64 q, .int .i64 kd, .int .i64 ky, .int .i64 vl] 50 (by first | rfl | simp))
    go_upto_region 4 with (fail)
    replace r1 := r1.keep (keepE' hW1 (by omega))
    have zzW1 := hW1.size
    replace hX := hX.trans hW1
    clear hW1
    generalize ((w1.alloc (.cells #[.slice A1 n1 c1, .slice B1 k1 d1] 32)).alloc (.cells #[.int .i64 (p : Int), .int .i64 q, .int .i64 kd, .int .i64 ky, .int .i64 vl] 50)) = W1 at *
    obtain ⟨a_p0, a_f0⟩ := a.at 0 _ rfl
    obtain ⟨a_p1, a_f1⟩ := a.at 1 _ rfl
    obtain ⟨b_p0, b_f0⟩ := b.at 0 _ rfl
    obtain ⟨b_p1, b_f1⟩ := b.at 1 _ rfl
    obtain ⟨b_p2, b_f2⟩ := b.at 2 _ rfl
    obtain ⟨b_p3, b_f3⟩ := b.at 3 _ rfl
    obtain ⟨b_p4, b_f4⟩ := b.at 4 _ rfl
    obtain ⟨tt, htt⟩ : ∃ tt, runEntry m ⟨(p : Int), q, ⟨kd, ky, vl⟩⟩ = tt := ⟨_, rfl⟩
    obtain ⟨M, x, code⟩ := tt
    have Htt := Lib.hid htt
    go_wp2_with fail
    refine (runEntry_s _ m (p : Int) q kd ky vl _ w1.heap.size (by exact r1) (by omega)).mono ?_
    rw [htt]
    rintro e w2 ⟨v2, rfl, o2, hE2⟩
    obtain ⟨A2, n2, c2, B2, k2, d2, rfl, hn2, hk2⟩ := o2.form
    have r2 : R_Image w2 w2.heap.size (.agg #[.slice A2 n2 c2, .slice B2 k2 d2]) M := o2.rd
    clear o2
    clear hn2 hk2
    clear a_p0 a_f0 a_p1 a_f1 b_p0 b_f0 b_p1 b_f1 b_p2 b_f2 b_p3 b_f3 b_p4 b_f4
    replace a := a.ext hE2
    replace b := b.ext hE2
    replace r1 := r1.keep (keepE' hE2 (by omega))
    have zzw2 := hE2.size
    replace hX := hX.trans hE2
    clear hE2
    have hW2 : Ext w2 (w2.alloc (.cells #[.slice A2 n2 c2, .slice B2 k2 d2] 32)) := by repeat' (first | with_reducible exact Ext.refl _ | with_reducible assumption | with_reducible refine Ext.set ?_ ?_ _ _ | with_reducible refine Ext.alloc ?_ _ | with_reducible refine Ext.drew ?_ | with_reducible refine Ext.drewN ?_ _ | with_reducible refine Ext.trans ?_ (by with_reducible assumption) | omega | (simp; done) | (simp; omega))
    have zW2 : w2.heap.size + 1 ≤ (w2.alloc (.cells #[.slice A2 n2 c2, .slice B2 k2 d2] 32)).heap.size := by simp
    have c : Blk (w2.alloc (.cells #[.slice A2 n2 c2, .slice B2 k2 d2] 32)) w2.heap.size 32 [.slice A2 n2 c2, .slice B2 k2 d2] := (Blk.new w2 #[.slice A2 n2 c2, .slice B2 k2 d2] 32 (by first | rfl | simp))
    obtain ⟨a_p0, a_f0⟩ := a.at 0 _ rfl
    obtain ⟨a_p1, a_f1⟩ := a.at 1 _ rfl
    obtain ⟨b_p0, b_f0⟩ := b.at 0 _ rfl
    obtain ⟨b_p1, b_f1⟩ := b.at 1 _ rfl
    obtain ⟨b_p2, b_f2⟩ := b.at 2 _ rfl
    obtain ⟨b_p3, b_f3⟩ := b.at 3 _ rfl
    obtain ⟨b_p4, b_f4⟩ := b.at 4 _ rfl
    go_upto_region 5 with (fail)
    clear a_p0 a_f0 a_p1 a_f1 b_p0 b_f0 b_p1 b_f1 b_p2 b_f2 b_p3 b_f3 b_p4 b_f4
    replace a := a.ext hW2
    replace b := b.ext hW2
    replace r1 := r1.keep (keepE' hW2 (by omega))
    replace r2 := r2.keep (keepE' hW2 (by omega))
    have zzW2 := hW2.size
    replace hX := hX.trans hW2
    clear hW2
    generalize (w2.alloc (.cells #[.slice A2 n2 c2, .slice B2 k2 d2] 32)) = W2 at *
    obtain ⟨a_p0, a_f0⟩ := a.at 0 _ rfl
    obtain ⟨a_p1, a_f1⟩ := a.at 1 _ rfl
    obtain ⟨b_p0, b_f0⟩ := b.at 0 _ rfl
    obtain ⟨b_p1, b_f1⟩ := b.at 1 _ rfl
    obtain ⟨b_p2, b_f2⟩ := b.at 2 _ rfl
    obtain ⟨b_p3, b_f3⟩ := b.at 3 _ rfl
    obtain ⟨b_p4, b_f4⟩ := b.at 4 _ rfl
    obtain ⟨c_p0, c_f0⟩ := c.at 0 _ rfl
    obtain ⟨c_p1, c_f1⟩ := c.at 1 _ rfl
    go_wp2_with fail
    refine (runEntry_i _ m (p : Int) q kd ky vl _ w1.heap.size (by exact r1) (by omega)).mono ?_
    rw [htt]
    rintro e w3 ⟨v3, rfl, o3, hE3⟩
    obtain ⟨A3, n3, c3, B3, k3, d3, rfl, hn3, hk3⟩ := o3.form
    have r3 : R_Image w3 w3.heap.size (.agg #[.slice A3 n3 c3, .slice B3 k3 d3]) M := o3.rd
    clear o3
    clear hn3 hk3 htt
    clear a_p0 a_f0 a_p1 a_f1 b_p0 b_f0 b_p1 b_f1 b_p2 b_f2 b_p3 b_f3 b_p4 b_f4 c_p0 c_f0 c_p1 c_f1
    replace a := a.ext hE3
    replace b := b.ext hE3
    replace c := c.ext hE3
    replace r1 := r1.keep (keepE' hE3 (by omega))
    replace r2 := r2.keep (keepE' hE3 (by omega))
    have zzw3 := hE3.size
    replace hX := hX.trans hE3
    clear hE3
    have hW3 : Ext w3 (w3.alloc (.cells #[.slice A3 n3 c3, .slice B3 k3 d3] 32)) := by repeat' (first | with_reducible exact Ext.refl _ | with_reducible assumption | with_reducible refine Ext.set ?_ ?_ _ _ | with_reducible refine Ext.alloc ?_ _ | with_reducible refine Ext.drew ?_ | with_reducible refine Ext.drewN ?_ _ | with_reducible refine Ext.trans ?_ (by with_reducible assumption) | omega | (simp; done) | (simp; omega))
    have zW3 : w3.heap.size + 1 ≤ (w3.alloc (.cells #[.slice A3 n3 c3, .slice B3 k3 d3] 32)).heap.size := by simp
    have d : Blk (w3.alloc (.cells #[.slice A3 n3 c3, .slice B3 k3 d3] 32)) w3.heap.size 32 [.slice A3 n3 c3, .slice B3 k3 d3] := (Blk.new w3 #[.slice A3 n3 c3, .slice B3 k3 d3] 32 (by first | rfl | simp))
    obtain ⟨a_p0, a_f0⟩ := a.at 0 _ rfl
    obtain ⟨a_p1, a_f1⟩ := a.at 1 _ rfl
    obtain ⟨b_p0, b_f0⟩ := b.at 0 _ rfl
    obtain ⟨b_p1, b_f1⟩ := b.at 1 _ rfl
    obtain ⟨b_p2, b_f2⟩ := b.at 2 _ rfl
    obtain ⟨b_p3, b_f3⟩ := b.at 3 _ rfl
    obtain ⟨b_p4, b_f4⟩ := b.at 4 _ rfl
    obtain ⟨c_p0, c_f0⟩ := c.at 0 _ rfl
    obtain ⟨c_p1, c_f1⟩ := c.at 1 _ rfl
    go_upto_region 6 with (fail)
    clear a_p0 a_f0 a_p1 a_f1 b_p0 b_f0 b_p1 b_f1 b_p2 b_f2 b_p3 b_f3 b_p4 b_f4 c_p0 c_f0 c_p1 c_f1
    replace a := a.ext hW3
    replace b := b.ext hW3
    replace c := c.ext hW3
    replace r1 := r1.keep (keepE' hW3 (by omega))
    replace r2 := r2.keep (keepE' hW3 (by omega))
    replace r3 := r3.keep (keepE' hW3 (by omega))
    have zzW3 := hW3.size
    replace hX := hX.trans hW3
    clear hW3
    generalize (w3.alloc (.cells #[.slice A3 n3 c3, .slice B3 k3 d3] 32)) = W3 at *
    obtain ⟨a_p0, a_f0⟩ := a.at 0 _ rfl
    obtain ⟨a_p1, a_f1⟩ := a.at 1 _ rfl
    obtain ⟨b_p0, b_f0⟩ := b.at 0 _ rfl
    obtain ⟨b_p1, b_f1⟩ := b.at 1 _ rfl
    obtain ⟨b_p2, b_f2⟩ := b.at 2 _ rfl
    obtain ⟨b_p3, b_f3⟩ := b.at 3 _ rfl
    obtain ⟨b_p4, b_f4⟩ := b.at 4 _ rfl
    obtain ⟨c_p0, c_f0⟩ := c.at 0 _ rfl
    obtain ⟨c_p1, c_f1⟩ := c.at 1 _ rfl
    obtain ⟨d_p0, d_f0⟩ := d.at 0 _ rfl
    obtain ⟨d_p1, d_f1⟩ := d.at 1 _ rfl
    go_wp2_with fail
    refine (sameImage_i _ _ M M _ w3.heap.size w2.heap.size (by exact r3) (by omega) (by exact r2) (by omega)).mono ?_
    rw [decide_eq_true rfl]
    rintro e w4 ⟨rfl, hE4⟩
    clear a_p0 a_f0 a_p1 a_f1 b_p0 b_f0 b_p1 b_f1 b_p2 b_f2 b_p3 b_f3 b_p4 b_f4 c_p0 c_f0 c_p1 c_f1 d_p0 d_f0 d_p1 d_f1
    replace a := a.ext hE4
    replace b := b.ext hE4
    replace c := c.ext hE4
    replace d := d.ext hE4
    replace r1 := r1.keep (keepE' hE4 (by omega))
    replace r2 := r2.keep (keepE' hE4 (by omega))
    replace r3 := r3.keep (keepE' hE4 (by omega))
    have zzw4 := hE4.size
    replace hX := hX.trans hE4
    clear hE4
    obtain ⟨a_p0, a_f0⟩ := a.at 0 _ rfl
    obtain ⟨a_p1, a_f1⟩ := a.at 1 _ rfl
    obtain ⟨b_p0, b_f0⟩ := b.at 0 _ rfl
    obtain ⟨b_p1, b_f1⟩ := b.at 1 _ rfl
    obtain ⟨b_p2, b_f2⟩ := b.at 2 _ rfl
    obtain ⟨b_p3, b_f3⟩ := b.at 3 _ rfl
    obtain ⟨b_p4, b_f4⟩ := b.at 4 _ rfl
    obtain ⟨c_p0, c_f0⟩ := c.at 0 _ rfl
    obtain ⟨c_p1, c_f1⟩ := c.at 1 _ rfl
    obtain ⟨d_p0, d_f0⟩ := d.at 0 _ rfl
    obtain ⟨d_p1, d_f1⟩ := d.at 1 _ rfl
    clear c_p0 c_f0 c_p1 c_f1
    clear c
    clear r2
    rcases runEntry_code Htt.out with h | h | h | h
    · obtain ⟨rfl, -⟩ := h
      go_wp2
      go_ret
      exact ⟨rfl, by repeat' (first | with_reducible exact Ext.refl _ | with_reducible assumption | with_reducible refine Ext.set ?_ ?_ _ _ | with_reducible refine Ext.alloc ?_ _ | with_reducible refine Ext.drew ?_ | with_reducible refine Ext.drewN ?_ _ | with_reducible refine Ext.trans ?_ (by with_reducible assumption) | omega | (simp; done) | (simp; omega))⟩
    · obtain ⟨rfl, rfl⟩ := h
      go_wp2_with fail
      refine (sameImage_i _ _ M M _ w3.heap.size w1.heap.size (by exact r3) (by omega) (by exact r1) (by omega)).mono ?_
      rw [decide_eq_true rfl]
      rintro e w5x ⟨rfl, hE5x⟩
      clear a_p0 a_f0 a_p1 a_f1 b_p0 b_f0 b_p1 b_f1 b_p2 b_f2 b_p3 b_f3 b_p4 b_f4 d_p0 d_f0 d_p1 d_f1
      replace a := a.ext hE5x
      replace b := b.ext hE5x
      replace d := d.ext hE5x
      replace r1 := r1.keep (keepE' hE5x (by omega))
      replace r3 := r3.keep (keepE' hE5x (by omega))
      have zzw5x := hE5x.size
      replace hX := hX.trans hE5x
      clear hE5x
      go_wp2
      go_ret
      exact ⟨rfl, by repeat' (first | with_reducible exact Ext.refl _ | with_reducible assumption | with_reducible refine Ext.set ?_ ?_ _ _ | with_reducible refine Ext.alloc ?_ _ | with_reducible refine Ext.drew ?_ | with_reducible refine Ext.drewN ?_ _ | with_reducible refine Ext.trans ?_ (by with_reducible assumption) | omega | (simp; done) | (simp; omega))⟩
    · obtain ⟨rfl, rfl⟩ := h
      go_wp2_with fail
      refine (sameImage_i _ _ M M _ w3.heap.size w1.heap.size (by exact r3) (by omega) (by exact r1) (by omega)).mono ?_
      rw [decide_eq_true rfl]
      rintro e w5y ⟨rfl, hE5y⟩
      clear a_p0 a_f0 a_p1 a_f1 b_p0 b_f0 b_p1 b_f1 b_p2 b_f2 b_p3 b_f3 b_p4 b_f4 d_p0 d_f0 d_p1 d_f1
      replace a := a.ext hE5y
      replace b := b.ext hE5y
      replace d := d.ext hE5y
      replace r1 := r1.keep (keepE' hE5y (by omega))
      replace r3 := r3.keep (keepE' hE5y (by omega))
      have zzw5y := hE5y.size
      replace hX := hX.trans hE5y
      clear hE5y
      go_wp2
      go_ret
      exact ⟨rfl, by repeat' (first | with_reducible exact Ext.refl _ | with_reducible assumption | with_reducible refine Ext.set ?_ ?_ _ _ | with_reducible refine Ext.alloc ?_ _ | with_reducible refine Ext.drew ?_ | with_reducible refine Ext.drewN ?_ _ | with_reducible refine Ext.trans ?_ (by with_reducible assumption) | omega | (simp; done) | (simp; omega))⟩
    · obtain ⟨rfl, hm, he, hn, hM, hx⟩ := h
      have h2 := once_twice hm he hn hM hx
      obtain ⟨T, z, dd, h3, h4, h5⟩ := once_third hm he hn hM hx HQ.out (by dsimp only; omega)
      have H4 := Lib.hid h4
      have H5 := Lib.hid h5
      dsimp only at h3
      clear hm he hn hM hx h4 h5
      go_wp2_with fail
      refine (runEntry_i _ M (p : Int) q kd ky vl _ w3.heap.size (by exact r3) (by omega)).mono ?_
      rw [h2]
      rintro e w6 ⟨v6, rfl, o6, hE6⟩
      obtain ⟨A6, n6, c6, B6, k6, d6, rfl, hn6, hk6⟩ := o6.form
      have r6 : R_Image w6 w6.heap.size (.agg #[.slice A6 n6 c6, .slice B6 k6 d6]) M := o6.rd
      clear o6
      clear hn6 hk6 h2
      clear a_p0 a_f0 a_p1 a_f1 b_p0 b_f0 b_p1 b_f1 b_p2 b_f2 b_p3 b_f3 b_p4 b_f4 d_p0 d_f0 d_p1 d_f1
      replace a := a.ext hE6
      replace b := b.ext hE6
      replace d := d.ext hE6
      replace r1 := r1.keep (keepE' hE6 (by omega))
      replace r3 := r3.keep (keepE' hE6 (by omega))
      have zzw6 := hE6.size
      replace hX := hX.trans hE6
      clear hE6
      have hW6 : Ext w6 (w6.alloc (.cells #[.slice A6 n6 c6, .slice B6 k6 d6] 32)) := by repeat' (first | with_reducible exact Ext.refl _ | with_reducible assumption | with_reducible refine Ext.set ?_ ?_ _ _ | with_reducible refine Ext.alloc ?_ _ | with_reducible refine Ext.drew ?_ | with_reducible refine Ext.drewN ?_ _ | with_reducible refine Ext.trans ?_ (by with_reducible assumption) | omega | (simp; done) | (simp; omega))
      have zW6 : w6.heap.size + 1 ≤ (w6.alloc (.cells #[.slice A6 n6 c6, .slice B6 k6 d6] 32)).heap.size := by simp
      have f : Blk (w6.alloc (.cells #[.slice A6 n6 c6, .slice B6 k6 d6] 32)) w6.heap.size 32 [.slice A6 n6 c6, .slice B6 k6 d6] := (Blk.new w6 #[.slice A6 n6 c6, .slice B6 k6 d6] 32 (by first | rfl | simp))
      obtain ⟨a_p0, a_f0⟩ := a.at 0 _ rfl
      obtain ⟨a_p1, a_f1⟩ := a.at 1 _ rfl
      obtain ⟨b_p0, b_f0⟩ := b.at 0 _ rfl
      obtain ⟨b_p1, b_f1⟩ := b.at 1 _ rfl
      obtain ⟨b_p2, b_f2⟩ := b.at 2 _ rfl
      obtain ⟨b_p3, b_f3⟩ := b.at 3 _ rfl
      obtain ⟨b_p4, b_f4⟩ := b.at 4 _ rfl
      obtain ⟨d_p0, d_f0⟩ := d.at 0 _ rfl
      obtain ⟨d_p1, d_f1⟩ := d.at 1 _ rfl
      go_upto_region 11 with (fail)
      clear a_p0 a_f0 a_p1 a_f1 b_p0 b_f0 b_p1 b_f1 b_p2 b_f2 b_p3 b_f3 b_p4 b_f4 d_p0 d_f0 d_p1 d_f1
      replace a := a.ext hW6
      replace b := b.ext hW6
      replace d := d.ext hW6
      replace r1 := r1.keep (keepE' hW6 (by omega))
      replace r3 := r3.keep (keepE' hW6 (by omega))
      replace r6 := r6.keep (keepE' hW6 (by omega))
      have zzW6 := hW6.size
      replace hX := hX.trans hW6
      clear hW6
      generalize (w6.alloc (.cells #[.slice A6 n6 c6, .slice B6 k6 d6] 32)) = W6 at *
      obtain ⟨a_p0, a_f0⟩ := a.at 0 _ rfl
      obtain ⟨a_p1, a_f1⟩ := a.at 1 _ rfl
      obtain ⟨b_p0, b_f0⟩ := b.at 0 _ rfl
      obtain ⟨b_p1, b_f1⟩ := b.at 1 _ rfl
      obtain ⟨b_p2, b_f2⟩ := b.at 2 _ rfl
      obtain ⟨b_p3, b_f3⟩ := b.at 3 _ rfl
      obtain ⟨b_p4, b_f4⟩ := b.at 4 _ rfl
      obtain ⟨d_p0, d_f0⟩ := d.at 0 _ rfl
      obtain ⟨d_p1, d_f1⟩ := d.at 1 _ rfl
      obtain ⟨f_p0, f_f0⟩ := f.at 0 _ rfl
      obtain ⟨f_p1, f_f1⟩ := f.at 1 _ rfl
      have hwp : IntKind.i64.wrap ((p : Int) + 1) = (p : Int) + 1 := IntWalk.i64_in _ (by omega)
      have hW7 : Ext W6 (W6.alloc (.cells #[.int .i64 ((p : Int) + 1), .int .i64 999, .int .i64 1, .int .i64 ky, .int .i64 0] 50)) := by repeat' (first | with_reducible exact Ext.refl _ | with_reducible assumption | with_reducible refine Ext.set ?_ ?_ _ _ | with_reducible refine Ext.alloc ?_ _ | with_reducible refine Ext.drew ?_ | with_reducible refine Ext.drewN ?_ _ | with_reducible refine Ext.trans ?_ (by with_reducible assumption) | omega | (simp; done) | (simp; omega))
      have zW7 : W6.heap.size + 1 ≤ (W6.alloc (.cells #[.int .i64 ((p : Int) + 1), .int .i64 999, .int .i64 1, .int .i64 ky, .int .i64 0] 50)).heap.size := by simp
      have g : Blk (W6.alloc (.cells #[.int .i64 ((p : Int) + 1), .int .i64 999, .int .i64 1, .int .i64 ky, .int .i64 0] 50)) W6.heap.size 50 [.int .i64 ((p : Int) + 1), .int .i64 999, .int .i64 1, .int .i64 ky, .int .i64 0] := (Blk.new W6 #[.int .i64 ((p : Int) + 1), .int .i64 999, .int .i64 1, .int .i64 ky, .int .i64 0] 50 (by first | rfl | simp))
      obtain ⟨a_p0, a_f0⟩ := a.at 0 _ rfl
      obtain ⟨a_p1, a_f1⟩ := a.at 1 _ rfl
      obtain ⟨b_p0, b_f0⟩ := b.at 0 _ rfl
      obtain ⟨b_p1, b_f1⟩ := b.at 1 _ rfl
      obtain ⟨b_p2, b_f2⟩ := b.at 2 _ rfl
      obtain ⟨b_p3, b_f3⟩ := b.at 3 _ rfl
      obtain ⟨b_p4, b_f4⟩ := b.at 4 _ rfl
      obtain ⟨d_p0, d_f0⟩ := d.at 0 _ rfl
      obtain ⟨d_p1, d_f1⟩ := d.at 1 _ rfl
      obtain ⟨f_p0, f_f0⟩ := f.at 0 _ rfl
      obtain ⟨f_p1, f_f1⟩ := f.at 1 _ rfl
      go_upto_region 12 with (fail)
      clear a_p0 a_f0 a_p1 a_f1 b_p0 b_f0 b_p1 b_f1 b_p2 b_f2 b_p3 b_f3 b_p4 b_f4 d_p0 d_f0 d_p1 d_f1 f_p0 f_f0 f_p1 f_f1
      replace a := a.ext hW7
      replace b := b.ext hW7
      replace d := d.ext hW7
      replace f := f.ext hW7
      replace r1 := r1.keep (keepE' hW7 (by omega))
      replace r3 := r3.keep (keepE' hW7 (by omega))
      replace r6 := r6.keep (keepE' hW7 (by omega))
      have zzW7 := hW7.size
      replace hX := hX.trans hW7
      clear hW7
      generalize (W6.alloc (.cells #[.int .i64 ((p : Int) + 1), .int .i64 999, .int .i64 1, .int .i64 ky, .int .i64 0] 50)) = W7 at *
      obtain ⟨a_p0, a_f0⟩ := a.at 0 _ rfl
      obtain ⟨a_p1, a_f1⟩ := a.at 1 _ rfl
      obtain ⟨b_p0, b_f0⟩ := b.at 0 _ rfl
      obtain ⟨b_p1, b_f1⟩ := b.at 1 _ rfl
      obtain ⟨b_p2, b_f2⟩ := b.at 2 _ rfl
      obtain ⟨b_p3, b_f3⟩ := b.at 3 _ rfl
      obtain ⟨b_p4, b_f4⟩ := b.at 4 _ rfl
      obtain ⟨d_p0, d_f0⟩ := d.at 0 _ rfl
      obtain ⟨d_p1, d_f1⟩ := d.at 1 _ rfl
      obtain ⟨f_p0, f_f0⟩ := f.at 0 _ rfl
      obtain ⟨f_p1, f_f1⟩ := f.at 1 _ rfl
      obtain ⟨g_p0, g_f0⟩ := g.at 0 _ rfl
      obtain ⟨g_p1, g_f1⟩ := g.at 1 _ rfl
      obtain ⟨g_p2, g_f2⟩ := g.at 2 _ rfl
      obtain ⟨g_p3, g_f3⟩ := g.at 3 _ rfl
      obtain ⟨g_p4, g_f4⟩ := g.at 4 _ rfl
      go_wp2_with fail
      refine (runEntry_i _ M ((p : Int) + 1) 999 1 ky 0 _ w3.heap.size (by exact r3) (by omega)).mono ?_
      rw [h3]
      rintro e w8 ⟨v8, rfl, o8, hE8⟩
      obtain ⟨A8, n8, c8, B8, k8, d8, rfl, hn8, hk8⟩ := o8.form
      have r8 : R_Image w8 w8.heap.size (.agg #[.slice A8 n8 c8, .slice B8 k8 d8]) T := o8.rd
      clear o8
      clear hn8 hk8 h3
      clear a_p0 a_f0 a_p1 a_f1 b_p0 b_f0 b_p1 b_f1 b_p2 b_f2 b_p3 b_f3 b_p4 b_f4 d_p0 d_f0 d_p1 d_f1 f_p0 f_f0 f_p1 f_f1 g_p0 g_f0 g_p1 g_f1 g_p2 g_f2 g_p3 g_f3 g_p4 g_f4
      replace a := a.ext hE8
      replace b := b.ext hE8
      replace d := d.ext hE8
      replace f := f.ext hE8
      replace g := g.ext hE8
      replace r1 := r1.keep (keepE' hE8 (by omega))
      replace r3 := r3.keep (keepE' hE8 (by omega))
      replace r6 := r6.keep (keepE' hE8 (by omega))
      have zzw8 := hE8.size
      replace hX := hX.trans hE8
      clear hE8
      have hW8 : Ext w8 (w8.alloc (.cells #[.slice A8 n8 c8, .slice B8 k8 d8] 32)) := by repeat' (first | with_reducible exact Ext.refl _ | with_reducible assumption | with_reducible refine Ext.set ?_ ?_ _ _ | with_reducible refine Ext.alloc ?_ _ | with_reducible refine Ext.drew ?_ | with_reducible refine Ext.drewN ?_ _ | with_reducible refine Ext.trans ?_ (by with_reducible assumption) | omega | (simp; done) | (simp; omega))
      have zW8 : w8.heap.size + 1 ≤ (w8.alloc (.cells #[.slice A8 n8 c8, .slice B8 k8 d8] 32)).heap.size := by simp
      have h : Blk (w8.alloc (.cells #[.slice A8 n8 c8, .slice B8 k8 d8] 32)) w8.heap.size 32 [.slice A8 n8 c8, .slice B8 k8 d8] := (Blk.new w8 #[.slice A8 n8 c8, .slice B8 k8 d8] 32 (by first | rfl | simp))
      obtain ⟨a_p0, a_f0⟩ := a.at 0 _ rfl
      obtain ⟨a_p1, a_f1⟩ := a.at 1 _ rfl
      obtain ⟨b_p0, b_f0⟩ := b.at 0 _ rfl
      obtain ⟨b_p1, b_f1⟩ := b.at 1 _ rfl
      obtain ⟨b_p2, b_f2⟩ := b.at 2 _ rfl
      obtain ⟨b_p3, b_f3⟩ := b.at 3 _ rfl
      obtain ⟨b_p4, b_f4⟩ := b.at 4 _ rfl
      obtain ⟨d_p0, d_f0⟩ := d.at 0 _ rfl
      obtain ⟨d_p1, d_f1⟩ := d.at 1 _ rfl
      obtain ⟨f_p0, f_f0⟩ := f.at 0 _ rfl
      obtain ⟨f_p1, f_f1⟩ := f.at 1 _ rfl
      obtain ⟨g_p0, g_f0⟩ := g.at 0 _ rfl
      obtain ⟨g_p1, g_f1⟩ := g.at 1 _ rfl
      obtain ⟨g_p2, g_f2⟩ := g.at 2 _ rfl
      obtain ⟨g_p3, g_f3⟩ := g.at 3 _ rfl
      obtain ⟨g_p4, g_f4⟩ := g.at 4 _ rfl
      go_upto_region 13 with (fail)
      clear a_p0 a_f0 a_p1 a_f1 b_p0 b_f0 b_p1 b_f1 b_p2 b_f2 b_p3 b_f3 b_p4 b_f4 d_p0 d_f0 d_p1 d_f1 f_p0 f_f0 f_p1 f_f1 g_p0 g_f0 g_p1 g_f1 g_p2 g_f2 g_p3 g_f3 g_p4 g_f4
      replace a := a.ext hW8
      replace b := b.ext hW8
      replace d := d.ext hW8
      replace f := f.ext hW8
      replace g := g.ext hW8
      replace r1 := r1.keep (keepE' hW8 (by omega))
      replace r3 := r3.keep (keepE' hW8 (by omega))
      replace r6 := r6.keep (keepE' hW8 (by omega))
      replace r8 := r8.keep (keepE' hW8 (by omega))
      have zzW8 := hW8.size
      replace hX := hX.trans hW8
      clear hW8
      generalize (w8.alloc (.cells #[.slice A8 n8 c8, .slice B8 k8 d8] 32)) = W8 at *
      obtain ⟨a_p0, a_f0⟩ := a.at 0 _ rfl
      obtain ⟨a_p1, a_f1⟩ := a.at 1 _ rfl
      obtain ⟨b_p0, b_f0⟩ := b.at 0 _ rfl
      obtain ⟨b_p1, b_f1⟩ := b.at 1 _ rfl
      obtain ⟨b_p2, b_f2⟩ := b.at 2 _ rfl
      obtain ⟨b_p3, b_f3⟩ := b.at 3 _ rfl
      obtain ⟨b_p4, b_f4⟩ := b.at 4 _ rfl
      obtain ⟨d_p0, d_f0⟩ := d.at 0 _ rfl
      obtain ⟨d_p1, d_f1⟩ := d.at 1 _ rfl
      obtain ⟨f_p0, f_f0⟩ := f.at 0 _ rfl
      obtain ⟨f_p1, f_f1⟩ := f.at 1 _ rfl
      obtain ⟨g_p0, g_f0⟩ := g.at 0 _ rfl
      obtain ⟨g_p1, g_f1⟩ := g.at 1 _ rfl
      obtain ⟨g_p2, g_f2⟩ := g.at 2 _ rfl
      obtain ⟨g_p3, g_f3⟩ := g.at 3 _ rfl
      obtain ⟨g_p4, g_f4⟩ := g.at 4 _ rfl
      obtain ⟨h_p0, h_f0⟩ := h.at 0 _ rfl
      obtain ⟨h_p1, h_f1⟩ := h.at 1 _ rfl
      go_wp2_with fail
      refine (seatOf_i _ T (p : Int) _ w8.heap.size (by exact r8) (by omega) (by omega)).mono ?_
      rw [H4.out]
      rintro e w9 ⟨rfl, hE9⟩
      clear a_p0 a_f0 a_p1 a_f1 b_p0 b_f0 b_p1 b_f1 b_p2 b_f2 b_p3 b_f3 b_p4 b_f4 d_p0 d_f0 d_p1 d_f1 f_p0 f_f0 f_p1 f_f1 g_p0 g_f0 g_p1 g_f1 g_p2 g_f2 g_p3 g_f3 g_p4 g_f4 h_p0 h_f0 h_p1 h_f1
      replace a := a.ext hE9
      replace b := b.ext hE9
      replace d := d.ext hE9
      replace f := f.ext hE9
      replace g := g.ext hE9
      replace h := h.ext hE9
      replace r1 := r1.keep (keepE' hE9 (by omega))
      replace r3 := r3.keep (keepE' hE9 (by omega))
      replace r6 := r6.keep (keepE' hE9 (by omega))
      replace r8 := r8.keep (keepE' hE9 (by omega))
      have zzw9 := hE9.size
      replace hX := hX.trans hE9
      clear hE9
      have hW9 : Ext w9 (w9.alloc (.cells #[.int .i64 (p : Int), .int .i64 q, .int .i64 x] 56)) := by repeat' (first | with_reducible exact Ext.refl _ | with_reducible assumption | with_reducible refine Ext.set ?_ ?_ _ _ | with_reducible refine Ext.alloc ?_ _ | with_reducible refine Ext.drew ?_ | with_reducible refine Ext.drewN ?_ _ | with_reducible refine Ext.trans ?_ (by with_reducible assumption) | omega | (simp; done) | (simp; omega))
      have zW9 : w9.heap.size + 1 ≤ (w9.alloc (.cells #[.int .i64 (p : Int), .int .i64 q, .int .i64 x] 56)).heap.size := by simp
      have i : Blk (w9.alloc (.cells #[.int .i64 (p : Int), .int .i64 q, .int .i64 x] 56)) w9.heap.size 56 [.int .i64 (p : Int), .int .i64 q, .int .i64 x] := (Blk.new w9 #[.int .i64 (p : Int), .int .i64 q, .int .i64 x] 56 (by first | rfl | simp))
      obtain ⟨a_p0, a_f0⟩ := a.at 0 _ rfl
      obtain ⟨a_p1, a_f1⟩ := a.at 1 _ rfl
      obtain ⟨b_p0, b_f0⟩ := b.at 0 _ rfl
      obtain ⟨b_p1, b_f1⟩ := b.at 1 _ rfl
      obtain ⟨b_p2, b_f2⟩ := b.at 2 _ rfl
      obtain ⟨b_p3, b_f3⟩ := b.at 3 _ rfl
      obtain ⟨b_p4, b_f4⟩ := b.at 4 _ rfl
      obtain ⟨d_p0, d_f0⟩ := d.at 0 _ rfl
      obtain ⟨d_p1, d_f1⟩ := d.at 1 _ rfl
      obtain ⟨f_p0, f_f0⟩ := f.at 0 _ rfl
      obtain ⟨f_p1, f_f1⟩ := f.at 1 _ rfl
      obtain ⟨g_p0, g_f0⟩ := g.at 0 _ rfl
      obtain ⟨g_p1, g_f1⟩ := g.at 1 _ rfl
      obtain ⟨g_p2, g_f2⟩ := g.at 2 _ rfl
      obtain ⟨g_p3, g_f3⟩ := g.at 3 _ rfl
      obtain ⟨g_p4, g_f4⟩ := g.at 4 _ rfl
      obtain ⟨h_p0, h_f0⟩ := h.at 0 _ rfl
      obtain ⟨h_p1, h_f1⟩ := h.at 1 _ rfl
      go_upto_region 14 with (fail)
      clear a_p0 a_f0 a_p1 a_f1 b_p0 b_f0 b_p1 b_f1 b_p2 b_f2 b_p3 b_f3 b_p4 b_f4 d_p0 d_f0 d_p1 d_f1 f_p0 f_f0 f_p1 f_f1 g_p0 g_f0 g_p1 g_f1 g_p2 g_f2 g_p3 g_f3 g_p4 g_f4 h_p0 h_f0 h_p1 h_f1
      replace a := a.ext hW9
      replace b := b.ext hW9
      replace d := d.ext hW9
      replace f := f.ext hW9
      replace g := g.ext hW9
      replace h := h.ext hW9
      replace r1 := r1.keep (keepE' hW9 (by omega))
      replace r3 := r3.keep (keepE' hW9 (by omega))
      replace r6 := r6.keep (keepE' hW9 (by omega))
      replace r8 := r8.keep (keepE' hW9 (by omega))
      have zzW9 := hW9.size
      replace hX := hX.trans hW9
      clear hW9
      generalize (w9.alloc (.cells #[.int .i64 (p : Int), .int .i64 q, .int .i64 x] 56)) = W9 at *
      obtain ⟨a_p0, a_f0⟩ := a.at 0 _ rfl
      obtain ⟨a_p1, a_f1⟩ := a.at 1 _ rfl
      obtain ⟨b_p0, b_f0⟩ := b.at 0 _ rfl
      obtain ⟨b_p1, b_f1⟩ := b.at 1 _ rfl
      obtain ⟨b_p2, b_f2⟩ := b.at 2 _ rfl
      obtain ⟨b_p3, b_f3⟩ := b.at 3 _ rfl
      obtain ⟨b_p4, b_f4⟩ := b.at 4 _ rfl
      obtain ⟨d_p0, d_f0⟩ := d.at 0 _ rfl
      obtain ⟨d_p1, d_f1⟩ := d.at 1 _ rfl
      obtain ⟨f_p0, f_f0⟩ := f.at 0 _ rfl
      obtain ⟨f_p1, f_f1⟩ := f.at 1 _ rfl
      obtain ⟨g_p0, g_f0⟩ := g.at 0 _ rfl
      obtain ⟨g_p1, g_f1⟩ := g.at 1 _ rfl
      obtain ⟨g_p2, g_f2⟩ := g.at 2 _ rfl
      obtain ⟨g_p3, g_f3⟩ := g.at 3 _ rfl
      obtain ⟨g_p4, g_f4⟩ := g.at 4 _ rfl
      obtain ⟨h_p0, h_f0⟩ := h.at 0 _ rfl
      obtain ⟨h_p1, h_f1⟩ := h.at 1 _ rfl
      obtain ⟨i_p0, i_f0⟩ := i.at 0 _ rfl
      obtain ⟨i_p1, i_f1⟩ := i.at 1 _ rfl
      obtain ⟨i_p2, i_f2⟩ := i.at 2 _ rfl
      go_wp2_with fail
      refine (sameImage_i _ _ M M _ w6.heap.size w3.heap.size (by exact r6) (by omega) (by exact r3) (by omega)).mono ?_
      rw [decide_eq_true rfl]
      rintro e w10 ⟨rfl, hE10⟩
      clear a_p0 a_f0 a_p1 a_f1 b_p0 b_f0 b_p1 b_f1 b_p2 b_f2 b_p3 b_f3 b_p4 b_f4 d_p0 d_f0 d_p1 d_f1 f_p0 f_f0 f_p1 f_f1 g_p0 g_f0 g_p1 g_f1 g_p2 g_f2 g_p3 g_f3 g_p4 g_f4 h_p0 h_f0 h_p1 h_f1 i_p0 i_f0 i_p1 i_f1 i_p2 i_f2
      replace a := a.ext hE10
      replace b := b.ext hE10
      replace d := d.ext hE10
      replace f := f.ext hE10
      replace g := g.ext hE10
      replace h := h.ext hE10
      replace i := i.ext hE10
      replace r1 := r1.keep (keepE' hE10 (by omega))
      replace r3 := r3.keep (keepE' hE10 (by omega))
      replace r6 := r6.keep (keepE' hE10 (by omega))
      replace r8 := r8.keep (keepE' hE10 (by omega))
      have zzw10 := hE10.size
      replace hX := hX.trans hE10
      clear hE10
      obtain ⟨a_p0, a_f0⟩ := a.at 0 _ rfl
      obtain ⟨a_p1, a_f1⟩ := a.at 1 _ rfl
      obtain ⟨b_p0, b_f0⟩ := b.at 0 _ rfl
      obtain ⟨b_p1, b_f1⟩ := b.at 1 _ rfl
      obtain ⟨b_p2, b_f2⟩ := b.at 2 _ rfl
      obtain ⟨b_p3, b_f3⟩ := b.at 3 _ rfl
      obtain ⟨b_p4, b_f4⟩ := b.at 4 _ rfl
      obtain ⟨d_p0, d_f0⟩ := d.at 0 _ rfl
      obtain ⟨d_p1, d_f1⟩ := d.at 1 _ rfl
      obtain ⟨f_p0, f_f0⟩ := f.at 0 _ rfl
      obtain ⟨f_p1, f_f1⟩ := f.at 1 _ rfl
      obtain ⟨g_p0, g_f0⟩ := g.at 0 _ rfl
      obtain ⟨g_p1, g_f1⟩ := g.at 1 _ rfl
      obtain ⟨g_p2, g_f2⟩ := g.at 2 _ rfl
      obtain ⟨g_p3, g_f3⟩ := g.at 3 _ rfl
      obtain ⟨g_p4, g_f4⟩ := g.at 4 _ rfl
      obtain ⟨h_p0, h_f0⟩ := h.at 0 _ rfl
      obtain ⟨h_p1, h_f1⟩ := h.at 1 _ rfl
      obtain ⟨i_p0, i_f0⟩ := i.at 0 _ rfl
      obtain ⟨i_p1, i_f1⟩ := i.at 1 _ rfl
      obtain ⟨i_p2, i_f2⟩ := i.at 2 _ rfl
      go_wp2_with fail
      refine (cellAt_i _ M ky _ w3.heap.size (by exact r3) (by omega) (by unfold Near at hky; omega)).mono ?_
      rintro e w11 ⟨rfl, hE11⟩
      clear a_p0 a_f0 a_p1 a_f1 b_p0 b_f0 b_p1 b_f1 b_p2 b_f2 b_p3 b_f3 b_p4 b_f4 d_p0 d_f0 d_p1 d_f1 f_p0 f_f0 f_p1 f_f1 g_p0 g_f0 g_p1 g_f1 g_p2 g_f2 g_p3 g_f3 g_p4 g_f4 h_p0 h_f0 h_p1 h_f1 i_p0 i_f0 i_p1 i_f1 i_p2 i_f2
      replace a := a.ext hE11
      replace b := b.ext hE11
      replace d := d.ext hE11
      replace f := f.ext hE11
      replace g := g.ext hE11
      replace h := h.ext hE11
      replace i := i.ext hE11
      replace r1 := r1.keep (keepE' hE11 (by omega))
      replace r3 := r3.keep (keepE' hE11 (by omega))
      replace r6 := r6.keep (keepE' hE11 (by omega))
      replace r8 := r8.keep (keepE' hE11 (by omega))
      have zzw11 := hE11.size
      replace hX := hX.trans hE11
      clear hE11
      obtain ⟨y, hy⟩ : ∃ y, cellAt M ky = y := ⟨_, rfl⟩
      have h5 : z = y ∨ z = -1 := by rw [← hy]; exact H5.out
      rw [hy]
      clear hy
      rcases h5 with rfl | rfl
      · go_wp2
        go_ret
        exact ⟨rfl, by repeat' (first | with_reducible exact Ext.refl _ | with_reducible assumption | with_reducible refine Ext.set ?_ ?_ _ _ | with_reducible refine Ext.alloc ?_ _ | with_reducible refine Ext.drew ?_ | with_reducible refine Ext.drewN ?_ _ | with_reducible refine Ext.trans ?_ (by with_reducible assumption) | omega | (simp; done) | (simp; omega))⟩
      · by_cases hy1 : -1 = y
        · have t1 : ((-1 : Int) == y) = true := by simpa using hy1
          go_wp2
          go_ret
          exact ⟨rfl, by repeat' (first | with_reducible exact Ext.refl _ | with_reducible assumption | with_reducible refine Ext.set ?_ ?_ _ _ | with_reducible refine Ext.alloc ?_ _ | with_reducible refine Ext.drew ?_ | with_reducible refine Ext.drewN ?_ _ | with_reducible refine Ext.trans ?_ (by with_reducible assumption) | omega | (simp; done) | (simp; omega))⟩
        · have t1 : ((-1 : Int) == y) = false := by simpa using hy1
          go_wp2
          go_ret
          exact ⟨rfl, by repeat' (first | with_reducible exact Ext.refl _ | with_reducible assumption | with_reducible refine Ext.set ?_ ?_ _ _ | with_reducible refine Ext.alloc ?_ _ | with_reducible refine Ext.drew ?_ | with_reducible refine Ext.drewN ?_ _ | with_reducible refine Ext.trans ?_ (by with_reducible assumption) | omega | (simp; done) | (simp; omega))⟩

set_option maxRecDepth 100000 in
theorem lifted (os : Os) (started : os.Started) (H : Type) (enc : TypeId × Value → H) :
    ReturnsInHanded {} Try.checked os 5 .any (Rows.fnOnceSpec.pre6 enc Try.prog Try.f5 Rows.fnOnceRow.domain false) (Rows.fnOnceSpec.post enc Try.prog Try.f5 false true false false) := by
  refine returnsInHanded_of_change (C := Try.checked) own started (by kernel_rfl) Try.func5
    (ChangeSpec.witness6 (enc := enc) (C := Try.checked) false ⟨#[], #[.slice none 0 0], []⟩ 8 (by kernel_rfl) (by kernel_rfl) (by kernel_rfl) (by kernel_rfl)) ?_
  intro W base args ds gs before hval0 hW hcnd _
  have hval : ∀ (j : Nat) t v, Try.f5.params[j]? = some t → args[j]? = some v → Value.okWide Try.prog W .any base t v := hval0
  have hW' := hW
  obtain ⟨p, q, hA0, hV, rfl, hfz, hnd⟩ := hW
  have hA : DataW.TrodAll enc Try.prog W 0 (fun _ => true) true Try.f5.params.toList args.toList ds p := hA0
  rw [Try.params5] at hA hval
  obtain ⟨vv0, vs0, dd0, ds0, pp0, qq0, hargs, rfl, rfl, ht0, rr0⟩ := trodAll_cons hA
  obtain ⟨rfl, rfl, rfl⟩ := trodAll_nil rr0
  obtain rfl : args = #[vv0] := by cases args; simp_all
  obtain ⟨rfl, rfl⟩ := trodVars_none hV
  have trd0 := ht0
  have lts0 : ∀ x ∈ pp0, x.block < W.heap.size := by obtain ⟨m, hm⟩ := trd0; exact DataW.trod_lt m _ _ _ hm
  obtain ⟨l0, r0⟩ := open_ByteS_arg (hval 0 41 vv0 rfl rfl) ht0
  clear hA0 hval0
  refine (walk vv0  l0  W r0).mono fun e W' ⟨he, bel⟩ => ?_
  subst he
  exact ⟨_, rfl, _, _, _, [], _, [], hW', trodAll_mk1 (shut_bool Try.underlying4 _), (trodAll_cons_mk (Below.trod laidOut (by kernel_rfl) (of_decide_eq_true (by kernel_rfl)) trd0 bel lts0) trodAll_mk0), rfl, Below.frame bel _, fun h => by cases h⟩

theorem over : Rows.fnOnceRow.holds Try.pinned (OpenSpec.ofChange Rows.fnOnceSpec) :=
  OpenClaim.holds_of_wide 5 Try.f5 rfl rfl rfl rfl rfl rfl rfl ⟨rfl, rfl, rfl, rfl, rfl⟩ rfl rfl rfl rfl rfl (by as_aux_lemma => kernel_rfl) Try.func5 (by as_aux_lemma => kernel_rfl)
    (of_decide_eq_true (by as_aux_lemma => kernel_rfl)) (by as_aux_lemma => unfold Func.isWrapper; first | (rw [if_pos (by decide +kernel)]; kernel_rfl) | (rw [if_neg (by decide +kernel)]; exact ⟨rfl, rfl⟩))
    (fun os started H enc _ => lifted os started H enc)

theorem proved : Rows.FnOnceSaid := over
#print axioms proved
end Go.Proofs.Ytacbcnobenffdaa.fnOnce
