/-
  FnCmds returns true for every input: what is put is got, what is added is the sum, what is dropped is gone; other keys of a drawn machine stay.
  Conditions: none: for every argument, in whatever memory.
-/
import Derived.Test.YtacbcnobenffdaaOpen
import Derived.Test.YtacbcnobenffdaaBytes
import Derived.Test.YtacbcnobenffdaaOnce
import Derived.Test.YtacbcnobenffdaaDrawE
import Derived.Test.YtacbcnobenffdaaBig
import Derived.Test.YtacbcnobenffdaaRun2
import Derived.Test.YtacbcnobenffdaaSame
import Derived.Deep.DeepCutAuto
import Derived.Deep.CutBlock
import Derived.IntWalk
namespace Go.Proofs.Ytacbcnobenffdaa.fnCmds
open Go.ChangeShapes Go.WideShapes Go.ChangeAt Go.RowKit
set_option linter.unusedVariables false
set_option maxRecDepth 1000000

set_option maxRecDepth 100000 in
set_option maxHeartbeats 16000000 in
theorem walk (vv0 : Value) (l0 : List UInt8) (w : World) (r0 : R_ByteS w w.heap.size vv0 l0) :
    Calls Try.prog 4 #[vv0] w fun e w' => e = .returned (.bool true) ∧ Ext w w' := by
  obtain ⟨A0, n0, c0, rfl, hl0, hnc0, hcm0, hr0⟩ := r0
  by_cases hbig : 1048576 < n0
  · go_enter Try.func4, Try.ntmps4
    go_wp2_with fail
    refine (bigU_any A0 n0 c0 _).mono ?_
    rw [decide_eq_true hbig]
    rintro e w1 ⟨rfl, rfl⟩
    go_wp2
    go_ret
    exact ⟨rfl, Ext.refl _⟩
  · go_enter Try.func4, Try.ntmps4
    go_wp2_with fail
    refine (bigU_any A0 n0 c0 _).mono ?_
    rw [decide_eq_false hbig]
    rintro e w0 ⟨rfl, rfl⟩
    go_wp2_with fail
    refine (drawRunCmd_s A0 n0 c0 l0 _ hr0 hl0 (by omega)).mono ?_
    rintro e w1 ⟨v1, m, kd, ky, vl, hky, rfl, o1, hsz, hX⟩
    obtain ⟨A1, n1, c1, B1, k1, d1, rfl, hn1, hk1⟩ := o1.form
    have r1 : R_Image w1 w1.heap.size (.agg #[.slice A1 n1 c1, .slice B1 k1 d1]) m := o1.rd
    clear o1
    have hn1s : n1 ≤ 111 := by unfold szI at hsz; omega
    have Hn1 := Lib.hid hn1
    have Hk1 := Lib.hid hk1
    clear hn1 hk1 hsz
    have hkr : -9223372036854775808 ≤ ky ∧ ky ≤ 9223372036854775807 := by unfold Near at hky; omega
    clear hky
    have zzw1 := Nat.le_refl w1.heap.size
    have hW1 : Ext w1 ((w1.alloc (.cells #[.slice A1 n1 c1, .slice B1 k1 d1] 32)).alloc (.cells #[.int .i64 kd, .int .i64 ky, .int .i64 vl] 36)) := by repeat' (first | with_reducible exact Ext.refl _ | with_reducible assumption | with_reducible refine Ext.set ?_ ?_ _ _ | with_reducible refine Ext.alloc ?_ _ | with_reducible refine Ext.drew ?_ | with_reducible refine Ext.drewN ?_ _ | with_reducible refine Ext.trans ?_ (by with_reducible assumption) | omega | (simp; done) | (simp; omega))
    have zW1 : w1.heap.size + 2 ≤ ((w1.alloc (.cells #[.slice A1 n1 c1, .slice B1 k1 d1] 32)).alloc (.cells #[.int .i64 kd, .int .i64 ky, .int .i64 vl] 36)).heap.size := by simp
    have a : Blk ((w1.alloc (.cells #[.slice A1 n1 c1, .slice B1 k1 d1] 32)).alloc (.cells #[.int .i64 kd, .int .i64 ky, .int .i64 vl] 36)) w1.heap.size 32 [.slice A1 n1 c1, .slice B1 k1 d1] := ((Blk.new w1 #[.slice A1 n1 c1, .slice B1 k1 d1] 32 (by first | rfl | simp)).alloc (.cells #[.int .i64 kd, .int .i64 ky, .int .i64 vl] 36))
    have b : Blk ((w1.alloc (.cells #[.slice A1 n1 c1, .slice B1 k1 d1] 32)).alloc (.cells #[.int .i64 kd, .int .i64 ky, .int .i64 vl] 36)) (w1.heap.size + 1) 36 [.int .i64 kd, .int .i64 ky, .int .i64 vl] := (Blk.new (w1.alloc (.cells #[.slice A1 n1 c1, .slice B1 k1 d1] 32)) #[.int .i64 kd, .int .i64 ky, .int .i64 vl] 36 (by first | rfl | simp))
    go_upto_region 4 with (fail)
    replace r1 := r1.keep (keepE' hW1 (by omega))
    have zzW1 := hW1.size
    replace hX := hX.trans hW1
    clear hW1
    generalize ((w1.alloc (.cells #[.slice A1 n1 c1, .slice B1 k1 d1] 32)).alloc (.cells #[.int .i64 kd, .int .i64 ky, .int .i64 vl] 36)) = W1 at *
    obtain ⟨a_p0, a_f0⟩ := a.at 0 _ rfl
    obtain ⟨a_p1, a_f1⟩ := a.at 1 _ rfl
    obtain ⟨b_p0, b_f0⟩ := b.at 0 _ rfl
    obtain ⟨b_p1, b_f1⟩ := b.at 1 _ rfl
    obtain ⟨b_p2, b_f2⟩ := b.at 2 _ rfl
    obtain ⟨h, hh⟩ : ∃ h, cellAt m ky = h := ⟨_, rfl⟩
    have Hh := Lib.hid hh
    go_wp2_with fail
    refine (cellAt_s _ m ky _ w1.heap.size (by exact r1) (by omega) hkr).mono ?_
    rw [hh]
    rintro e w2 ⟨rfl, hE2⟩
    clear a_p0 a_f0 a_p1 a_f1 b_p0 b_f0 b_p1 b_f1 b_p2 b_f2
    replace a := a.ext hE2
    replace b := b.ext hE2
    replace r1 := r1.keep (keepE' hE2 (by omega))
    have zzw2 := hE2.size
    replace hX := hX.trans hE2
    clear hE2
    clear hh
    obtain ⟨a_p0, a_f0⟩ := a.at 0 _ rfl
    obtain ⟨a_p1, a_f1⟩ := a.at 1 _ rfl
    obtain ⟨b_p0, b_f0⟩ := b.at 0 _ rfl
    obtain ⟨b_p1, b_f1⟩ := b.at 1 _ rfl
    obtain ⟨b_p2, b_f2⟩ := b.at 2 _ rfl
    obtain ⟨tt, htt⟩ : ∃ tt, runCmd m ⟨kd, ky, vl⟩ = tt := ⟨_, rfl⟩
    obtain ⟨M, x⟩ := tt
    have Htt := Lib.hid htt
    go_wp2_with fail
    refine (runCmd_i _ m kd ky vl _ w1.heap.size (by exact r1) (by omega)).mono ?_
    rw [htt]
    rintro e w3 ⟨v3, rfl, o3, hE3⟩
    obtain ⟨A3, n3, c3, B3, k3, d3, rfl, hn3, hk3⟩ := o3.form
    have r3 : R_Image w3 w3.heap.size (.agg #[.slice A3 n3 c3, .slice B3 k3 d3]) M := o3.rd
    clear o3
    have Hn3 := Lib.hid hn3
    have Hk3 := Lib.hid hk3
    clear hn3 hk3
    clear a_p0 a_f0 a_p1 a_f1 b_p0 b_f0 b_p1 b_f1 b_p2 b_f2
    replace a := a.ext hE3
    replace b := b.ext hE3
    replace r1 := r1.keep (keepE' hE3 (by omega))
    have zzw3 := hE3.size
    replace hX := hX.trans hE3
    clear hE3
    have hW3 : Ext w3 (w3.alloc (.cells #[.slice A3 n3 c3, .slice B3 k3 d3] 32)) := by repeat' (first | with_reducible exact Ext.refl _ | with_reducible assumption | with_reducible refine Ext.set ?_ ?_ _ _ | with_reducible refine Ext.alloc ?_ _ | with_reducible refine Ext.drew ?_ | with_reducible refine Ext.drewN ?_ _ | with_reducible refine Ext.trans ?_ (by with_reducible assumption) | omega | (simp; done) | (simp; omega))
    have zW3 : w3.heap.size + 1 ≤ (w3.alloc (.cells #[.slice A3 n3 c3, .slice B3 k3 d3] 32)).heap.size := by simp
    have d : Blk (w3.alloc (.cells #[.slice A3 n3 c3, .slice B3 k3 d3] 32)) w3.heap.size 32 [.slice A3 n3 c3, .slice B3 k3 d3] := (Blk.new w3 #[.slice A3 n3 c3, .slice B3 k3 d3] 32 (by first | rfl | simp))
    obtain ⟨a_p0, a_f0⟩ := a.at 0 _ rfl
    obtain ⟨a_p1, a_f1⟩ := a.at 1 _ rfl
    obtain ⟨b_p0, b_f0⟩ := b.at 0 _ rfl
    obtain ⟨b_p1, b_f1⟩ := b.at 1 _ rfl
    obtain ⟨b_p2, b_f2⟩ := b.at 2 _ rfl
    go_upto_region 6 with (fail)
    clear a_p0 a_f0 a_p1 a_f1 b_p0 b_f0 b_p1 b_f1 b_p2 b_f2
    replace a := a.ext hW3
    replace b := b.ext hW3
    replace r1 := r1.keep (keepE' hW3 (by omega))
    replace r3 := r3.keep (keepE' hW3 (by omega))
    have zzW3 := hW3.size
    replace hX := hX.trans hW3
    clear hW3
    generalize (w3.alloc (.cells #[.slice A3 n3 c3, .slice B3 k3 d3] 32)) = W3 at *
    obtain ⟨a_p0, a_f0⟩ := a.at 0 _ rfl
    obtain ⟨a_p1, a_f1⟩ := a.at 1 _ rfl
    obtain ⟨b_p0, b_f0⟩ := b.at 0 _ rfl
    obtain ⟨b_p1, b_f1⟩ := b.at 1 _ rfl
    obtain ⟨b_p2, b_f2⟩ := b.at 2 _ rfl
    obtain ⟨d_p0, d_f0⟩ := d.at 0 _ rfl
    obtain ⟨d_p1, d_f1⟩ := d.at 1 _ rfl
    go_wp2_with fail
    refine (runCmd_s _ m kd ky vl _ w1.heap.size (by exact r1) (by omega)).mono ?_
    rw [htt]
    rintro e w4 ⟨v4, rfl, o4, hE4⟩
    obtain ⟨A4, n4, c4, B4, k4, d4, rfl, hn4, hk4⟩ := o4.form
    have r4 : R_Image w4 w4.heap.size (.agg #[.slice A4 n4 c4, .slice B4 k4 d4]) M := o4.rd
    clear o4
    clear hn4 hk4 r4 htt
    clear a_p0 a_f0 a_p1 a_f1 b_p0 b_f0 b_p1 b_f1 b_p2 b_f2 d_p0 d_f0 d_p1 d_f1
    replace a := a.ext hE4
    replace b := b.ext hE4
    replace d := d.ext hE4
    replace r1 := r1.keep (keepE' hE4 (by omega))
    replace r3 := r3.keep (keepE' hE4 (by omega))
    have zzw4 := hE4.size
    replace hX := hX.trans hE4
    clear hE4
    have hW4 : Ext w4 (w4.alloc (.cells #[.slice A4 n4 c4, .slice B4 k4 d4] 32)) := by repeat' (first | with_reducible exact Ext.refl _ | with_reducible assumption | with_reducible refine Ext.set ?_ ?_ _ _ | with_reducible refine Ext.alloc ?_ _ | with_reducible refine Ext.drew ?_ | with_reducible refine Ext.drewN ?_ _ | with_reducible refine Ext.trans ?_ (by with_reducible assumption) | omega | (simp; done) | (simp; omega))
    have zW4 : w4.heap.size + 1 ≤ (w4.alloc (.cells #[.slice A4 n4 c4, .slice B4 k4 d4] 32)).heap.size := by simp
    have f : Blk (w4.alloc (.cells #[.slice A4 n4 c4, .slice B4 k4 d4] 32)) w4.heap.size 32 [.slice A4 n4 c4, .slice B4 k4 d4] := (Blk.new w4 #[.slice A4 n4 c4, .slice B4 k4 d4] 32 (by first | rfl | simp))
    obtain ⟨a_p0, a_f0⟩ := a.at 0 _ rfl
    obtain ⟨a_p1, a_f1⟩ := a.at 1 _ rfl
    obtain ⟨b_p0, b_f0⟩ := b.at 0 _ rfl
    obtain ⟨b_p1, b_f1⟩ := b.at 1 _ rfl
    obtain ⟨b_p2, b_f2⟩ := b.at 2 _ rfl
    obtain ⟨d_p0, d_f0⟩ := d.at 0 _ rfl
    obtain ⟨d_p1, d_f1⟩ := d.at 1 _ rfl
    go_upto_region 7 with (fail)
    clear a_p0 a_f0 a_p1 a_f1 b_p0 b_f0 b_p1 b_f1 b_p2 b_f2 d_p0 d_f0 d_p1 d_f1
    replace a := a.ext hW4
    replace b := b.ext hW4
    replace d := d.ext hW4
    replace r1 := r1.keep (keepE' hW4 (by omega))
    replace r3 := r3.keep (keepE' hW4 (by omega))
    have zzW4 := hW4.size
    replace hX := hX.trans hW4
    clear hW4
    generalize (w4.alloc (.cells #[.slice A4 n4 c4, .slice B4 k4 d4] 32)) = W4 at *
    obtain ⟨a_p0, a_f0⟩ := a.at 0 _ rfl
    obtain ⟨a_p1, a_f1⟩ := a.at 1 _ rfl
    obtain ⟨b_p0, b_f0⟩ := b.at 0 _ rfl
    obtain ⟨b_p1, b_f1⟩ := b.at 1 _ rfl
    obtain ⟨b_p2, b_f2⟩ := b.at 2 _ rfl
    obtain ⟨d_p0, d_f0⟩ := d.at 0 _ rfl
    obtain ⟨d_p1, d_f1⟩ := d.at 1 _ rfl
    obtain ⟨f_p0, f_f0⟩ := f.at 0 _ rfl
    obtain ⟨f_p1, f_f1⟩ := f.at 1 _ rfl
    clear f_p0 f_f0 f_p1 f_f1
    clear f
    obtain ⟨ok, hok⟩ : ∃ ok, imageOk m = ok := ⟨_, rfl⟩
    obtain ⟨ok2, hok2⟩ : ∃ ok2, cmdOk ⟨kd, ky, vl⟩ = ok2 := ⟨_, rfl⟩
    have Hok := Lib.hid hok
    have Hok2 := Lib.hid hok2
    go_wp2_with fail
    refine (imageOk_s _ m _ w1.heap.size (by exact r1) (by omega)).mono ?_
    rw [hok]
    rintro e w5 ⟨rfl, hE5⟩
    clear a_p0 a_f0 a_p1 a_f1 b_p0 b_f0 b_p1 b_f1 b_p2 b_f2 d_p0 d_f0 d_p1 d_f1
    replace a := a.ext hE5
    replace b := b.ext hE5
    replace d := d.ext hE5
    replace r1 := r1.keep (keepE' hE5 (by omega))
    replace r3 := r3.keep (keepE' hE5 (by omega))
    have zzw5 := hE5.size
    replace hX := hX.trans hE5
    clear hE5
    obtain ⟨a_p0, a_f0⟩ := a.at 0 _ rfl
    obtain ⟨a_p1, a_f1⟩ := a.at 1 _ rfl
    obtain ⟨b_p0, b_f0⟩ := b.at 0 _ rfl
    obtain ⟨b_p1, b_f1⟩ := b.at 1 _ rfl
    obtain ⟨b_p2, b_f2⟩ := b.at 2 _ rfl
    obtain ⟨d_p0, d_f0⟩ := d.at 0 _ rfl
    obtain ⟨d_p1, d_f1⟩ := d.at 1 _ rfl
    clear hok
    cases ok with
    | false =>
      clear hok2
      have hb : runCmd m ⟨kd, ky, vl⟩ = (⟨[], []⟩, 0) := runCmd_out (by first | exact .inl Hok.out | exact .inr Hok2.out)
      rw [Htt.out] at hb
      injection hb with hb hb2
      subst hb
      obtain rfl : 0 = n3 := Hn3.out
      obtain rfl : 0 = k3 := Hk3.out
      clear hb2
      go_wp2
      go_ret
      exact ⟨rfl, by repeat' (first | with_reducible exact Ext.refl _ | with_reducible assumption | with_reducible refine Ext.set ?_ ?_ _ _ | with_reducible refine Ext.alloc ?_ _ | with_reducible refine Ext.drew ?_ | with_reducible refine Ext.drewN ?_ _ | with_reducible refine Ext.trans ?_ (by with_reducible assumption) | omega | (simp; done) | (simp; omega))⟩
    | true =>
      go_wp2_with fail
      refine (cmdOk_s kd ky vl _).mono ?_
      rw [hok2]
      rintro e w6 ⟨rfl, hE6⟩
      clear a_p0 a_f0 a_p1 a_f1 b_p0 b_f0 b_p1 b_f1 b_p2 b_f2 d_p0 d_f0 d_p1 d_f1
      replace a := a.ext hE6
      replace b := b.ext hE6
      replace d := d.ext hE6
      replace r1 := r1.keep (keepE' hE6 (by omega))
      replace r3 := r3.keep (keepE' hE6 (by omega))
      have zzw6 := hE6.size
      replace hX := hX.trans hE6
      clear hE6
      obtain ⟨a_p0, a_f0⟩ := a.at 0 _ rfl
      obtain ⟨a_p1, a_f1⟩ := a.at 1 _ rfl
      obtain ⟨b_p0, b_f0⟩ := b.at 0 _ rfl
      obtain ⟨b_p1, b_f1⟩ := b.at 1 _ rfl
      obtain ⟨b_p2, b_f2⟩ := b.at 2 _ rfl
      obtain ⟨d_p0, d_f0⟩ := d.at 0 _ rfl
      obtain ⟨d_p1, d_f1⟩ := d.at 1 _ rfl
      clear hok2
      cases ok2 with
      | false =>
        have hb : runCmd m ⟨kd, ky, vl⟩ = (⟨[], []⟩, 0) := runCmd_out (by first | exact .inl Hok.out | exact .inr Hok2.out)
        rw [Htt.out] at hb
        injection hb with hb hb2
        subst hb
        obtain rfl : 0 = n3 := Hn3.out
        obtain rfl : 0 = k3 := Hk3.out
        clear hb2
        go_wp2
        go_ret
        exact ⟨rfl, by repeat' (first | with_reducible exact Ext.refl _ | with_reducible assumption | with_reducible refine Ext.set ?_ ?_ _ _ | with_reducible refine Ext.alloc ?_ _ | with_reducible refine Ext.drew ?_ | with_reducible refine Ext.drewN ?_ _ | with_reducible refine Ext.trans ?_ (by with_reducible assumption) | omega | (simp; done) | (simp; omega))⟩
      | true =>
        have hkk := cmdOk_kinds Hok2.out
        dsimp only at hkk
        have hrh := cellAt_range Hok.out ky
        rw [Hh.out] at hrh
        have hkks := Lib.hid (cmd_seats Hok.out Hok2.out Htt.out)
        obtain rfl : k1 = k3 := by rw [← Hk1.out, ← Hk3.out, hkks.out]
        obtain ⟨y, hy⟩ : ∃ y, cellAt M ky = y := ⟨_, rfl⟩
        have Hy := Lib.hid hy
        go_wp2_with fail
        refine (cellAt_i _ M ky _ w3.heap.size (by exact r3) (by omega) hkr).mono ?_
        rw [hy]
        rintro e w7 ⟨rfl, hE7⟩
        clear a_p0 a_f0 a_p1 a_f1 b_p0 b_f0 b_p1 b_f1 b_p2 b_f2 d_p0 d_f0 d_p1 d_f1
        replace a := a.ext hE7
        replace b := b.ext hE7
        replace d := d.ext hE7
        replace r1 := r1.keep (keepE' hE7 (by omega))
        replace r3 := r3.keep (keepE' hE7 (by omega))
        have zzw7 := hE7.size
        replace hX := hX.trans hE7
        clear hE7
        clear hy
        obtain ⟨a_p0, a_f0⟩ := a.at 0 _ rfl
        obtain ⟨a_p1, a_f1⟩ := a.at 1 _ rfl
        obtain ⟨b_p0, b_f0⟩ := b.at 0 _ rfl
        obtain ⟨b_p1, b_f1⟩ := b.at 1 _ rfl
        obtain ⟨b_p2, b_f2⟩ := b.at 2 _ rfl
        obtain ⟨d_p0, d_f0⟩ := d.at 0 _ rfl
        obtain ⟨d_p1, d_f1⟩ := d.at 1 _ rfl
        go_upto_block 0 with (fail)
        clear a_p0 a_f0 a_p1 a_f1 b_p0 b_f0 b_p1 b_f1 b_p2 b_f2 d_p0 d_f0 d_p1 d_f1
        go_cut [5] (fun hv wx => Ext w wx ∧ w3.heap.size ≤ wx.heap.size ∧ R_Image wx w1.heap.size (.agg #[.slice A1 n1 c1, .slice B1 k1 d1]) m ∧ R_Image wx w3.heap.size (.agg #[.slice A3 n3 c3, .slice B3 k1 d3]) M ∧ Blk wx w1.heap.size 32 [.slice A1 n1 c1, .slice B1 k1 d1] ∧ Blk wx (w1.heap.size + 1) 36 [.int .i64 kd, .int .i64 ky, .int .i64 vl] ∧ Blk wx w3.heap.size 32 [.slice A3 n3 c3, .slice B3 k1 d3])
        case first =>
          obtain ⟨a_p0, a_f0⟩ := a.at 0 _ rfl
          obtain ⟨a_p1, a_f1⟩ := a.at 1 _ rfl
          obtain ⟨b_p0, b_f0⟩ := b.at 0 _ rfl
          obtain ⟨b_p1, b_f1⟩ := b.at 1 _ rfl
          obtain ⟨b_p2, b_f2⟩ := b.at 2 _ rfl
          obtain ⟨d_p0, d_f0⟩ := d.at 0 _ rfl
          obtain ⟨d_p1, d_f1⟩ := d.at 1 _ rfl
          by_cases h4 : kd = 4
          · subst h4
            obtain ⟨e1, e2⟩ := cmd_drop Hok.out Hok2.out Htt.out rfl
            dsimp only at e1 e2
            rw [Hy.out] at e1
            rw [Hh.out] at e2
            subst e1 e2
            go_wp2_with fail
            go_meet
            exact ⟨hX, by omega, r1, r3, a, b, d⟩
          · have t4 : (kd == 4) = false := by simpa using h4
            by_cases hs : x = -1 ∨ kd = 1
            · have hMm : M = m := cmd_still Hok.out Hok2.out Htt.out hs h4
              subst hMm
              obtain rfl : h = y := by rw [← Hh.out, ← Hy.out]
              have t1 : (x == -1) = true ∨ ((x == -1) = false ∧ (kd == 1) = true) := by
                by_cases hx : x = -1
                · left; simpa using hx
                · right; exact ⟨by simpa using hx, by simpa using hs.resolve_left hx⟩
              clear hs h4
              rcases t1 with t1 | ⟨t1, t2⟩
              ·
                go_wp2_with fail
                refine (sameImage_i _ _ M M _ w3.heap.size w1.heap.size (by exact r3) (by omega) (by exact r1) (by omega)).mono ?_
                rw [decide_eq_true rfl]
                rintro e w8 ⟨rfl, hE8⟩
                clear a_p0 a_f0 a_p1 a_f1 b_p0 b_f0 b_p1 b_f1 b_p2 b_f2 d_p0 d_f0 d_p1 d_f1
                replace a := a.ext hE8
                replace b := b.ext hE8
                replace d := d.ext hE8
                replace r1 := r1.keep (keepE' hE8 (by omega))
                replace r3 := r3.keep (keepE' hE8 (by omega))
                have zzw8 := hE8.size
                replace hX := hX.trans hE8
                clear hE8
                obtain ⟨a_p0, a_f0⟩ := a.at 0 _ rfl
                obtain ⟨a_p1, a_f1⟩ := a.at 1 _ rfl
                obtain ⟨b_p0, b_f0⟩ := b.at 0 _ rfl
                obtain ⟨b_p1, b_f1⟩ := b.at 1 _ rfl
                obtain ⟨b_p2, b_f2⟩ := b.at 2 _ rfl
                obtain ⟨d_p0, d_f0⟩ := d.at 0 _ rfl
                obtain ⟨d_p1, d_f1⟩ := d.at 1 _ rfl
                go_wp2_with fail
                go_meet
                exact ⟨hX, by omega, r1, r3, a, b, d⟩
              ·
                go_wp2_with fail
                refine (sameImage_i _ _ M M _ w3.heap.size w1.heap.size (by exact r3) (by omega) (by exact r1) (by omega)).mono ?_
                rw [decide_eq_true rfl]
                rintro e w8b ⟨rfl, hE8b⟩
                clear a_p0 a_f0 a_p1 a_f1 b_p0 b_f0 b_p1 b_f1 b_p2 b_f2 d_p0 d_f0 d_p1 d_f1
                replace a := a.ext hE8b
                replace b := b.ext hE8b
                replace d := d.ext hE8b
                replace r1 := r1.keep (keepE' hE8b (by omega))
                replace r3 := r3.keep (keepE' hE8b (by omega))
                have zzw8b := hE8b.size
                replace hX := hX.trans hE8b
                clear hE8b
                obtain ⟨a_p0, a_f0⟩ := a.at 0 _ rfl
                obtain ⟨a_p1, a_f1⟩ := a.at 1 _ rfl
                obtain ⟨b_p0, b_f0⟩ := b.at 0 _ rfl
                obtain ⟨b_p1, b_f1⟩ := b.at 1 _ rfl
                obtain ⟨b_p2, b_f2⟩ := b.at 2 _ rfl
                obtain ⟨d_p0, d_f0⟩ := d.at 0 _ rfl
                obtain ⟨d_p1, d_f1⟩ := d.at 1 _ rfl
                go_wp2_with fail
                go_meet
                exact ⟨hX, by omega, r1, r3, a, b, d⟩
            · obtain ⟨hx1, hk1'⟩ := not_or.1 hs
              have t1 : (x == -1) = false := by simpa using hx1
              have t2 : (kd == 1) = false := by simpa using hk1'
              obtain ⟨e1, e2⟩ := cmd_put Hok.out Hok2.out Htt.out hx1 hk1' h4
              dsimp only at e1 e2
              rw [Hy.out] at e1
              rw [Hh.out] at e2
              subst e1
              by_cases h2 : kd = 2
              · rw [if_neg (by omega)] at e2
                subst e2
                subst h2
                clear hs h4 t4 t2
                go_wp2_with fail
                go_meet
                exact ⟨hX, by omega, r1, r3, a, b, d⟩
              · have t3 : (kd == 2) = false := by simpa using h2
                obtain rfl : kd = 3 := by omega
                rw [if_pos rfl] at e2
                clear hs h4 t4 t2 hx1 hk1' h2
                by_cases hh0 : h < 0
                · rw [show max h 0 = 0 by omega, Int.add_zero] at e2
                  have d1 : decide (h < 0) = true := by simpa using hh0
                  have hww : IntKind.i64.wrap (vl + 0) = vl := by rw [Int.add_zero]; exact IntWalk.i64_in _ (by omega)
                  subst e2
                  go_wp2_with fail
                  go_meet
                  exact ⟨hX, by omega, r1, r3, a, b, d⟩
                · rw [show max h 0 = h by omega] at e2
                  have d1 : decide (h < 0) = false := by simpa using hh0
                  have hww : IntKind.i64.wrap (vl + h) = vl + h := IntWalk.i64_in _ (by omega)
                  have hwx : y = vl + h := e2
                  have hwy : (y != vl + h) = false := by simp [hwx]
                  clear e2 hwx
                  go_wp2_with fail
                  go_meet
                  exact ⟨hX, by omega, r1, r3, a, b, d⟩
        clear a b d r1 r3 hX
        obtain ⟨hX, zzc, r1, r3, a, b, d⟩ := hcut
        rename World => wc
        have hz13 : w1.heap.size ≤ w3.heap.size := by omega
        go_wp2
        go_loopw [11] (fun iv wr => ∃ i : Nat, i ≤ n1 ∧ iv = .int .i64 i ∧ Ext w wr ∧ w3.heap.size ≤ wr.heap.size ∧ R_Image wr w1.heap.size (.agg #[.slice A1 n1 c1, .slice B1 k1 d1]) m ∧ R_Image wr w3.heap.size (.agg #[.slice A3 n3 c3, .slice B3 k1 d3]) M ∧ Blk wr w1.heap.size 32 [.slice A1 n1 c1, .slice B1 k1 d1] ∧ Blk wr (w1.heap.size + 1) 36 [.int .i64 kd, .int .i64 ky, .int .i64 vl] ∧ Blk wr w3.heap.size 32 [.slice A3 n3 c3, .slice B3 k1 d3]) (fun iv _ => n1 - (intOf iv).toNat)
        case atStart => exact ⟨0, by omega, rfl, hX, by omega, r1, r3, a, b, d⟩
        case round =>
          clear a b d r1 r3 hX
          obtain ⟨i, hi, rfl, hX, zzr, r1, r3, a, b, d⟩ := hrel
          by_cases hlt : i < n1
          · obtain ⟨c, hc⟩ : ∃ c, m.cells[i]? = some c := ⟨_, List.getElem?_eq_getElem (by rw [Hn1.out]; exact hlt)⟩
            have hlt' : (i : Int) < (n1 : Int) := by omega
            have hcv := Lib.hid (cellAt_row Hok.out hc)
            have hcr : -9223372036854775808 ≤ c.key ∧ c.key ≤ 9223372036854775807 := (imageOk_iff.1 Hok.out).cells.fits c (List.mem_of_getElem? hc)
            obtain ⟨b1, f1, rfl, hb1, cv0, cv1⟩ := r1.cellAt hc
            clear hc
            obtain ⟨a_p0, a_f0⟩ := a.at 0 _ rfl
            obtain ⟨a_p1, a_f1⟩ := a.at 1 _ rfl
            obtain ⟨b_p0, b_f0⟩ := b.at 0 _ rfl
            obtain ⟨b_p1, b_f1⟩ := b.at 1 _ rfl
            obtain ⟨b_p2, b_f2⟩ := b.at 2 _ rfl
            obtain ⟨d_p0, d_f0⟩ := d.at 0 _ rfl
            obtain ⟨d_p1, d_f1⟩ := d.at 1 _ rfl
            go_wp2_with fail
            by_cases hkq : c.key = ky
            · have t1 : (c.key != ky) = false := by simp [hkq]
              refine wp_region_held_drew (S := (fun w' => w'.cell? ⟨w1.heap.size + 1, 1, none⟩ = some (.int .i64 ky) ∧ w'.cell? ⟨w3.heap.size, 0, none⟩ = some (.slice A3 n3 c3) ∧ w'.cell? ⟨w3.heap.size, 1, none⟩ = some (.slice B3 k1 d3) ∧ w'.cell? ⟨w1.heap.size, 0, none⟩ = some (.slice (some ⟨b1, f1, none⟩) n1 c1) ∧ w'.cell? ⟨b1, f1 + i * 2 + 1, none⟩ = some (.int .i64 c.value))) (by kernel_rfl) ⟨b_p1, d_p0, d_p1, a_p0, cv1⟩ (fun hHeld => ?_)
              refine wpAnyH_take (i := 0) (v := ?_) rfl (by kernel_rfl) (by kernel_rfl) (by kernel_rfl) (fun _ _ _ h => h) (Or.inl ⟨by rfl, ?_⟩) (by assumption) ?_
              rotate_left
              · (intro w hSw; (try dsimp only at hSw); go_simp; (try with_reducible rfl))
              try simp only [Act.put, List.getElem_toArray, List.getElem_cons_zero, List.getElem_cons_succ, List.setIfInBounds_toArray, List.set_cons_zero, List.set_cons_succ]
              refine wpAnyH_take (i := 1) (v := ?_) rfl (by kernel_rfl) (by kernel_rfl) (by kernel_rfl) (fun _ _ _ h => h) (Or.inl ⟨by rfl, ?_⟩) (by assumption) ?_
              rotate_left
              · (intro w hSw; (try dsimp only at hSw); go_simp; (try with_reducible rfl))
              try simp only [Act.put, List.getElem_toArray, List.getElem_cons_zero, List.getElem_cons_succ, List.setIfInBounds_toArray, List.set_cons_zero, List.set_cons_succ]
              refine wpAnyH_take (i := 2) (v := ?_) rfl (by kernel_rfl) (by kernel_rfl) (by kernel_rfl) (fun _ _ _ h => h) (Or.inl ⟨by rfl, ?_⟩) (by assumption) ?_
              rotate_left
              · (intro w hSw; (try dsimp only at hSw); go_simp; (try with_reducible rfl))
              try simp only [Act.put, List.getElem_toArray, List.getElem_cons_zero, List.getElem_cons_succ, List.setIfInBounds_toArray, List.set_cons_zero, List.set_cons_succ]
              refine wpAnyH_take (i := 3) (v := ?_) rfl (by kernel_rfl) (by kernel_rfl) (by kernel_rfl) (fun _ _ _ h => h) (Or.inl ⟨by rfl, ?_⟩) (by assumption) ?_
              rotate_left
              · (intro w hSw; (try dsimp only at hSw); go_simp; (try with_reducible rfl))
              try simp only [Act.put, List.getElem_toArray, List.getElem_cons_zero, List.getElem_cons_succ, List.setIfInBounds_toArray, List.set_cons_zero, List.set_cons_succ]
              refine wpAnyH_take (i := 4) (v := ?_) rfl (by kernel_rfl) (by kernel_rfl) (by kernel_rfl) (fun _ _ _ h => h) (Or.inl ⟨by rfl, ?_⟩) (by assumption) ?_
              rotate_left
              · (intro w hSw; (try dsimp only at hSw); go_simp; (try with_reducible rfl))
              try simp only [Act.put, List.getElem_toArray, List.getElem_cons_zero, List.getElem_cons_succ, List.setIfInBounds_toArray, List.set_cons_zero, List.set_cons_succ]
              refine wpAnyH_take (i := 5) (v := undef) rfl (by kernel_rfl) (by kernel_rfl) (by kernel_rfl) (fun _ _ _ h => h) (Or.inr ⟨by rfl, rfl⟩) (by assumption) ?_
              try simp only [Act.put, List.getElem_toArray, List.getElem_cons_zero, List.getElem_cons_succ, List.setIfInBounds_toArray, List.set_cons_zero, List.set_cons_succ]
              refine wpAnyH_take (i := 6) (v := undef) rfl (by kernel_rfl) (by kernel_rfl) (by kernel_rfl) (fun _ _ _ h => h) (Or.inr ⟨by rfl, rfl⟩) (by assumption) ?_
              try simp only [Act.put, List.getElem_toArray, List.getElem_cons_zero, List.getElem_cons_succ, List.setIfInBounds_toArray, List.set_cons_zero, List.set_cons_succ]
              refine wpAnyH_take (i := 7) (v := undef) rfl (by kernel_rfl) (by kernel_rfl) (by kernel_rfl) (fun _ _ _ h => h) (Or.inr ⟨by rfl, rfl⟩) (by assumption) ?_
              try simp only [Act.put, List.getElem_toArray, List.getElem_cons_zero, List.getElem_cons_succ, List.setIfInBounds_toArray, List.set_cons_zero, List.set_cons_succ]
              refine wpAnyH_take (i := 8) (v := undef) rfl (by kernel_rfl) (by kernel_rfl) (by kernel_rfl) (fun _ _ _ h => h) (Or.inr ⟨by rfl, rfl⟩) (by assumption) ?_
              try simp only [Act.put, List.getElem_toArray, List.getElem_cons_zero, List.getElem_cons_succ, List.setIfInBounds_toArray, List.set_cons_zero, List.set_cons_succ]
              refine wpAnyH_take (i := 9) (v := undef) rfl (by kernel_rfl) (by kernel_rfl) (by kernel_rfl) (fun _ _ _ h => h) (Or.inr ⟨by rfl, rfl⟩) (by assumption) ?_
              try simp only [Act.put, List.getElem_toArray, List.getElem_cons_zero, List.getElem_cons_succ, List.setIfInBounds_toArray, List.set_cons_zero, List.set_cons_succ]
              refine wpAnyH_take (i := 10) (v := undef) rfl (by kernel_rfl) (by kernel_rfl) (by kernel_rfl) (fun _ _ _ h => h) (Or.inr ⟨by rfl, rfl⟩) (by assumption) ?_
              try simp only [Act.put, List.getElem_toArray, List.getElem_cons_zero, List.getElem_cons_succ, List.setIfInBounds_toArray, List.set_cons_zero, List.set_cons_succ]
              refine wpAnyH_take (i := 11) (v := undef) rfl (by kernel_rfl) (by kernel_rfl) (by kernel_rfl) (fun _ _ _ h => h) (Or.inr ⟨by rfl, rfl⟩) (by assumption) ?_
              try simp only [Act.put, List.getElem_toArray, List.getElem_cons_zero, List.getElem_cons_succ, List.setIfInBounds_toArray, List.set_cons_zero, List.set_cons_succ]
              refine wpAnyH_take (i := 12) (v := undef) rfl (by kernel_rfl) (by kernel_rfl) (by kernel_rfl) (fun _ _ _ h => h) (Or.inr ⟨by rfl, rfl⟩) (by assumption) ?_
              try simp only [Act.put, List.getElem_toArray, List.getElem_cons_zero, List.getElem_cons_succ, List.setIfInBounds_toArray, List.set_cons_zero, List.set_cons_succ]
              refine wpAnyH_take (i := 13) (v := undef) rfl (by kernel_rfl) (by kernel_rfl) (by kernel_rfl) (fun _ _ _ h => h) (Or.inr ⟨by rfl, rfl⟩) (by assumption) ?_
              try simp only [Act.put, List.getElem_toArray, List.getElem_cons_zero, List.getElem_cons_succ, List.setIfInBounds_toArray, List.set_cons_zero, List.set_cons_succ]
              refine wpAnyH_take (i := 14) (v := undef) rfl (by kernel_rfl) (by kernel_rfl) (by kernel_rfl) (fun _ _ _ h => h) (Or.inr ⟨by rfl, rfl⟩) (by assumption) ?_
              try simp only [Act.put, List.getElem_toArray, List.getElem_cons_zero, List.getElem_cons_succ, List.setIfInBounds_toArray, List.set_cons_zero, List.set_cons_succ]
              refine wpAnyH_take (i := 15) (v := ?_) rfl (by kernel_rfl) (by kernel_rfl) (by kernel_rfl) (fun _ _ _ h => h) (Or.inl ⟨by rfl, ?_⟩) (by assumption) ?_
              rotate_left
              · (intro w hSw; (try dsimp only at hSw); go_simp; (try with_reducible rfl))
              try simp only [Act.put, List.getElem_toArray, List.getElem_cons_zero, List.getElem_cons_succ, List.setIfInBounds_toArray, List.set_cons_zero, List.set_cons_succ]
              refine wpAnyH_done (by kernel_rfl) ?_ _
              clear hHeld
              clear a_p0 a_f0 a_p1 a_f1 b_p0 b_f0 b_p1 b_f1 b_p2 b_f2 d_p0 d_f0 d_p1 d_f1
              have hEd : Ext wr wr.drew := (Ext.refl _).drew
              replace a := a.ext hEd
              replace b := b.ext hEd
              replace d := d.ext hEd
              replace r1 := r1.keep (keepE' hEd (by omega))
              replace r3 := r3.keep (keepE' hEd (by omega))
              have zzd := hEd.size
              replace hX := hX.trans hEd
              clear hEd
              go_wp2
              go_roundw
              case rel => exact ⟨i + 1, by omega, by go_num, hX, by omega, r1, r3, a, b, d⟩
              case measure => simp [intOf]; omega
            · have t1 : (c.key != ky) = true := by simpa using hkq
              have hce : cellAt M c.key = c.value := (cmd_other Hok.out Hok2.out Htt.out (by exact hkq)).trans hcv.out
              refine wp_region_held_drew (S := (fun w' => w'.cell? ⟨w1.heap.size + 1, 1, none⟩ = some (.int .i64 ky) ∧ w'.cell? ⟨w3.heap.size, 0, none⟩ = some (.slice A3 n3 c3) ∧ w'.cell? ⟨w3.heap.size, 1, none⟩ = some (.slice B3 k1 d3) ∧ w'.cell? ⟨w1.heap.size, 0, none⟩ = some (.slice (some ⟨b1, f1, none⟩) n1 c1) ∧ w'.cell? ⟨b1, f1 + i * 2 + 1, none⟩ = some (.int .i64 c.value))) (by kernel_rfl) ⟨b_p1, d_p0, d_p1, a_p0, cv1⟩ (fun hHeld => ?_)
              refine wpAnyH_take (i := 0) (v := ?_) rfl (by kernel_rfl) (by kernel_rfl) (by kernel_rfl) (fun _ _ _ h => h) (Or.inl ⟨by rfl, ?_⟩) (by assumption) ?_
              rotate_left
              · (intro w hSw; (try dsimp only at hSw); go_simp; (try with_reducible rfl))
              try simp only [Act.put, List.getElem_toArray, List.getElem_cons_zero, List.getElem_cons_succ, List.setIfInBounds_toArray, List.set_cons_zero, List.set_cons_succ]
              refine wpAnyH_take (i := 1) (v := ?_) rfl (by kernel_rfl) (by kernel_rfl) (by kernel_rfl) (fun _ _ _ h => h) (Or.inl ⟨by rfl, ?_⟩) (by assumption) ?_
              rotate_left
              · (intro w hSw; (try dsimp only at hSw); go_simp; (try with_reducible rfl))
              try simp only [Act.put, List.getElem_toArray, List.getElem_cons_zero, List.getElem_cons_succ, List.setIfInBounds_toArray, List.set_cons_zero, List.set_cons_succ]
              refine wpAnyH_take (i := 2) (v := ?_) rfl (by kernel_rfl) (by kernel_rfl) (by kernel_rfl) (fun _ _ _ h => h) (Or.inl ⟨by rfl, ?_⟩) (by assumption) ?_
              rotate_left
              · (intro w hSw; (try dsimp only at hSw); go_simp; (try with_reducible rfl))
              try simp only [Act.put, List.getElem_toArray, List.getElem_cons_zero, List.getElem_cons_succ, List.setIfInBounds_toArray, List.set_cons_zero, List.set_cons_succ]
              refine wpAnyH_take (i := 3) (v := ?_) rfl (by kernel_rfl) (by kernel_rfl) (by kernel_rfl) (fun _ _ _ h => h) (Or.inl ⟨by rfl, ?_⟩) (by assumption) ?_
              rotate_left
              · (intro w hSw; (try dsimp only at hSw); go_simp; (try with_reducible rfl))
              try simp only [Act.put, List.getElem_toArray, List.getElem_cons_zero, List.getElem_cons_succ, List.setIfInBounds_toArray, List.set_cons_zero, List.set_cons_succ]
              refine wpAnyH_take (i := 4) (v := ?_) rfl (by kernel_rfl) (by kernel_rfl) (by kernel_rfl) (fun _ _ _ h => h) (Or.inl ⟨by rfl, ?_⟩) (by assumption) ?_
              rotate_left
              · (intro w hSw; (try dsimp only at hSw); go_simp; (try with_reducible rfl))
              try simp only [Act.put, List.getElem_toArray, List.getElem_cons_zero, List.getElem_cons_succ, List.setIfInBounds_toArray, List.set_cons_zero, List.set_cons_succ]
              refine wpAnyH_take (i := 5) (v := ?_) rfl (by kernel_rfl) (by kernel_rfl) (by kernel_rfl) (fun _ _ _ h => h) (Or.inl ⟨by rfl, ?_⟩) (by assumption) ?_
              rotate_left
              · (intro w hSw; (try dsimp only at hSw); go_simp; (try with_reducible rfl))
              try simp only [Act.put, List.getElem_toArray, List.getElem_cons_zero, List.getElem_cons_succ, List.setIfInBounds_toArray, List.set_cons_zero, List.set_cons_succ]
              refine wpAnyH_take (i := 6) (v := ?_) rfl (by kernel_rfl) (by kernel_rfl) (by kernel_rfl) (fun _ _ _ h => h) (Or.inl ⟨by rfl, ?_⟩) (by assumption) ?_
              rotate_left
              · (intro w hSw; (try dsimp only at hSw); go_simp; (try with_reducible rfl))
              try simp only [Act.put, List.getElem_toArray, List.getElem_cons_zero, List.getElem_cons_succ, List.setIfInBounds_toArray, List.set_cons_zero, List.set_cons_succ]
              refine wpAnyH_take (i := 8) (v := ?_) rfl (by kernel_rfl) (by kernel_rfl) (by kernel_rfl) (fun _ _ _ h => h) (Or.inl ⟨by rfl, ?_⟩) (by assumption) ?_
              rotate_left
              · (intro w hSw; (try dsimp only at hSw); go_simp; (try with_reducible rfl))
              try simp only [Act.put, List.getElem_toArray, List.getElem_cons_zero, List.getElem_cons_succ, List.setIfInBounds_toArray, List.set_cons_zero, List.set_cons_succ]
              refine wpAnyH_take (i := 9) (v := ?_) rfl (by kernel_rfl) (by kernel_rfl) (by kernel_rfl) (fun _ _ _ h => h) (Or.inl ⟨by rfl, ?_⟩) (by assumption) ?_
              rotate_left
              · (intro w hSw; (try dsimp only at hSw); go_simp; (try with_reducible rfl))
              try simp only [Act.put, List.getElem_toArray, List.getElem_cons_zero, List.getElem_cons_succ, List.setIfInBounds_toArray, List.set_cons_zero, List.set_cons_succ]
              refine wpAnyH_take (i := 10) (v := ?_) rfl (by kernel_rfl) (by kernel_rfl) (by kernel_rfl) (fun _ _ _ h => h) (Or.inl ⟨by rfl, ?_⟩) (by assumption) ?_
              rotate_left
              · (intro w hSw; (try dsimp only at hSw); go_simp; (try with_reducible rfl))
              try simp only [Act.put, List.getElem_toArray, List.getElem_cons_zero, List.getElem_cons_succ, List.setIfInBounds_toArray, List.set_cons_zero, List.set_cons_succ]
              refine wpAnyH_take (i := 11) (v := ?_) rfl (by kernel_rfl) (by kernel_rfl) (by kernel_rfl) (fun _ _ _ h => h) (Or.inl ⟨by rfl, ?_⟩) (by assumption) ?_
              rotate_left
              · (intro w hSw; (try dsimp only at hSw); go_simp; (try with_reducible rfl))
              try simp only [Act.put, List.getElem_toArray, List.getElem_cons_zero, List.getElem_cons_succ, List.setIfInBounds_toArray, List.set_cons_zero, List.set_cons_succ]
              refine wpAnyH_take (i := 12) (v := ?_) rfl (by kernel_rfl) (by kernel_rfl) (by kernel_rfl) (fun _ _ _ h => h) (Or.inl ⟨by rfl, ?_⟩) (by assumption) ?_
              rotate_left
              · (intro w hSw; (try dsimp only at hSw); go_simp; (try with_reducible rfl))
              try simp only [Act.put, List.getElem_toArray, List.getElem_cons_zero, List.getElem_cons_succ, List.setIfInBounds_toArray, List.set_cons_zero, List.set_cons_succ]
              refine wpAnyH_take (i := 13) (v := ?_) rfl (by kernel_rfl) (by kernel_rfl) (by kernel_rfl) (fun _ _ _ h => h) (Or.inl ⟨by rfl, ?_⟩) (by assumption) ?_
              rotate_left
              · (intro w hSw; (try dsimp only at hSw); go_simp; (try with_reducible rfl))
              try simp only [Act.put, List.getElem_toArray, List.getElem_cons_zero, List.getElem_cons_succ, List.setIfInBounds_toArray, List.set_cons_zero, List.set_cons_succ]
              refine wpAnyH_ready (rs := [7]) (by kernel_rfl) (by simp) ?_
              refine AllReadyH.cons rfl (fun K hK => ?_) AllReadyH.nil
              go_simp
              go_at_call 20
              refine (cellAt_i _ M c.key _ w3.heap.size (by exact r3) (by first | omega | (simp; omega)) hcr).mono ?_
              rw [hce]
              rintro e w8 ⟨rfl, hE⟩
              have hE8 : Ext wr w8 := ((Ext.refl _).drew).trans hE
              (try dsimp only)
              refine hK.out _ _ ⟨Ext.cellAt hE8 b_p1, Ext.cellAt hE8 d_p0, Ext.cellAt hE8 d_p1, Ext.cellAt hE8 a_p0, Ext.cellAt hE8 cv1⟩ (fun hHeld => ?_)
              clear hK K
              try simp only [Act.put, List.getElem_toArray, List.getElem_cons_zero, List.getElem_cons_succ, List.setIfInBounds_toArray, List.set_cons_zero, List.set_cons_succ]
              refine wpAnyH_take (i := 14) (v := ?_) rfl (by kernel_rfl) (by kernel_rfl) (by kernel_rfl) (fun _ _ _ h => h) (Or.inl ⟨by rfl, ?_⟩) (by assumption) ?_
              rotate_left
              · (intro w hSw; (try dsimp only at hSw); go_simp; (try with_reducible rfl))
              try simp only [Act.put, List.getElem_toArray, List.getElem_cons_zero, List.getElem_cons_succ, List.setIfInBounds_toArray, List.set_cons_zero, List.set_cons_succ]
              refine wpAnyH_take (i := 15) (v := ?_) rfl (by kernel_rfl) (by kernel_rfl) (by kernel_rfl) (fun _ _ _ h => h) (Or.inl ⟨by rfl, ?_⟩) (by assumption) ?_
              rotate_left
              · (intro w hSw; (try dsimp only at hSw); go_simp; (try with_reducible rfl))
              try simp only [Act.put, List.getElem_toArray, List.getElem_cons_zero, List.getElem_cons_succ, List.setIfInBounds_toArray, List.set_cons_zero, List.set_cons_succ]
              refine wpAnyH_done (by kernel_rfl) ?_ _
              clear hHeld
              clear a_p0 a_f0 a_p1 a_f1 b_p0 b_f0 b_p1 b_f1 b_p2 b_f2 d_p0 d_f0 d_p1 d_f1
              clear hE hce
              replace a := a.ext hE8
              replace b := b.ext hE8
              replace d := d.ext hE8
              replace r1 := r1.keep (keepE' hE8 (by omega))
              replace r3 := r3.keep (keepE' hE8 (by omega))
              have zzw8 := hE8.size
              replace hX := hX.trans hE8
              clear hE8
              go_wp2
              go_roundw
              case rel => exact ⟨i + 1, by omega, by go_num, hX, by omega, r1, r3, a, b, d⟩
              case measure => simp [intOf]; omega
          · obtain rfl : n1 = i := by omega
            obtain ⟨a_p0, a_f0⟩ := a.at 0 _ rfl
            obtain ⟨a_p1, a_f1⟩ := a.at 1 _ rfl
            obtain ⟨b_p0, b_f0⟩ := b.at 0 _ rfl
            obtain ⟨b_p1, b_f1⟩ := b.at 1 _ rfl
            obtain ⟨b_p2, b_f2⟩ := b.at 2 _ rfl
            obtain ⟨d_p0, d_f0⟩ := d.at 0 _ rfl
            obtain ⟨d_p1, d_f1⟩ := d.at 1 _ rfl
            go_wp2
            go_ret
            exact ⟨rfl, hX⟩

set_option maxRecDepth 100000 in
theorem lifted (os : Os) (started : os.Started) (H : Type) (enc : TypeId × Value → H) :
    ReturnsInHanded {} Try.checked os 4 .any (Rows.fnCmdsSpec.pre6 enc Try.prog Try.f4 Rows.fnCmdsRow.domain false) (Rows.fnCmdsSpec.post enc Try.prog Try.f4 false true false false) := by
  refine returnsInHanded_of_change (C := Try.checked) own started (by kernel_rfl) Try.func4
    (ChangeSpec.witness6 (enc := enc) (C := Try.checked) false ⟨#[], #[.slice none 0 0], []⟩ 8 (by kernel_rfl) (by kernel_rfl) (by kernel_rfl) (by kernel_rfl)) ?_
  intro W base args ds gs before hval0 hW hcnd _
  have hval : ∀ (j : Nat) t v, Try.f4.params[j]? = some t → args[j]? = some v → Value.okWide Try.prog W .any base t v := hval0
  have hW' := hW
  obtain ⟨p, q, hA0, hV, rfl, hfz, hnd⟩ := hW
  have hA : DataW.TrodAll enc Try.prog W 0 (fun _ => true) true Try.f4.params.toList args.toList ds p := hA0
  rw [Try.params4] at hA hval
  obtain ⟨vv0, vs0, dd0, ds0, pp0, qq0, hargs, rfl, rfl, ht0, rr0⟩ := trodAll_cons hA
  obtain ⟨rfl, rfl, rfl⟩ := trodAll_nil rr0
  obtain rfl : args = #[vv0] := by cases args; simp_all
  obtain ⟨rfl, rfl⟩ := trodVars_none hV
  have trd0 := ht0
  have lts0 : ∀ x ∈ pp0, x.block < W.heap.size := by obtain ⟨m, hm⟩ := trd0; exact DataW.trod_lt m _ _ _ hm
  obtain ⟨l0, r0⟩ := open_ByteS_arg (hval 0 41 vv0 rfl rfl) ht0
  clear hA0 hval0
  refine (walk vv0  l0  W r0).mono fun e W' ⟨he, bel⟩ => ?_
  subst he
  exact ⟨_, rfl, _, _, _, [], _, [], hW', trodAll_mk1 (shut_bool Try.underlying4 _), (trodAll_cons_mk (Below.trod laidOut (by kernel_rfl) (of_decide_eq_true (by kernel_rfl)) trd0 bel lts0) trodAll_mk0), rfl, Below.frame bel _, fun h => by cases h⟩

theorem over : Rows.fnCmdsRow.holds Try.pinned (OpenSpec.ofChange Rows.fnCmdsSpec) :=
  OpenClaim.holds_of_wide 4 Try.f4 rfl rfl rfl rfl rfl rfl rfl ⟨rfl, rfl, rfl, rfl, rfl⟩ rfl rfl rfl rfl rfl (by as_aux_lemma => kernel_rfl) Try.func4 (by as_aux_lemma => kernel_rfl)
    (of_decide_eq_true (by as_aux_lemma => kernel_rfl)) (by as_aux_lemma => unfold Func.isWrapper; first | (rw [if_pos (by decide +kernel)]; kernel_rfl) | (rw [if_neg (by decide +kernel)]; exact ⟨rfl, rfl⟩))
    (fun os started H enc _ => lifted os started H enc)

theorem proved : Rows.FnCmdsSaid := over
#print axioms proved
end Go.Proofs.Ytacbcnobenffdaa.fnCmds
