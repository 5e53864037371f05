/-
  FnCut returns true for every input: a drawn log that is cut at a number and gets the entries from there on again is the log.
  Conditions: none: for every argument, in whatever memory.
-/
import Derived.Test.YtocmcfilldfdlaaOpen
import Derived.Test.YtocmcfilldfdlaaBytes
import Derived.Test.YtocmcfilldfdlaaDrawP
import Derived.Test.YtocmcfilldfdlaaBig
import Derived.Test.YtocmcfilldfdlaaSameLog
import Derived.Test.YtocmcfilldfdlaaLogPut
import Derived.Deep.DeepCutAuto
import Derived.IntWalk
namespace Go.Proofs.Ytocmcfilldfdlaa.fnCut
open Go.ChangeShapes Go.WideShapes Go.ChangeAt Go.RowKit
set_option linter.unusedVariables false
set_option maxRecDepth 1000000

set_option maxRecDepth 100000 in
set_option maxHeartbeats 16000000 in
theorem walk (vv0 : Value) (l0 : List UInt8) (w : World) (r0 : R_ByteS w w.heap.size vv0 l0) :
    Calls Try.prog 8 #[vv0] w fun e w' => e = .returned (.bool true) ∧ Ext w w' := by
  obtain ⟨A0, n0, c0, rfl, hl0, hnc0, hcm0, hr0⟩ := r0
  by_cases hbig : 1048576 < n0
  · go_enter Try.func8, Try.ntmps8
    go_wp2_with fail
    refine (bigU_any A0 n0 c0 _).mono ?_
    rw [decide_eq_true hbig]
    rintro e w1 ⟨rfl, rfl⟩
    go_wp2
    go_ret
    exact ⟨rfl, Ext.refl _⟩
  · go_enter Try.func8, Try.ntmps8
    go_wp2_with fail
    refine (bigU_any A0 n0 c0 _).mono ?_
    rw [decide_eq_false hbig]
    rintro e w0 ⟨rfl, rfl⟩
    go_wp2_with fail
    refine (drawLogUpto_s A0 n0 c0 l0 _ hr0 hl0 (by omega)).mono ?_
    rintro e w1 ⟨v1, l, n, hnr, rfl, o1, hsm, hX⟩
    obtain ⟨A1, n1, c1, B1, k1, d1, C1, m1, e1, rfl, hn1, hk1, hm1⟩ := o1.form
    have r1 : R_Log w1 w1.heap.size (.agg #[.int .i64 (l).base, .slice A1 n1 c1, .slice B1 k1 d1, .slice C1 m1 e1]) l := o1.rd
    clear o1
    have hm61 : m1 ≤ 61 := by have := hsm.ent; omega
    have Hm1 := Lib.hid hm1
    clear hn1 hk1 hm1 hsm
    have zzw1 := Nat.le_refl w1.heap.size
    have hzw1 := hX.size
    have hnf : -9223372036854775808 ≤ n ∧ n ≤ 9223372036854775807 := by omega
    have hW1 : Ext w1 (w1.alloc (.cells #[.int .i64 (l).base, .slice A1 n1 c1, .slice B1 k1 d1, .slice C1 m1 e1] 37)) := by repeat' (first | with_reducible exact Ext.refl _ | with_reducible assumption | with_reducible refine Ext.set ?_ ?_ _ _ | with_reducible refine Ext.alloc ?_ _ | with_reducible refine Ext.drew ?_ | with_reducible refine Ext.drewN ?_ _ | with_reducible refine Ext.trans ?_ (by with_reducible assumption) | omega | (simp; done) | (simp; omega))
    have zW1 : w1.heap.size + 1 ≤ (w1.alloc (.cells #[.int .i64 (l).base, .slice A1 n1 c1, .slice B1 k1 d1, .slice C1 m1 e1] 37)).heap.size := by simp
    have a : Blk (w1.alloc (.cells #[.int .i64 (l).base, .slice A1 n1 c1, .slice B1 k1 d1, .slice C1 m1 e1] 37)) w1.heap.size 37 [.int .i64 (l).base, .slice A1 n1 c1, .slice B1 k1 d1, .slice C1 m1 e1] := (Blk.new w1 #[.int .i64 (l).base, .slice A1 n1 c1, .slice B1 k1 d1, .slice C1 m1 e1] 37 (by first | rfl | simp))
    go_upto_region 4 with (fail)
    replace r1 := r1.keep (keepE' hW1 (by omega))
    have zzW1 := hW1.size
    replace hX := hX.trans hW1
    clear hW1
    generalize (w1.alloc (.cells #[.int .i64 (l).base, .slice A1 n1 c1, .slice B1 k1 d1, .slice C1 m1 e1] 37)) = W1 at *
    obtain ⟨a_p0, a_f0⟩ := a.at 0 _ rfl
    obtain ⟨a_p1, a_f1⟩ := a.at 1 _ rfl
    obtain ⟨a_p2, a_f2⟩ := a.at 2 _ rfl
    obtain ⟨a_p3, a_f3⟩ := a.at 3 _ rfl
    obtain ⟨tt, htt⟩ : ∃ tt, logUpto l n = tt := ⟨_, rfl⟩
    obtain ⟨F, ok⟩ := tt
    have Htt := Lib.hid htt
    obtain ⟨t2, ht2⟩ : ∃ t2, logFrom l n = t2 := ⟨_, rfl⟩
    obtain ⟨T, ok2⟩ := t2
    have Ht2 := Lib.hid ht2
    go_wp2_with fail
    refine (logUpto_i _ l n _ w1.heap.size (by exact r1) (by omega) hnf).mono ?_
    rw [htt]
    rintro e w2 ⟨v2, rfl, o2, hE2⟩
    obtain ⟨A2, n2, c2, B2, k2, d2, C2, m2, e2, rfl, hn2, hk2, hm2⟩ := o2.form
    clear hn2 hk2 hm2
    have oh := o2
    clear o2
    clear a_p0 a_f0 a_p1 a_f1 a_p2 a_f2 a_p3 a_f3
    replace a := a.ext hE2
    replace r1 := r1.keep (keepE' hE2 (by omega))
    have zzw2 := hE2.size
    replace hX := hX.trans hE2
    clear hE2
    have hW2 : Ext w2 (w2.alloc (.cells #[.int .i64 (F).base, .slice A2 n2 c2, .slice B2 k2 d2, .slice C2 m2 e2] 37)) := by repeat' (first | with_reducible exact Ext.refl _ | with_reducible assumption | with_reducible refine Ext.set ?_ ?_ _ _ | with_reducible refine Ext.alloc ?_ _ | with_reducible refine Ext.drew ?_ | with_reducible refine Ext.drewN ?_ _ | with_reducible refine Ext.trans ?_ (by with_reducible assumption) | omega | (simp; done) | (simp; omega))
    have zW2 : w2.heap.size + 1 ≤ (w2.alloc (.cells #[.int .i64 (F).base, .slice A2 n2 c2, .slice B2 k2 d2, .slice C2 m2 e2] 37)).heap.size := by simp
    have f : Blk (w2.alloc (.cells #[.int .i64 (F).base, .slice A2 n2 c2, .slice B2 k2 d2, .slice C2 m2 e2] 37)) w2.heap.size 37 [.int .i64 (F).base, .slice A2 n2 c2, .slice B2 k2 d2, .slice C2 m2 e2] := (Blk.new w2 #[.int .i64 (F).base, .slice A2 n2 c2, .slice B2 k2 d2, .slice C2 m2 e2] 37 (by first | rfl | simp))
    obtain ⟨a_p0, a_f0⟩ := a.at 0 _ rfl
    obtain ⟨a_p1, a_f1⟩ := a.at 1 _ rfl
    obtain ⟨a_p2, a_f2⟩ := a.at 2 _ rfl
    obtain ⟨a_p3, a_f3⟩ := a.at 3 _ rfl
    go_upto_region 5 with (fail)
    clear a_p0 a_f0 a_p1 a_f1 a_p2 a_f2 a_p3 a_f3
    replace oh := oh.keep (keepE hW2 (by omega))
    replace a := a.ext hW2
    replace r1 := r1.keep (keepE' hW2 (by omega))
    have zzW2 := hW2.size
    replace hX := hX.trans hW2
    clear hW2
    generalize (w2.alloc (.cells #[.int .i64 (F).base, .slice A2 n2 c2, .slice B2 k2 d2, .slice C2 m2 e2] 37)) = W2 at *
    obtain ⟨a_p0, a_f0⟩ := a.at 0 _ rfl
    obtain ⟨a_p1, a_f1⟩ := a.at 1 _ rfl
    obtain ⟨a_p2, a_f2⟩ := a.at 2 _ rfl
    obtain ⟨a_p3, a_f3⟩ := a.at 3 _ rfl
    obtain ⟨f_p0, f_f0⟩ := f.at 0 _ rfl
    obtain ⟨f_p1, f_f1⟩ := f.at 1 _ rfl
    obtain ⟨f_p2, f_f2⟩ := f.at 2 _ rfl
    obtain ⟨f_p3, f_f3⟩ := f.at 3 _ rfl
    go_wp2_with fail
    refine (logFrom_i _ l n _ w1.heap.size (by exact r1) (by omega) hnf).mono ?_
    rw [ht2]
    rintro e w3 ⟨v3, rfl, o3, hE3⟩
    obtain ⟨A3, n3, c3, rfl, hl3, -⟩ := id o3
    have ot := o3
    have Hl3 := Lib.hid hl3
    clear o3 hl3 ht2
    clear a_p0 a_f0 a_p1 a_f1 a_p2 a_f2 a_p3 a_f3 f_p0 f_f0 f_p1 f_f1 f_p2 f_f2 f_p3 f_f3
    replace oh := oh.keep (keepE hE3 (by omega))
    replace a := a.ext hE3
    replace f := f.ext hE3
    replace r1 := r1.keep (keepE' hE3 (by omega))
    have zzw3 := hE3.size
    replace hX := hX.trans hE3
    clear hE3
    obtain ⟨a_p0, a_f0⟩ := a.at 0 _ rfl
    obtain ⟨a_p1, a_f1⟩ := a.at 1 _ rfl
    obtain ⟨a_p2, a_f2⟩ := a.at 2 _ rfl
    obtain ⟨a_p3, a_f3⟩ := a.at 3 _ rfl
    obtain ⟨f_p0, f_f0⟩ := f.at 0 _ rfl
    obtain ⟨f_p1, f_f1⟩ := f.at 1 _ rfl
    obtain ⟨f_p2, f_f2⟩ := f.at 2 _ rfl
    obtain ⟨f_p3, f_f3⟩ := f.at 3 _ rfl
    go_wp2_with fail
    refine (logUpto_s _ l n _ w1.heap.size (by exact r1) (by omega) hnf).mono ?_
    rw [htt]
    rintro e w4 ⟨v4, rfl, o4, hE4⟩
    obtain ⟨A4, n4, c4, B4, k4, d4, C4, m4, e4, rfl, -, -, -⟩ := o4.form
    clear o4 htt
    clear a_p0 a_f0 a_p1 a_f1 a_p2 a_f2 a_p3 a_f3 f_p0 f_f0 f_p1 f_f1 f_p2 f_f2 f_p3 f_f3
    replace oh := oh.keep (keepE hE4 (by omega))
    replace ot := ot.keep (keepE hE4 (by omega))
    replace a := a.ext hE4
    replace f := f.ext hE4
    replace r1 := r1.keep (keepE' hE4 (by omega))
    have zzw4 := hE4.size
    replace hX := hX.trans hE4
    clear hE4
    have hW4 : Ext w4 (w4.alloc (.cells #[.int .i64 (F).base, .slice A4 n4 c4, .slice B4 k4 d4, .slice C4 m4 e4] 37)) := by repeat' (first | with_reducible exact Ext.refl _ | with_reducible assumption | with_reducible refine Ext.set ?_ ?_ _ _ | with_reducible refine Ext.alloc ?_ _ | with_reducible refine Ext.drew ?_ | with_reducible refine Ext.drewN ?_ _ | with_reducible refine Ext.trans ?_ (by with_reducible assumption) | omega | (simp; done) | (simp; omega))
    have zW4 : w4.heap.size + 1 ≤ (w4.alloc (.cells #[.int .i64 (F).base, .slice A4 n4 c4, .slice B4 k4 d4, .slice C4 m4 e4] 37)).heap.size := by simp
    have g : Blk (w4.alloc (.cells #[.int .i64 (F).base, .slice A4 n4 c4, .slice B4 k4 d4, .slice C4 m4 e4] 37)) w4.heap.size 37 [.int .i64 (F).base, .slice A4 n4 c4, .slice B4 k4 d4, .slice C4 m4 e4] := (Blk.new w4 #[.int .i64 (F).base, .slice A4 n4 c4, .slice B4 k4 d4, .slice C4 m4 e4] 37 (by first | rfl | simp))
    obtain ⟨a_p0, a_f0⟩ := a.at 0 _ rfl
    obtain ⟨a_p1, a_f1⟩ := a.at 1 _ rfl
    obtain ⟨a_p2, a_f2⟩ := a.at 2 _ rfl
    obtain ⟨a_p3, a_f3⟩ := a.at 3 _ rfl
    obtain ⟨f_p0, f_f0⟩ := f.at 0 _ rfl
    obtain ⟨f_p1, f_f1⟩ := f.at 1 _ rfl
    obtain ⟨f_p2, f_f2⟩ := f.at 2 _ rfl
    obtain ⟨f_p3, f_f3⟩ := f.at 3 _ rfl
    go_upto_region 7 with (fail)
    clear a_p0 a_f0 a_p1 a_f1 a_p2 a_f2 a_p3 a_f3 f_p0 f_f0 f_p1 f_f1 f_p2 f_f2 f_p3 f_f3
    replace oh := oh.keep (keepE hW4 (by omega))
    replace ot := ot.keep (keepE hW4 (by omega))
    replace a := a.ext hW4
    replace f := f.ext hW4
    replace r1 := r1.keep (keepE' hW4 (by omega))
    have zzW4 := hW4.size
    replace hX := hX.trans hW4
    clear hW4
    generalize (w4.alloc (.cells #[.int .i64 (F).base, .slice A4 n4 c4, .slice B4 k4 d4, .slice C4 m4 e4] 37)) = W4 at *
    obtain ⟨a_p0, a_f0⟩ := a.at 0 _ rfl
    obtain ⟨a_p1, a_f1⟩ := a.at 1 _ rfl
    obtain ⟨a_p2, a_f2⟩ := a.at 2 _ rfl
    obtain ⟨a_p3, a_f3⟩ := a.at 3 _ rfl
    obtain ⟨f_p0, f_f0⟩ := f.at 0 _ rfl
    obtain ⟨f_p1, f_f1⟩ := f.at 1 _ rfl
    obtain ⟨f_p2, f_f2⟩ := f.at 2 _ rfl
    obtain ⟨f_p3, f_f3⟩ := f.at 3 _ rfl
    obtain ⟨g_p0, g_f0⟩ := g.at 0 _ rfl
    obtain ⟨g_p1, g_f1⟩ := g.at 1 _ rfl
    obtain ⟨g_p2, g_f2⟩ := g.at 2 _ rfl
    obtain ⟨g_p3, g_f3⟩ := g.at 3 _ rfl
    clear g_p0 g_f0 g_p1 g_f1 g_p2 g_f2 g_p3 g_f3
    clear g
    obtain ⟨hn, hhn⟩ : ∃ hn, hasNum l n = hn := ⟨_, rfl⟩
    cases hn with
    | false =>
      have h2 := Htt.out
      rw [logUpto_no hhn] at h2
      injection h2 with h2 h3
      subst h3
      have h4 := Ht2.out
      rw [logFrom_no hhn] at h4
      injection h4 with h4 h5
      subst h4 h5
      obtain rfl : 0 = n3 := Hl3.out
      clear h2 hhn
      go_wp2_with fail
      clear a_p0 a_f0 a_p1 a_f1 a_p2 a_f2 a_p3 a_f3 f_p0 f_f0 f_p1 f_f1 f_p2 f_f2 f_p3 f_f3
      refine (logEnd_i _ ⟨0, ⟨[], []⟩, []⟩ _ 0 (by exact ⟨_, _, _, rfl, RdS.nil, RdS.nil, RdS.nil⟩) (by simp)).mono ?_
      rw [show logEnd ⟨0, ⟨[], []⟩, []⟩ = 0 by decide]
      rintro e w5 ⟨rfl, hE5⟩
      go_wp2
      go_ret
      exact ⟨rfl, hX.trans hE5⟩
    | true =>
      obtain ⟨hg, j0, rfl, hj0⟩ := hasNum_parts hhn
      have h2 := Htt.out
      rw [logUpto_in hhn] at h2
      injection h2 with h2 h3
      subst h3
      subst h2
      have h4 := Ht2.out
      rw [logFrom_in hhn] at h4
      injection h4 with h4 h5
      subst h4 h5
      have Hg := Lib.hid hg
      rw [Hm1.out] at hj0
      have hl3 : Hid (m1 = j0 + n3) := by show _ = _; have := Hl3.out; rw [List.length_drop, Hm1.out] at this; omega
      have hb0 := hg.base
      have hb1 := hg.last
      rw [Hm1.out] at hb1
      have hn3 : n3 ≤ 61 := by have := hl3.out; omega
      clear hg hhn
      go_wp2
      go_loopw [11] (fun iv wr => ∃ i : Nat, i ≤ n3 ∧ iv = .int .i64 i ∧ Ext w wr ∧ w3.heap.size ≤ wr.heap.size ∧ R_Log wr w1.heap.size (.agg #[.int .i64 (l).base, .slice A1 n1 c1, .slice B1 k1 d1, .slice C1 m1 e1]) l ∧ O_EntryS wr w1.heap.size w3.heap.size (.slice A3 n3 c3) (l.entries.drop j0) ∧ Blk wr w1.heap.size 37 [.int .i64 (l).base, .slice A1 n1 c1, .slice B1 k1 d1, .slice C1 m1 e1] ∧ ∃ Ah nh ch Bh kh dh Ch mh eh, Blk wr w2.heap.size 37 [.int .i64 l.base, .slice Ah nh ch, .slice Bh kh dh, .slice Ch mh eh] ∧ O_Log wr w1.heap.size wr.heap.size (.agg #[.int .i64 l.base, .slice Ah nh ch, .slice Bh kh dh, .slice Ch mh eh]) ⟨l.base, l.image, l.entries.take (j0 + i)⟩) (fun iv _ => n3 - (intOf iv).toNat)
      case atStart => exact ⟨0, by omega, rfl, hX, by omega, r1, ot.wide (by omega) (Nat.le_refl _), a, _, _, _, _, _, _, _, _, _, f, oh.wide (by omega) (by omega)⟩
      case round =>
        clear a_p0 a_f0 f_p0 f_f0 a_p1 a_f1 f_p1 f_f1 a_p2 a_f2 f_p2 f_f2 a_p3 a_f3 f_p3 f_f3
        clear a f r1 ot hX oh
        obtain ⟨i, hi, rfl, hX, zzr, r1, ot, a, Ah, nh, ch, Bh, kh, dh, Ch, mh, eh, f, oh⟩ := hrel
        have hlf := f.lt
        have hla := a.lt
        have hz21 : w1.heap.size < w2.heap.size := by omega
        by_cases hlt : i < n3
        · have hlt' : (i : Int) < (n3 : Int) := by omega
          obtain ⟨_, _, _, ev, hle, -, -, hrt⟩ := id ot.rd
          injection ev with ev1 ev2 ev3
          subst ev1 ev2 ev3
          obtain ⟨b1, f1, x, rfl, hb1, hx, cv0, cv1, cv2, cv3, cv4⟩ := hrt.Entry hle hlt
          rw [List.getElem?_drop] at hx
          have hcp : logPut ⟨l.base, l.image, l.entries.take (j0 + i)⟩ ⟨x.client, x.req, ⟨x.cmd.kind, x.cmd.key, x.cmd.value⟩⟩ = (⟨l.base, l.image, l.entries.take (j0 + i + 1)⟩, true) := cut_put Hg.out hx
          clear hx hrt hle
          obtain ⟨a_p0, a_f0⟩ := a.at 0 _ rfl
          obtain ⟨a_p1, a_f1⟩ := a.at 1 _ rfl
          obtain ⟨a_p2, a_f2⟩ := a.at 2 _ rfl
          obtain ⟨a_p3, a_f3⟩ := a.at 3 _ rfl
          obtain ⟨f_p0, f_f0⟩ := f.at 0 _ rfl
          obtain ⟨f_p1, f_f1⟩ := f.at 1 _ rfl
          obtain ⟨f_p2, f_f2⟩ := f.at 2 _ rfl
          obtain ⟨f_p3, f_f3⟩ := f.at 3 _ rfl
          go_upto_region 14 with (fail)
          go_cut [12, 13] (fun s12 s13 wx => ∃ (gb : Nat) (A8 : Option Addr) (n8 c8' : Nat) (B8 : Option Addr) (k8 d8 : Nat) (C8 : Option Addr) (m8 e8 : Nat), s12 = .pointer (some ⟨gb, 0, none⟩) ∧ s13 = .bool true ∧ wr.heap.size ≤ gb ∧ Ext wr wx ∧ Blk wx gb 37 [.int .i64 l.base, .slice A8 n8 c8', .slice B8 k8 d8, .slice C8 m8 e8] ∧ O_Log wx wr.heap.size wx.heap.size (.agg #[.int .i64 l.base, .slice A8 n8 c8', .slice B8 k8 d8, .slice C8 m8 e8]) ⟨l.base, l.image, l.entries.take (j0 + i + 1)⟩)
          case first =>
            refine wp_region_held_drew (S := (fun w' => w'.cell? ⟨w2.heap.size, 0, none⟩ = some (.int .i64 l.base) ∧ w'.cell? ⟨w2.heap.size, 1, none⟩ = some (.slice Ah nh ch) ∧ w'.cell? ⟨w2.heap.size, 2, none⟩ = some (.slice Bh kh dh) ∧ w'.cell? ⟨w2.heap.size, 3, none⟩ = some (.slice Ch mh eh) ∧ w'.cell? ⟨b1, f1 + i * 5, none⟩ = some (.int .i64 x.client) ∧ w'.cell? ⟨b1, f1 + i * 5 + 1, none⟩ = some (.int .i64 x.req) ∧ w'.cell? ⟨b1, f1 + i * 5 + 2, none⟩ = some (.int .i64 x.cmd.kind) ∧ w'.cell? ⟨b1, f1 + i * 5 + 3, none⟩ = some (.int .i64 x.cmd.key) ∧ w'.cell? ⟨b1, f1 + i * 5 + 4, none⟩ = some (.int .i64 x.cmd.value))) (by kernel_rfl) ⟨f_p0, f_p1, f_p2, f_p3, cv0, cv1, cv2, cv3, cv4⟩ (fun hHeld => ?_)
            refine wpAnyH_take (i := 0) (v := ?_) rfl (by kernel_rfl) (by kernel_rfl) (by kernel_rfl) (fun _ _ _ h => h) (Or.inl ⟨by rfl, ?_⟩) (by assumption) ?_
            rotate_left
            · (intro w hSw; (try dsimp only at hSw); go_simp; (try with_reducible rfl))
            try simp only [Act.put, List.getElem_toArray, List.getElem_cons_zero, List.getElem_cons_succ, List.setIfInBounds_toArray, List.set_cons_zero, List.set_cons_succ]
            refine wpAnyH_take (i := 1) (v := ?_) rfl (by kernel_rfl) (by kernel_rfl) (by kernel_rfl) (fun _ _ _ h => h) (Or.inl ⟨by rfl, ?_⟩) (by assumption) ?_
            rotate_left
            · (intro w hSw; (try dsimp only at hSw); go_simp; (try with_reducible rfl))
            try simp only [Act.put, List.getElem_toArray, List.getElem_cons_zero, List.getElem_cons_succ, List.setIfInBounds_toArray, List.set_cons_zero, List.set_cons_succ]
            refine wpAnyH_take (i := 2) (v := ?_) rfl (by kernel_rfl) (by kernel_rfl) (by kernel_rfl) (fun _ _ _ h => h) (Or.inl ⟨by rfl, ?_⟩) (by assumption) ?_
            rotate_left
            · (intro w hSw; (try dsimp only at hSw); go_simp; (try with_reducible rfl))
            try simp only [Act.put, List.getElem_toArray, List.getElem_cons_zero, List.getElem_cons_succ, List.setIfInBounds_toArray, List.set_cons_zero, List.set_cons_succ]
            refine wpAnyH_take (i := 3) (v := ?_) rfl (by kernel_rfl) (by kernel_rfl) (by kernel_rfl) (fun _ _ _ h => h) (Or.inl ⟨by rfl, ?_⟩) (by assumption) ?_
            rotate_left
            · (intro w hSw; (try dsimp only at hSw); go_simp; (try with_reducible rfl))
            try simp only [Act.put, List.getElem_toArray, List.getElem_cons_zero, List.getElem_cons_succ, List.setIfInBounds_toArray, List.set_cons_zero, List.set_cons_succ]
            refine wpAnyH_take (i := 4) (v := ?_) rfl (by kernel_rfl) (by kernel_rfl) (by kernel_rfl) (fun _ _ _ h => h) (Or.inl ⟨by rfl, ?_⟩) (by assumption) ?_
            rotate_left
            · (intro w hSw; (try dsimp only at hSw); go_simp; (try with_reducible rfl))
            try simp only [Act.put, List.getElem_toArray, List.getElem_cons_zero, List.getElem_cons_succ, List.setIfInBounds_toArray, List.set_cons_zero, List.set_cons_succ]
            have hbw : b1 < wr.heap.size := by omega
            refine wpAnyH_ready (rs := [5, 9]) (by kernel_rfl) (by simp) ?_
            refine AllReadyH.cons rfl (fun K hK => ?_) (AllReadyH.cons rfl (fun K hK => ?_) AllReadyH.nil)
            · skip
              go_simp
              go_at_call 33
              refine (logPut_i _ ⟨l.base, l.image, l.entries.take (j0 + i)⟩ x.client x.req x.cmd.kind x.cmd.key x.cmd.value _ wr.heap.size (by exact oh.rd.keep (keepE' (Ext.refl wr).drew (Nat.le_refl _))) (by simp)).mono ?_
              rw [hcp]
              rintro e w8 ⟨v8, rfl, o8, hE⟩
              have hE8 : Ext wr w8 := ((Ext.refl wr).drew).trans hE
              have zz8 := hE8.size
              obtain ⟨A8, n8, c8', B8, k8, d8, C8, m8, e8, rfl, -, -, -⟩ := o8.form
              replace o8 : O_Log w8 wr.heap.size w8.heap.size _ _ := o8
              (clear hE)
              (try dsimp only)
              refine hK.out _ _ ⟨Ext.cellAt hE8 f_p0, Ext.cellAt hE8 f_p1, Ext.cellAt hE8 f_p2, Ext.cellAt hE8 f_p3, Ext.cellAt hE8 cv0, Ext.cellAt hE8 cv1, Ext.cellAt hE8 cv2, Ext.cellAt hE8 cv3, Ext.cellAt hE8 cv4⟩ (fun hHeld => ?_)
              clear hK K
              try simp only [Act.put, List.getElem_toArray, List.getElem_cons_zero, List.getElem_cons_succ, List.setIfInBounds_toArray, List.set_cons_zero, List.set_cons_succ]
              refine wpAnyH_take (i := 6) (v := ?_) rfl (by kernel_rfl) (by kernel_rfl) (by kernel_rfl) (fun _ _ _ h => h) (Or.inl ⟨by rfl, ?_⟩) (by assumption) ?_
              rotate_left
              · (intro w hSw; (try dsimp only at hSw); go_simp; (try with_reducible rfl))
              try simp only [Act.put, List.getElem_toArray, List.getElem_cons_zero, List.getElem_cons_succ, List.setIfInBounds_toArray, List.set_cons_zero, List.set_cons_succ]
              refine wpAnyH_take (i := 7) (v := ?_) rfl (by kernel_rfl) (by kernel_rfl) (by kernel_rfl) (fun _ _ _ h => h) (Or.inl ⟨by rfl, ?_⟩) (by assumption) ?_
              rotate_left
              · (intro w hSw; (try dsimp only at hSw); go_simp; (try with_reducible rfl))
              try simp only [Act.put, List.getElem_toArray, List.getElem_cons_zero, List.getElem_cons_succ, List.setIfInBounds_toArray, List.set_cons_zero, List.set_cons_succ]
              refine wpAnyH_take (i := 8) (v := ?_) rfl (by kernel_rfl) (by kernel_rfl) (by kernel_rfl) (fun _ _ _ h => h) (Or.inl ⟨by rfl, ?_⟩) (by assumption) ?_
              rotate_left
              · (intro w hSw; (try dsimp only at hSw); go_simp; (try with_reducible rfl))
              try simp only [Act.put, List.getElem_toArray, List.getElem_cons_zero, List.getElem_cons_succ, List.setIfInBounds_toArray, List.set_cons_zero, List.set_cons_succ]
              refine wpAnyH_ready (rs := [9]) (by kernel_rfl) (by simp) ?_
              refine AllReadyH.cons rfl (fun K hK => ?_) AllReadyH.nil
              go_simp
              (try dsimp only)
              refine hK.out _ _ ⟨Ext.cellAt (hE8.alloc _) f_p0, Ext.cellAt (hE8.alloc _) f_p1, Ext.cellAt (hE8.alloc _) f_p2, Ext.cellAt (hE8.alloc _) f_p3, Ext.cellAt (hE8.alloc _) cv0, Ext.cellAt (hE8.alloc _) cv1, Ext.cellAt (hE8.alloc _) cv2, Ext.cellAt (hE8.alloc _) cv3, Ext.cellAt (hE8.alloc _) cv4⟩ (fun hHeld => ?_)
              clear hK K
              try simp only [Act.put, List.getElem_toArray, List.getElem_cons_zero, List.getElem_cons_succ, List.setIfInBounds_toArray, List.set_cons_zero, List.set_cons_succ]
              refine wpAnyH_ready (rs := [10]) (by kernel_rfl) (by simp) ?_
              refine AllReadyH.cons rfl (fun K hK => ?_) AllReadyH.nil
              go_simp
              (try dsimp only)
              refine hK.out _ _ ⟨(by (repeat rw [cell_set_ne _ _ _ _ _ _ (by omega)]); exact Ext.cellAt (hE8.alloc _) f_p0), (by (repeat rw [cell_set_ne _ _ _ _ _ _ (by omega)]); exact Ext.cellAt (hE8.alloc _) f_p1), (by (repeat rw [cell_set_ne _ _ _ _ _ _ (by omega)]); exact Ext.cellAt (hE8.alloc _) f_p2), (by (repeat rw [cell_set_ne _ _ _ _ _ _ (by omega)]); exact Ext.cellAt (hE8.alloc _) f_p3), (by (repeat rw [cell_set_ne _ _ _ _ _ _ (by omega)]); exact Ext.cellAt (hE8.alloc _) cv0), (by (repeat rw [cell_set_ne _ _ _ _ _ _ (by omega)]); exact Ext.cellAt (hE8.alloc _) cv1), (by (repeat rw [cell_set_ne _ _ _ _ _ _ (by omega)]); exact Ext.cellAt (hE8.alloc _) cv2), (by (repeat rw [cell_set_ne _ _ _ _ _ _ (by omega)]); exact Ext.cellAt (hE8.alloc _) cv3), (by (repeat rw [cell_set_ne _ _ _ _ _ _ (by omega)]); exact Ext.cellAt (hE8.alloc _) cv4)⟩ (fun hHeld => ?_)
              clear hK K
              try simp only [Act.put, List.getElem_toArray, List.getElem_cons_zero, List.getElem_cons_succ, List.setIfInBounds_toArray, List.set_cons_zero, List.set_cons_succ]
              refine wpAnyH_take (i := 11) (v := ?_) rfl (by kernel_rfl) (by kernel_rfl) (by kernel_rfl) (fun _ _ _ h => h) (Or.inl ⟨by rfl, ?_⟩) (by assumption) ?_
              rotate_left
              · (intro w hSw; (try dsimp only at hSw); go_simp; (try with_reducible rfl))
              try simp only [Act.put, List.getElem_toArray, List.getElem_cons_zero, List.getElem_cons_succ, List.setIfInBounds_toArray, List.set_cons_zero, List.set_cons_succ]
              refine wpAnyH_done (by kernel_rfl) ?_ _
              clear hHeld
              have t : Blk (w8.alloc (.cells #[.int .i64 l.base, .slice A8 n8 c8', .slice B8 k8 d8, .slice C8 m8 e8] 37)) w8.heap.size 37 [.int .i64 l.base, .slice A8 n8 c8', .slice B8 k8 d8, .slice C8 m8 e8] := Blk.new w8 #[.int .i64 l.base, .slice A8 n8 c8', .slice B8 k8 d8, .slice C8 m8 e8] 37 rfl
              have hEA : Ext w8 (w8.alloc (.cells #[.int .i64 l.base, .slice A8 n8 c8', .slice B8 k8 d8, .slice C8 m8 e8] 37)) := (Ext.refl w8).alloc _
              go_wp2_with fail
              go_meet
              exact ⟨_, A8, n8, c8', B8, k8, d8, C8, m8, e8, rfl, rfl, by omega, hE8.trans hEA, t, (o8.keep (keepE hEA (Nat.le_refl _))).wide (Nat.le_refl _) (by simp)⟩
            · skip
              go_simp
              (try dsimp only)
              refine hK.out _ _ ⟨Ext.cellAt ((Ext.refl wr).drew.alloc _) f_p0, Ext.cellAt ((Ext.refl wr).drew.alloc _) f_p1, Ext.cellAt ((Ext.refl wr).drew.alloc _) f_p2, Ext.cellAt ((Ext.refl wr).drew.alloc _) f_p3, Ext.cellAt ((Ext.refl wr).drew.alloc _) cv0, Ext.cellAt ((Ext.refl wr).drew.alloc _) cv1, Ext.cellAt ((Ext.refl wr).drew.alloc _) cv2, Ext.cellAt ((Ext.refl wr).drew.alloc _) cv3, Ext.cellAt ((Ext.refl wr).drew.alloc _) cv4⟩ (fun hHeld => ?_)
              clear hK K
              try simp only [Act.put, List.getElem_toArray, List.getElem_cons_zero, List.getElem_cons_succ, List.setIfInBounds_toArray, List.set_cons_zero, List.set_cons_succ]
              have tz : Blk (wr.drew.alloc (.cells #[.int .i64 0, .slice none 0 0, .slice none 0 0, .slice none 0 0] 37)) wr.heap.size 37 [.int .i64 0, .slice none 0 0, .slice none 0 0, .slice none 0 0] := Blk.new wr.drew #[.int .i64 0, .slice none 0 0, .slice none 0 0, .slice none 0 0] 37 rfl
              refine wpAnyH_ready (rs := [5]) (by kernel_rfl) (by simp) ?_
              refine AllReadyH.cons rfl (fun K hK => ?_) AllReadyH.nil
              go_simp
              go_at_call 33
              refine (logPut_i _ ⟨l.base, l.image, l.entries.take (j0 + i)⟩ x.client x.req x.cmd.kind x.cmd.key x.cmd.value _ wr.heap.size (by exact oh.rd.keep (keepE' ((Ext.refl wr).drew.alloc _) (Nat.le_refl _))) (by simp)).mono ?_
              rw [hcp]
              rintro e w8 ⟨v8, rfl, o8, hE⟩
              have hE8 : Ext wr w8 := (((Ext.refl wr).drew.alloc _)).trans hE
              have zz8 := hE8.size
              obtain ⟨A8, n8, c8', B8, k8, d8, C8, m8, e8, rfl, -, -, -⟩ := o8.form
              replace tz := tz.ext hE
              (clear hE)
              (try dsimp only)
              refine hK.out _ _ ⟨Ext.cellAt hE8 f_p0, Ext.cellAt hE8 f_p1, Ext.cellAt hE8 f_p2, Ext.cellAt hE8 f_p3, Ext.cellAt hE8 cv0, Ext.cellAt hE8 cv1, Ext.cellAt hE8 cv2, Ext.cellAt hE8 cv3, Ext.cellAt hE8 cv4⟩ (fun hHeld => ?_)
              clear hK K
              try simp only [Act.put, List.getElem_toArray, List.getElem_cons_zero, List.getElem_cons_succ, List.setIfInBounds_toArray, List.set_cons_zero, List.set_cons_succ]
              obtain ⟨tz_p0, tz_f0⟩ := tz.at 0 _ rfl
              obtain ⟨tz_p1, tz_f1⟩ := tz.at 1 _ rfl
              obtain ⟨tz_p2, tz_f2⟩ := tz.at 2 _ rfl
              obtain ⟨tz_p3, tz_f3⟩ := tz.at 3 _ rfl
              refine wpAnyH_take (i := 6) (v := ?_) rfl (by kernel_rfl) (by kernel_rfl) (by kernel_rfl) (fun _ _ _ h => h) (Or.inl ⟨by rfl, ?_⟩) (by assumption) ?_
              rotate_left
              · (intro w hSw; (try dsimp only at hSw); go_simp; (try with_reducible rfl))
              try simp only [Act.put, List.getElem_toArray, List.getElem_cons_zero, List.getElem_cons_succ, List.setIfInBounds_toArray, List.set_cons_zero, List.set_cons_succ]
              refine wpAnyH_take (i := 7) (v := ?_) rfl (by kernel_rfl) (by kernel_rfl) (by kernel_rfl) (fun _ _ _ h => h) (Or.inl ⟨by rfl, ?_⟩) (by assumption) ?_
              rotate_left
              · (intro w hSw; (try dsimp only at hSw); go_simp; (try with_reducible rfl))
              try simp only [Act.put, List.getElem_toArray, List.getElem_cons_zero, List.getElem_cons_succ, List.setIfInBounds_toArray, List.set_cons_zero, List.set_cons_succ]
              refine wpAnyH_take (i := 8) (v := ?_) rfl (by kernel_rfl) (by kernel_rfl) (by kernel_rfl) (fun _ _ _ h => h) (Or.inl ⟨by rfl, ?_⟩) (by assumption) ?_
              rotate_left
              · (intro w hSw; (try dsimp only at hSw); go_simp; (try with_reducible rfl))
              try simp only [Act.put, List.getElem_toArray, List.getElem_cons_zero, List.getElem_cons_succ, List.setIfInBounds_toArray, List.set_cons_zero, List.set_cons_succ]
              refine wpAnyH_ready (rs := [10]) (by kernel_rfl) (by simp) ?_
              refine AllReadyH.cons rfl (fun K hK => ?_) AllReadyH.nil
              go_simp
              (try dsimp only)
              refine hK.out _ _ ⟨(by (repeat rw [cell_set_ne _ _ _ _ _ _ (by omega)]); exact Ext.cellAt hE8 f_p0), (by (repeat rw [cell_set_ne _ _ _ _ _ _ (by omega)]); exact Ext.cellAt hE8 f_p1), (by (repeat rw [cell_set_ne _ _ _ _ _ _ (by omega)]); exact Ext.cellAt hE8 f_p2), (by (repeat rw [cell_set_ne _ _ _ _ _ _ (by omega)]); exact Ext.cellAt hE8 f_p3), (by (repeat rw [cell_set_ne _ _ _ _ _ _ (by omega)]); exact Ext.cellAt hE8 cv0), (by (repeat rw [cell_set_ne _ _ _ _ _ _ (by omega)]); exact Ext.cellAt hE8 cv1), (by (repeat rw [cell_set_ne _ _ _ _ _ _ (by omega)]); exact Ext.cellAt hE8 cv2), (by (repeat rw [cell_set_ne _ _ _ _ _ _ (by omega)]); exact Ext.cellAt hE8 cv3), (by (repeat rw [cell_set_ne _ _ _ _ _ _ (by omega)]); exact Ext.cellAt hE8 cv4)⟩ (fun hHeld => ?_)
              clear hK K
              try simp only [Act.put, List.getElem_toArray, List.getElem_cons_zero, List.getElem_cons_succ, List.setIfInBounds_toArray, List.set_cons_zero, List.set_cons_succ]
              refine wpAnyH_take (i := 11) (v := ?_) rfl (by kernel_rfl) (by kernel_rfl) (by kernel_rfl) (fun _ _ _ h => h) (Or.inl ⟨by rfl, ?_⟩) (by assumption) ?_
              rotate_left
              · (intro w hSw; (try dsimp only at hSw); go_simp; (try with_reducible rfl))
              try simp only [Act.put, List.getElem_toArray, List.getElem_cons_zero, List.getElem_cons_succ, List.setIfInBounds_toArray, List.set_cons_zero, List.set_cons_succ]
              refine wpAnyH_done (by kernel_rfl) ?_ _
              clear hHeld
              clear tz_p0 tz_f0 tz_p1 tz_f1 tz_p2 tz_f2 tz_p3 tz_f3
              have t : Blk ((((w8.setCell ⟨wr.heap.size, 0, none⟩ (.int .i64 l.base)).setCell ⟨wr.heap.size, 1, none⟩ (.slice A8 n8 c8')).setCell ⟨wr.heap.size, 2, none⟩ (.slice B8 k8 d8)).setCell ⟨wr.heap.size, 3, none⟩ (.slice C8 m8 e8)) wr.heap.size 37 [.int .i64 l.base, .slice A8 n8 c8', .slice B8 k8 d8, .slice C8 m8 e8] := (((tz.set 0 (.int .i64 l.base)).set 1 (.slice A8 n8 c8')).set 2 (.slice B8 k8 d8)).set 3 (.slice C8 m8 e8)
              have hEA : Ext wr ((((w8.setCell ⟨wr.heap.size, 0, none⟩ (.int .i64 l.base)).setCell ⟨wr.heap.size, 1, none⟩ (.slice A8 n8 c8')).setCell ⟨wr.heap.size, 2, none⟩ (.slice B8 k8 d8)).setCell ⟨wr.heap.size, 3, none⟩ (.slice C8 m8 e8)) := (((hE8.set (Nat.le_refl _) 0 _).set (Nat.le_refl _) 1 _).set (Nat.le_refl _) 2 _).set (Nat.le_refl _) 3 _
              have o9 := O_Log.dodge4 o8 tz.bt (.int .i64 l.base) (.slice A8 n8 c8') (.slice B8 k8 d8) (.slice C8 m8 e8)
              go_wp2_with fail
              go_meet
              exact ⟨_, A8, n8, c8', B8, k8, d8, C8, m8, e8, rfl, rfl, Nat.le_refl _, hEA, t, o9.wide (by simp) (by simp)⟩
          clear a_p0 a_f0 f_p0 f_f0 a_p1 a_f1 f_p1 f_f1 a_p2 a_f2 f_p2 f_f2 a_p3 a_f3 f_p3 f_f3
          obtain ⟨gb, A8, n8, c8', B8, k8, d8, C8, m8, e8, rfl, rfl, hgb, hE8, t, o8⟩ := hcut
          rename World => W8
          have zz8 := hE8.size
          replace f := f.ext hE8
          replace a := a.ext hE8
          replace r1 := r1.keep (keepE' hE8 (by omega))
          replace ot := ot.keep (keepE hE8 (by omega))
          replace hX := hX.trans hE8
          clear hE8 cv0 cv1 cv2 cv3 cv4 hcp
          obtain ⟨a_p0, a_f0⟩ := a.at 0 _ rfl
          obtain ⟨a_p1, a_f1⟩ := a.at 1 _ rfl
          obtain ⟨a_p2, a_f2⟩ := a.at 2 _ rfl
          obtain ⟨a_p3, a_f3⟩ := a.at 3 _ rfl
          obtain ⟨f_p0, f_f0⟩ := f.at 0 _ rfl
          obtain ⟨f_p1, f_f1⟩ := f.at 1 _ rfl
          obtain ⟨f_p2, f_f2⟩ := f.at 2 _ rfl
          obtain ⟨f_p3, f_f3⟩ := f.at 3 _ rfl
          obtain ⟨t_p0, t_f0⟩ := t.at 0 _ rfl
          obtain ⟨t_p1, t_f1⟩ := t.at 1 _ rfl
          obtain ⟨t_p2, t_f2⟩ := t.at 2 _ rfl
          obtain ⟨t_p3, t_f3⟩ := t.at 3 _ rfl
          go_wp2
          clear a_p0 a_f0 a_p1 a_f1 a_p2 a_f2 a_p3 a_f3 f_p0 f_f0 f_p1 f_f1 f_p2 f_f2 f_p3 f_f3 t_p0 t_f0 t_p1 t_f1 t_p2 t_f2 t_p3 t_f3
          replace o8 := O_Log.dodge4 o8 f.bt (.int .i64 l.base) (.slice A8 n8 c8') (.slice B8 k8 d8) (.slice C8 m8 e8)
          have f9 : Blk ((((W8.setCell ⟨w2.heap.size, 0, none⟩ (.int .i64 l.base)).setCell ⟨w2.heap.size, 1, none⟩ (.slice A8 n8 c8')).setCell ⟨w2.heap.size, 2, none⟩ (.slice B8 k8 d8)).setCell ⟨w2.heap.size, 3, none⟩ (.slice C8 m8 e8)) w2.heap.size 37 [.int .i64 l.base, .slice A8 n8 c8', .slice B8 k8 d8, .slice C8 m8 e8] := (((f.set 0 (.int .i64 l.base)).set 1 (.slice A8 n8 c8')).set 2 (.slice B8 k8 d8)).set 3 (.slice C8 m8 e8)
          replace a := (((a.far (h := w2.heap.size) (by omega) 0 (.int .i64 l.base)).far (h := w2.heap.size) (by omega) 1 (.slice A8 n8 c8')).far (h := w2.heap.size) (by omega) 2 (.slice B8 k8 d8)).far (h := w2.heap.size) (by omega) 3 (.slice C8 m8 e8)
          have hFw : Fr w2.heap.size (w2.heap.size + 1) W8 ((((W8.setCell ⟨w2.heap.size, 0, none⟩ (.int .i64 l.base)).setCell ⟨w2.heap.size, 1, none⟩ (.slice A8 n8 c8')).setCell ⟨w2.heap.size, 2, none⟩ (.slice B8 k8 d8)).setCell ⟨w2.heap.size, 3, none⟩ (.slice C8 m8 e8)) := (((Fr.cell1 _).trans (Fr.cell1 _)).trans (Fr.cell1 _)).trans (Fr.cell1 _)
          replace r1 := r1.keep (keepF' hFw (by omega) (by omega))
          replace ot := O_EntryS.dodge4 ot f.bt (.int .i64 l.base) (.slice A8 n8 c8') (.slice B8 k8 d8) (.slice C8 m8 e8)
          replace hX := hX.fr hFw (by omega)
          have hzF : W8.heap.size ≤ ((((W8.setCell ⟨w2.heap.size, 0, none⟩ (.int .i64 l.base)).setCell ⟨w2.heap.size, 1, none⟩ (.slice A8 n8 c8')).setCell ⟨w2.heap.size, 2, none⟩ (.slice B8 k8 d8)).setCell ⟨w2.heap.size, 3, none⟩ (.slice C8 m8 e8)).heap.size := by simp
          clear f hFw
          go_roundw
          case rel => exact ⟨i + 1, by omega, by go_num, hX, by omega, r1, ot, a, _, _, _, _, _, _, _, _, _, f9, o8.wide (by omega) (by first | (simp; done) | (simp; omega))⟩
          case measure => simp [intOf]; omega
        · obtain rfl : n3 = i := by omega
          obtain ⟨a_p0, a_f0⟩ := a.at 0 _ rfl
          obtain ⟨a_p1, a_f1⟩ := a.at 1 _ rfl
          obtain ⟨a_p2, a_f2⟩ := a.at 2 _ rfl
          obtain ⟨a_p3, a_f3⟩ := a.at 3 _ rfl
          obtain ⟨f_p0, f_f0⟩ := f.at 0 _ rfl
          obtain ⟨f_p1, f_f1⟩ := f.at 1 _ rfl
          obtain ⟨f_p2, f_f2⟩ := f.at 2 _ rfl
          obtain ⟨f_p3, f_f3⟩ := f.at 3 _ rfl
          have hall : l.entries.take (j0 + n3) = l.entries := List.take_of_length_le (by have h1 := Hm1.out; have h2 := hl3.out; omega)
          rw [hall] at oh
          clear hall
          go_wp2_with fail
          refine (sameLog_i _ _ ⟨l.base, l.image, l.entries⟩ l _ wr.heap.size w1.heap.size (by exact oh.rd) (by omega) (by exact r1) (by omega)).mono ?_
          rw [decide_eq_true rfl]
          rintro e w9 ⟨rfl, hE9⟩
          go_wp2
          go_ret
          exact ⟨rfl, hX.trans hE9⟩

set_option maxRecDepth 100000 in
theorem lifted (os : Os) (started : os.Started) (H : Type) (enc : TypeId × Value → H) :
    ReturnsInHanded {} Try.checked os 8 .any (Rows.fnCutSpec.pre6 enc Try.prog Try.f8 Rows.fnCutRow.domain false) (Rows.fnCutSpec.post enc Try.prog Try.f8 false true false false) := by
  refine returnsInHanded_of_change (C := Try.checked) own started (by kernel_rfl) Try.func8
    (ChangeSpec.witness6 (enc := enc) (C := Try.checked) false ⟨#[], #[.slice none 0 0], []⟩ 8 (by kernel_rfl) (by kernel_rfl) (by kernel_rfl) (by kernel_rfl)) ?_
  intro W base args ds gs before hval0 hW hcnd _
  have hval : ∀ (j : Nat) t v, Try.f8.params[j]? = some t → args[j]? = some v → Value.okWide Try.prog W .any base t v := hval0
  have hW' := hW
  obtain ⟨p, q, hA0, hV, rfl, hfz, hnd⟩ := hW
  have hA : DataW.TrodAll enc Try.prog W 0 (fun _ => true) true Try.f8.params.toList args.toList ds p := hA0
  rw [Try.params8] at hA hval
  obtain ⟨vv0, vs0, dd0, ds0, pp0, qq0, hargs, rfl, rfl, ht0, rr0⟩ := trodAll_cons hA
  obtain ⟨rfl, rfl, rfl⟩ := trodAll_nil rr0
  obtain rfl : args = #[vv0] := by cases args; simp_all
  obtain ⟨rfl, rfl⟩ := trodVars_none hV
  have trd0 := ht0
  have lts0 : ∀ x ∈ pp0, x.block < W.heap.size := by obtain ⟨m, hm⟩ := trd0; exact DataW.trod_lt m _ _ _ hm
  obtain ⟨l0, r0⟩ := open_ByteS_arg (hval 0 56 vv0 rfl rfl) ht0
  clear hA0 hval0
  refine (walk vv0  l0  W r0).mono fun e W' ⟨he, bel⟩ => ?_
  subst he
  exact ⟨_, rfl, _, _, _, [], _, [], hW', trodAll_mk1 (shut_bool Try.underlying4 _), (trodAll_cons_mk (Below.trod laidOut (by kernel_rfl) (of_decide_eq_true (by kernel_rfl)) trd0 bel lts0) trodAll_mk0), rfl, Below.frame bel _, fun h => by cases h⟩

theorem over : Rows.fnCutRow.holds Try.pinned (OpenSpec.ofChange Rows.fnCutSpec) :=
  OpenClaim.holds_of_wide 8 Try.f8 rfl rfl rfl rfl rfl rfl rfl ⟨rfl, rfl, rfl, rfl, rfl⟩ rfl rfl rfl rfl rfl (by as_aux_lemma => kernel_rfl) Try.func8 (by as_aux_lemma => kernel_rfl)
    (of_decide_eq_true (by as_aux_lemma => kernel_rfl)) (by as_aux_lemma => unfold Func.isWrapper; first | (rw [if_pos (by decide +kernel)]; kernel_rfl) | (rw [if_neg (by decide +kernel)]; exact ⟨rfl, rfl⟩))
    (fun os started H enc _ => lifted os started H enc)

theorem proved : Rows.FnCutSaid := over
#print axioms proved
end Go.Proofs.Ytocmcfilldfdlaa.fnCut
