/-
  FnUnderWay returns true for every input: of drawn mail, what is doubled and then taken from the end leaves the flights as they were; what is moved and moved back stands where it did; what is spoilt twice at one bit is what it was.
  Conditions: none: for every argument, in whatever memory.
-/
import Derived.Test.YtllljddojncemaaOpen
import Derived.Test.YtllljddojncemaaUnderC
import Derived.Deep.DeepCutAuto
namespace Go.Proofs.Ytllljddojncemaa.fnUnderWay
open Go.ChangeShapes Go.WideShapes Go.ChangeAt Go.RowKit
set_option linter.unusedVariables false
set_option maxRecDepth 1000000

theorem under_cases (n : NetD) (i bit : Int) : (∃ N C, C ≠ 0 ∧ netTake n i = (N, zeroF, C) ∧ ∃ N', netSpoil n i bit = (N', C)) ∨ netOk n = true ∧ ∃ (k : Nat) (x : FlightD), i = k ∧ n.list[k]? = some x := by
  cases h : netOk n with
  | false => exact .inl ⟨zeroN, 1, by decide, netTake_bad h, zeroN, netSpoil_bad h⟩
  | true =>
    cases hi : flAt n.list i with
    | none => exact .inl ⟨n, 2, by decide, netTake_none h hi, n, netSpoil_none h hi⟩
    | some x =>
      obtain ⟨k, rfl, -, hx⟩ := flAt_some hi
      exact .inr ⟨rfl, k, x, rfl, hx⟩
theorem under_spoil_len {n : NetD} {k : Nat} {bit : Int} {x : FlightD} {SN : NetD} {SC : Int} (h : netOk n = true) (hf : flAt n.list (k : Int) = some x) (hs : netSpoil n (k : Int) bit = (SN, SC)) : SN.list.length = n.list.length := by
  by_cases hb : 0 ≤ bit ∧ bit < 8 * x.bytes.size
  · obtain ⟨t, rfl⟩ : ∃ t : Nat, (t : Int) = bit := ⟨bit.toNat, by omega⟩
    rw [netSpoil_in h hf (by omega)] at hs
    injection hs with hs
    rw [← hs]
    exact List.length_set
  · rw [netSpoil_out h hf hb] at hs
    injection hs with hs
    rw [← hs]

set_option maxRecDepth 100000 in
set_option maxHeartbeats 16000000 in
theorem walk (vv0 : Value) (l0 : List UInt8) (w : World) (r0 : R_ByteS w w.heap.size vv0 l0) :
    Calls Try.prog 10 #[vv0] w fun e w' => e = .returned (.bool true) ∧ Ext w w' := by
  obtain ⟨A0, n0, c0, rfl, hl0, hnc0, hcm0, hr0⟩ := r0
  by_cases hbig : 1048576 < n0
  · go_enter Try.func10, Try.ntmps10
    go_wp2_with fail
    refine (bigU_any A0 n0 c0 _).mono ?_
    rw [decide_eq_true hbig]
    rintro e w1 ⟨rfl, rfl⟩
    go_wp2
    go_ret
    exact ⟨rfl, Ext.refl _⟩
  · go_enter Try.func10, Try.ntmps10
    go_wp2_with fail
    refine (bigU_any A0 n0 c0 _).mono ?_
    rw [decide_eq_false hbig]
    rintro e w0 ⟨rfl, rfl⟩
    obtain ⟨aa, haa, hat⟩ := atU_val A0 n0 c0 l0 3 w.heap.size hl0 (by omega) (by omega)
    go_wp2_with fail
    refine (drawNetSpoil_s A0 n0 c0 l0 _ hr0 hl0 (by omega)).mono ?_
    rintro e w1 ⟨v1, n, i, bit, rfl, o1, hlen, hbf, hE1⟩
    obtain ⟨u1, rfl, k1⟩ := o1
    obtain ⟨A1, m, c1, hv1, hl1, -⟩ := id k1
    subst hv1
    have rn : R_Net w1 w1.heap.size (.agg #[.int .i64 n.next, .slice A1 m c1]) n := O_Net.rd ⟨_, rfl, k1⟩
    have hm : m ≤ 61 := by rw [← hl1]; exact hlen
    have HL := Lib.hid hl1
    have hsz : Hid (n.list.length ≤ 1048576) := by show _ ≤ _; omega
    clear k1 hl1 hlen
    have hzz := hE1.size
    obtain ⟨B, hBe⟩ : ∃ B, w1.heap.size = B := ⟨_, rfl⟩
    have hB1 : B ≤ w1.heap.size := by omega
    rw [hBe] at rn
    have hX := hE1
    clear hE1 hBe
    have hW1 : Ext w1 (w1.alloc (.cells #[.int .i64 n.next, .slice A1 m c1] 29)) := by repeat' (first | with_reducible exact Ext.refl _ | with_reducible assumption | with_reducible refine Ext.set ?_ ?_ _ _ | with_reducible refine Ext.alloc ?_ _ | with_reducible refine Ext.drew ?_ | with_reducible refine Ext.drewN ?_ _ | with_reducible refine Ext.trans ?_ (by with_reducible assumption) | omega | (simp; done) | (simp; omega))
    have zW1 : w1.heap.size + 1 ≤ (w1.alloc (.cells #[.int .i64 n.next, .slice A1 m c1] 29)).heap.size := by simp
    have a : Blk (w1.alloc (.cells #[.int .i64 n.next, .slice A1 m c1] 29)) w1.heap.size 29 [.int .i64 n.next, .slice A1 m c1] := (Blk.new w1 #[.int .i64 n.next, .slice A1 m c1] 29 (by first | rfl | simp))
    go_upto_region 4 with (fail)
    replace rn := rn.keep (keepE' hW1 (by omega))
    have zzW1 := hW1.size
    replace hX := hX.trans hW1
    clear hW1
    generalize (w1.alloc (.cells #[.int .i64 n.next, .slice A1 m c1] 29)) = W1 at *
    obtain ⟨a_p0, a_f0⟩ := a.at 0 _ rfl
    obtain ⟨a_p1, a_f1⟩ := a.at 1 _ rfl
    have hzB := zzW1
    obtain ⟨tt, htt⟩ : ∃ tt, netTake n i = tt := ⟨_, rfl⟩
    obtain ⟨N, F, C⟩ := tt
    go_wp2_with fail
    refine (netTake_s _ n i _ B (by exact rn) (by omega) hsz.out).mono ?_
    rw [htt]
    rintro e w2 ⟨v2, rfl, o2, hE2⟩
    obtain ⟨u2, rfl, k2⟩ := o2
    obtain ⟨A2, m2, c2, hv2, hl2, -⟩ := id k2
    subst hv2
    have r2 : R_Net w2 w2.heap.size (.agg #[.int .i64 (N).next, .slice A2 m2 c2]) (N) := O_Net.rd ⟨_, rfl, k2⟩
    clear k2
    clear a_p0 a_f0 a_p1 a_f1
    replace a := a.ext hE2
    replace rn := rn.keep (keepE' hE2 (by omega))
    have zzw2 := hE2.size
    replace hX := hX.trans hE2
    clear hE2
    have hW2 : Ext w2 ((w2.alloc (.cells #[.int .i64 N.next, .slice A2 m2 c2] 29)).alloc (.cells #[.int .i64 F.id, .int .i64 F.to, .string F.bytes] 43)) := by repeat' (first | with_reducible exact Ext.refl _ | with_reducible assumption | with_reducible refine Ext.set ?_ ?_ _ _ | with_reducible refine Ext.alloc ?_ _ | with_reducible refine Ext.drew ?_ | with_reducible refine Ext.drewN ?_ _ | with_reducible refine Ext.trans ?_ (by with_reducible assumption) | omega | (simp; done) | (simp; omega))
    have zW2 : w2.heap.size + 2 ≤ ((w2.alloc (.cells #[.int .i64 N.next, .slice A2 m2 c2] 29)).alloc (.cells #[.int .i64 F.id, .int .i64 F.to, .string F.bytes] 43)).heap.size := by simp
    have p : Blk ((w2.alloc (.cells #[.int .i64 N.next, .slice A2 m2 c2] 29)).alloc (.cells #[.int .i64 F.id, .int .i64 F.to, .string F.bytes] 43)) w2.heap.size 29 [.int .i64 N.next, .slice A2 m2 c2] := ((Blk.new w2 #[.int .i64 N.next, .slice A2 m2 c2] 29 (by first | rfl | simp)).alloc (.cells #[.int .i64 F.id, .int .i64 F.to, .string F.bytes] 43))
    have f : Blk ((w2.alloc (.cells #[.int .i64 N.next, .slice A2 m2 c2] 29)).alloc (.cells #[.int .i64 F.id, .int .i64 F.to, .string F.bytes] 43)) (w2.heap.size + 1) 43 [.int .i64 F.id, .int .i64 F.to, .string F.bytes] := (Blk.new (w2.alloc (.cells #[.int .i64 N.next, .slice A2 m2 c2] 29)) #[.int .i64 F.id, .int .i64 F.to, .string F.bytes] 43 (by first | rfl | simp))
    obtain ⟨a_p0, a_f0⟩ := a.at 0 _ rfl
    obtain ⟨a_p1, a_f1⟩ := a.at 1 _ rfl
    go_upto_region 5 with (fail)
    clear a_p0 a_f0 a_p1 a_f1
    replace a := a.ext hW2
    replace rn := rn.keep (keepE' hW2 (by omega))
    have zzW2 := hW2.size
    replace hX := hX.trans hW2
    clear hW2
    generalize ((w2.alloc (.cells #[.int .i64 N.next, .slice A2 m2 c2] 29)).alloc (.cells #[.int .i64 F.id, .int .i64 F.to, .string F.bytes] 43)) = W2 at *
    obtain ⟨a_p0, a_f0⟩ := a.at 0 _ rfl
    obtain ⟨a_p1, a_f1⟩ := a.at 1 _ rfl
    obtain ⟨p_p0, p_f0⟩ := p.at 0 _ rfl
    obtain ⟨p_p1, p_f1⟩ := p.at 1 _ rfl
    obtain ⟨f_p0, f_f0⟩ := f.at 0 _ rfl
    obtain ⟨f_p1, f_f1⟩ := f.at 1 _ rfl
    obtain ⟨f_p2, f_f2⟩ := f.at 2 _ rfl
    go_wp2_with fail
    refine (netTake_i _ n i _ B (by exact rn) (by omega) hsz.out).mono ?_
    rw [htt]
    rintro e w3 ⟨v3, rfl, o3, hE3⟩
    obtain ⟨u3, rfl, k3⟩ := o3
    obtain ⟨A3, m3, c3, hv3, hl3, -⟩ := id k3
    subst hv3
    have r3 : R_Net w3 w3.heap.size (.agg #[.int .i64 (N).next, .slice A3 m3 c3]) (N) := O_Net.rd ⟨_, rfl, k3⟩
    clear k3
    clear a_p0 a_f0 a_p1 a_f1 p_p0 p_f0 p_p1 p_f1 f_p0 f_f0 f_p1 f_f1 f_p2 f_f2
    replace a := a.ext hE3
    replace p := p.ext hE3
    replace f := f.ext hE3
    replace rn := rn.keep (keepE' hE3 (by omega))
    have zzw3 := hE3.size
    replace hX := hX.trans hE3
    clear hE3
    have hW3 : Ext w3 ((w3.alloc (.cells #[.int .i64 N.next, .slice A3 m3 c3] 29)).alloc (.cells #[.int .i64 F.id, .int .i64 F.to, .string F.bytes] 43)) := by repeat' (first | with_reducible exact Ext.refl _ | with_reducible assumption | with_reducible refine Ext.set ?_ ?_ _ _ | with_reducible refine Ext.alloc ?_ _ | with_reducible refine Ext.drew ?_ | with_reducible refine Ext.drewN ?_ _ | with_reducible refine Ext.trans ?_ (by with_reducible assumption) | omega | (simp; done) | (simp; omega))
    have zW3 : w3.heap.size + 2 ≤ ((w3.alloc (.cells #[.int .i64 N.next, .slice A3 m3 c3] 29)).alloc (.cells #[.int .i64 F.id, .int .i64 F.to, .string F.bytes] 43)).heap.size := by simp
    have q : Blk ((w3.alloc (.cells #[.int .i64 N.next, .slice A3 m3 c3] 29)).alloc (.cells #[.int .i64 F.id, .int .i64 F.to, .string F.bytes] 43)) w3.heap.size 29 [.int .i64 N.next, .slice A3 m3 c3] := ((Blk.new w3 #[.int .i64 N.next, .slice A3 m3 c3] 29 (by first | rfl | simp)).alloc (.cells #[.int .i64 F.id, .int .i64 F.to, .string F.bytes] 43))
    have g : Blk ((w3.alloc (.cells #[.int .i64 N.next, .slice A3 m3 c3] 29)).alloc (.cells #[.int .i64 F.id, .int .i64 F.to, .string F.bytes] 43)) (w3.heap.size + 1) 43 [.int .i64 F.id, .int .i64 F.to, .string F.bytes] := (Blk.new (w3.alloc (.cells #[.int .i64 N.next, .slice A3 m3 c3] 29)) #[.int .i64 F.id, .int .i64 F.to, .string F.bytes] 43 (by first | rfl | simp))
    obtain ⟨a_p0, a_f0⟩ := a.at 0 _ rfl
    obtain ⟨a_p1, a_f1⟩ := a.at 1 _ rfl
    obtain ⟨p_p0, p_f0⟩ := p.at 0 _ rfl
    obtain ⟨p_p1, p_f1⟩ := p.at 1 _ rfl
    obtain ⟨f_p0, f_f0⟩ := f.at 0 _ rfl
    obtain ⟨f_p1, f_f1⟩ := f.at 1 _ rfl
    obtain ⟨f_p2, f_f2⟩ := f.at 2 _ rfl
    go_upto_region 6 with (fail)
    clear a_p0 a_f0 a_p1 a_f1 p_p0 p_f0 p_p1 p_f1 f_p0 f_f0 f_p1 f_f1 f_p2 f_f2
    replace a := a.ext hW3
    replace p := p.ext hW3
    replace f := f.ext hW3
    replace rn := rn.keep (keepE' hW3 (by omega))
    have zzW3 := hW3.size
    replace hX := hX.trans hW3
    clear hW3
    generalize ((w3.alloc (.cells #[.int .i64 N.next, .slice A3 m3 c3] 29)).alloc (.cells #[.int .i64 F.id, .int .i64 F.to, .string F.bytes] 43)) = W3 at *
    obtain ⟨a_p0, a_f0⟩ := a.at 0 _ rfl
    obtain ⟨a_p1, a_f1⟩ := a.at 1 _ rfl
    obtain ⟨p_p0, p_f0⟩ := p.at 0 _ rfl
    obtain ⟨p_p1, p_f1⟩ := p.at 1 _ rfl
    obtain ⟨f_p0, f_f0⟩ := f.at 0 _ rfl
    obtain ⟨f_p1, f_f1⟩ := f.at 1 _ rfl
    obtain ⟨f_p2, f_f2⟩ := f.at 2 _ rfl
    obtain ⟨q_p0, q_f0⟩ := q.at 0 _ rfl
    obtain ⟨q_p1, q_f1⟩ := q.at 1 _ rfl
    obtain ⟨g_p0, g_f0⟩ := g.at 0 _ rfl
    obtain ⟨g_p1, g_f1⟩ := g.at 1 _ rfl
    obtain ⟨g_p2, g_f2⟩ := g.at 2 _ rfl
    have hq : ∀ w, (binOp .neq 43 (.agg #[.int .i64 F.id, .int .i64 F.to, .string F.bytes]) (.agg #[.int .i64 F.id, .int .i64 F.to, .string F.bytes])).run Try.prog w = .ok (.bool false) w := fun w => neqFlight F w
    have hmm : m3 = m2 := by rw [← hl2, ← hl3]
    subst hmm
    clear hl2 hl3 r2 r3
    go_upto_region 8 with (fail)
    clear p_p0 p_f0 p_p1 p_f1
    clear p
    clear q_p0 q_f0 q_p1 q_f1
    clear q
    clear g_p0 g_f0 g_p1 g_f1 g_p2 g_f2
    clear g
    clear hq
    rcases under_cases n i bit with ⟨N1, C1, hC, ht1, N2, hs1⟩ | ⟨hok, k, x, rfl, hx⟩
    · rw [ht1] at htt
      injection htt with e1 e2
      injection e2 with e2 e3
      subst e1 e2 e3
      have hne : (C1 != 0) = true := by simpa using hC
      clear ht1
      go_wp2_with fail
      refine (netSpoil_i _ n i bit _ B (by exact rn) (by omega) hsz.out).mono ?_
      rw [hs1]
      rintro e w4 ⟨v4, rfl, o4, hE4⟩
      obtain ⟨u4, rfl, k4⟩ := o4
      obtain ⟨A4, m4, c4, hv4, hl4, -⟩ := id k4
      subst hv4
      have r4 : R_Net w4 w4.heap.size (.agg #[.int .i64 (N2).next, .slice A4 m4 c4]) (N2) := O_Net.rd ⟨_, rfl, k4⟩
      clear k4
      clear a_p0 a_f0 a_p1 a_f1 f_p0 f_f0 f_p1 f_f1 f_p2 f_f2
      replace a := a.ext hE4
      replace f := f.ext hE4
      replace rn := rn.keep (keepE' hE4 (by omega))
      have zzw4 := hE4.size
      replace hX := hX.trans hE4
      clear hE4
      have hW4 : Ext w4 (w4.alloc (.cells #[.int .i64 N2.next, .slice A4 m4 c4] 29)) := by repeat' (first | with_reducible exact Ext.refl _ | with_reducible assumption | with_reducible refine Ext.set ?_ ?_ _ _ | with_reducible refine Ext.alloc ?_ _ | with_reducible refine Ext.drew ?_ | with_reducible refine Ext.drewN ?_ _ | with_reducible refine Ext.trans ?_ (by with_reducible assumption) | omega | (simp; done) | (simp; omega))
      have zW4 : w4.heap.size + 1 ≤ (w4.alloc (.cells #[.int .i64 N2.next, .slice A4 m4 c4] 29)).heap.size := by simp
      have p : Blk (w4.alloc (.cells #[.int .i64 N2.next, .slice A4 m4 c4] 29)) w4.heap.size 29 [.int .i64 N2.next, .slice A4 m4 c4] := (Blk.new w4 #[.int .i64 N2.next, .slice A4 m4 c4] 29 (by first | rfl | simp))
      obtain ⟨a_p0, a_f0⟩ := a.at 0 _ rfl
      obtain ⟨a_p1, a_f1⟩ := a.at 1 _ rfl
      obtain ⟨f_p0, f_f0⟩ := f.at 0 _ rfl
      obtain ⟨f_p1, f_f1⟩ := f.at 1 _ rfl
      obtain ⟨f_p2, f_f2⟩ := f.at 2 _ rfl
      go_upto_region 10 with (fail)
      clear a_p0 a_f0 a_p1 a_f1 f_p0 f_f0 f_p1 f_f1 f_p2 f_f2
      replace a := a.ext hW4
      replace f := f.ext hW4
      replace rn := rn.keep (keepE' hW4 (by omega))
      have zzW4 := hW4.size
      replace hX := hX.trans hW4
      clear hW4
      generalize (w4.alloc (.cells #[.int .i64 N2.next, .slice A4 m4 c4] 29)) = W4 at *
      obtain ⟨a_p0, a_f0⟩ := a.at 0 _ rfl
      obtain ⟨a_p1, a_f1⟩ := a.at 1 _ rfl
      obtain ⟨f_p0, f_f0⟩ := f.at 0 _ rfl
      obtain ⟨f_p1, f_f1⟩ := f.at 1 _ rfl
      obtain ⟨f_p2, f_f2⟩ := f.at 2 _ rfl
      obtain ⟨p_p0, p_f0⟩ := p.at 0 _ rfl
      obtain ⟨p_p1, p_f1⟩ := p.at 1 _ rfl
      go_wp2
      go_ret
      exact ⟨rfl, hX⟩
    · have hg := netOk_iff.1 hok
      have hk := (List.getElem?_eq_some_iff.1 hx).1
      have hfa : flAt n.list (k : Int) = some x := by rw [flAt_nat]; exact hx
      rw [netTake_in hok hfa] at htt
      injection htt with e1 e2
      injection e2 with e2 e3
      subst e1 e2 e3
      have HG := Lib.hid hg
      have Hx := Lib.hid hx
      have Hok := Lib.hid hok
      have Hfa := Lib.hid hfa
      have hkm : k < m := by rw [← HL.out]; exact hk
      have hkm1 : (k : Int) < (m : Int) := by omega
      clear hg hx hok hfa hk
      obtain ⟨ss, hss⟩ : ∃ ss, netSpoil n (k : Int) bit = ss := ⟨_, rfl⟩
      obtain ⟨SN, SC⟩ := ss
      have hslen : Hid (SN.list.length = m) := by
        show _ = _
        rw [← HL.out]
        exact under_spoil_len Hok.out Hfa.out hss
      go_wp2_with fail
      refine (netSpoil_i _ n (k : Int) bit _ B (by exact rn) (by omega) hsz.out).mono ?_
      rw [hss]
      rintro e w5 ⟨v5, rfl, o5, hE5⟩
      obtain ⟨u5, rfl, k5⟩ := o5
      obtain ⟨A5, m5, c5, hv5, hl5, -⟩ := id k5
      subst hv5
      have r5 : R_Net w5 w5.heap.size (.agg #[.int .i64 (SN).next, .slice A5 m5 c5]) (SN) := O_Net.rd ⟨_, rfl, k5⟩
      clear k5
      clear a_p0 a_f0 a_p1 a_f1 f_p0 f_f0 f_p1 f_f1 f_p2 f_f2
      replace a := a.ext hE5
      replace f := f.ext hE5
      replace rn := rn.keep (keepE' hE5 (by omega))
      have zzw5 := hE5.size
      replace hX := hX.trans hE5
      clear hE5
      have h5 : m = m5 := by rw [← hslen.out]; exact hl5
      subst h5
      have hW5 : Ext w5 (w5.alloc (.cells #[.int .i64 SN.next, .slice A5 m c5] 29)) := by repeat' (first | with_reducible exact Ext.refl _ | with_reducible assumption | with_reducible refine Ext.set ?_ ?_ _ _ | with_reducible refine Ext.alloc ?_ _ | with_reducible refine Ext.drew ?_ | with_reducible refine Ext.drewN ?_ _ | with_reducible refine Ext.trans ?_ (by with_reducible assumption) | omega | (simp; done) | (simp; omega))
      have zW5 : w5.heap.size + 1 ≤ (w5.alloc (.cells #[.int .i64 SN.next, .slice A5 m c5] 29)).heap.size := by simp
      have o : Blk (w5.alloc (.cells #[.int .i64 SN.next, .slice A5 m c5] 29)) w5.heap.size 29 [.int .i64 SN.next, .slice A5 m c5] := (Blk.new w5 #[.int .i64 SN.next, .slice A5 m c5] 29 (by first | rfl | simp))
      obtain ⟨a_p0, a_f0⟩ := a.at 0 _ rfl
      obtain ⟨a_p1, a_f1⟩ := a.at 1 _ rfl
      obtain ⟨f_p0, f_f0⟩ := f.at 0 _ rfl
      obtain ⟨f_p1, f_f1⟩ := f.at 1 _ rfl
      obtain ⟨f_p2, f_f2⟩ := f.at 2 _ rfl
      go_upto_region 12 with (fail)
      clear a_p0 a_f0 a_p1 a_f1 f_p0 f_f0 f_p1 f_f1 f_p2 f_f2
      replace a := a.ext hW5
      replace f := f.ext hW5
      replace rn := rn.keep (keepE' hW5 (by omega))
      replace r5 := r5.keep (keepE' hW5 (by omega))
      have zzW5 := hW5.size
      replace hX := hX.trans hW5
      clear hW5
      generalize (w5.alloc (.cells #[.int .i64 SN.next, .slice A5 m c5] 29)) = W5 at *
      obtain ⟨a_p0, a_f0⟩ := a.at 0 _ rfl
      obtain ⟨a_p1, a_f1⟩ := a.at 1 _ rfl
      obtain ⟨f_p0, f_f0⟩ := f.at 0 _ rfl
      obtain ⟨f_p1, f_f1⟩ := f.at 1 _ rfl
      obtain ⟨f_p2, f_f2⟩ := f.at 2 _ rfl
      obtain ⟨o_p0, o_f0⟩ := o.at 0 _ rfl
      obtain ⟨o_p1, o_f1⟩ := o.at 1 _ rfl
      go_wp2_with fail
      refine (netSpoil_s _ n (k : Int) bit _ B (by exact rn) (by omega) hsz.out hbf).mono ?_
      rw [hss]
      rintro e w6 ⟨v6, rfl, o6, hE6⟩
      obtain ⟨u6, rfl, k6⟩ := o6
      obtain ⟨A6, m6, c6, hv6, hl6, -⟩ := id k6
      subst hv6
      have r6 : R_Net w6 w6.heap.size (.agg #[.int .i64 (SN).next, .slice A6 m6 c6]) (SN) := O_Net.rd ⟨_, rfl, k6⟩
      clear k6
      clear a_p0 a_f0 a_p1 a_f1 f_p0 f_f0 f_p1 f_f1 f_p2 f_f2 o_p0 o_f0 o_p1 o_f1
      replace a := a.ext hE6
      replace f := f.ext hE6
      replace o := o.ext hE6
      replace rn := rn.keep (keepE' hE6 (by omega))
      replace r5 := r5.keep (keepE' hE6 (by omega))
      have zzw6 := hE6.size
      replace hX := hX.trans hE6
      clear hE6
      clear r6 hl6
      have hW6 : Ext w6 (w6.alloc (.cells #[.int .i64 SN.next, .slice A6 m6 c6] 29)) := by repeat' (first | with_reducible exact Ext.refl _ | with_reducible assumption | with_reducible refine Ext.set ?_ ?_ _ _ | with_reducible refine Ext.alloc ?_ _ | with_reducible refine Ext.drew ?_ | with_reducible refine Ext.drewN ?_ _ | with_reducible refine Ext.trans ?_ (by with_reducible assumption) | omega | (simp; done) | (simp; omega))
      have zW6 : w6.heap.size + 1 ≤ (w6.alloc (.cells #[.int .i64 SN.next, .slice A6 m6 c6] 29)).heap.size := by simp
      have p : Blk (w6.alloc (.cells #[.int .i64 SN.next, .slice A6 m6 c6] 29)) w6.heap.size 29 [.int .i64 SN.next, .slice A6 m6 c6] := (Blk.new w6 #[.int .i64 SN.next, .slice A6 m6 c6] 29 (by first | rfl | simp))
      obtain ⟨a_p0, a_f0⟩ := a.at 0 _ rfl
      obtain ⟨a_p1, a_f1⟩ := a.at 1 _ rfl
      obtain ⟨f_p0, f_f0⟩ := f.at 0 _ rfl
      obtain ⟨f_p1, f_f1⟩ := f.at 1 _ rfl
      obtain ⟨f_p2, f_f2⟩ := f.at 2 _ rfl
      obtain ⟨o_p0, o_f0⟩ := o.at 0 _ rfl
      obtain ⟨o_p1, o_f1⟩ := o.at 1 _ rfl
      go_upto_region 13 with (fail)
      clear a_p0 a_f0 a_p1 a_f1 f_p0 f_f0 f_p1 f_f1 f_p2 f_f2 o_p0 o_f0 o_p1 o_f1
      replace a := a.ext hW6
      replace f := f.ext hW6
      replace o := o.ext hW6
      replace rn := rn.keep (keepE' hW6 (by omega))
      replace r5 := r5.keep (keepE' hW6 (by omega))
      have zzW6 := hW6.size
      replace hX := hX.trans hW6
      clear hW6
      generalize (w6.alloc (.cells #[.int .i64 SN.next, .slice A6 m6 c6] 29)) = W6 at *
      obtain ⟨a_p0, a_f0⟩ := a.at 0 _ rfl
      obtain ⟨a_p1, a_f1⟩ := a.at 1 _ rfl
      obtain ⟨f_p0, f_f0⟩ := f.at 0 _ rfl
      obtain ⟨f_p1, f_f1⟩ := f.at 1 _ rfl
      obtain ⟨f_p2, f_f2⟩ := f.at 2 _ rfl
      obtain ⟨o_p0, o_f0⟩ := o.at 0 _ rfl
      obtain ⟨o_p1, o_f1⟩ := o.at 1 _ rfl
      obtain ⟨p_p0, p_f0⟩ := p.at 0 _ rfl
      obtain ⟨p_p1, p_f1⟩ := p.at 1 _ rfl
      clear p_p0 p_f0 p_p1 p_f1
      clear p
      go_upto_if 110 with (fail)
      clear a_p0 a_f0 a_p1 a_f1 f_p0 f_f0 f_p1 f_f1 f_p2 f_f2 o_p0 o_f0 o_p1 o_f1
      go_cut [] (fun wx => Ext w wx ∧ B ≤ wx.heap.size ∧ R_Net wx B (.agg #[.int .i64 n.next, .slice A1 m c1]) n ∧ Blk wx (w1.heap.size) 29 [.int .i64 n.next, .slice A1 m c1] ∧ Blk wx (w2.heap.size + 1) 43 [.int .i64 x.id, .int .i64 x.to, .string x.bytes])
      case first =>
        obtain ⟨a_p0, a_f0⟩ := a.at 0 _ rfl
        obtain ⟨a_p1, a_f1⟩ := a.at 1 _ rfl
        obtain ⟨f_p0, f_f0⟩ := f.at 0 _ rfl
        obtain ⟨f_p1, f_f1⟩ := f.at 1 _ rfl
        obtain ⟨f_p2, f_f2⟩ := f.at 2 _ rfl
        obtain ⟨o_p0, o_f0⟩ := o.at 0 _ rfl
        obtain ⟨o_p1, o_f1⟩ := o.at 1 _ rfl
        by_cases hb : 0 ≤ bit ∧ bit < 8 * (x.bytes.size : Int)
        · obtain ⟨t, rfl⟩ : ∃ t : Nat, (t : Int) = bit := ⟨bit.toNat, by omega⟩
          have hb2 : t < 8 * x.bytes.size := by omega
          rw [netSpoil_in Hok.out Hfa.out hb2] at hss
          injection hss with e1 e2
          subst e1 e2
          have hx2 : Hid ((n.list.set k (spoil x t))[k]? = some (spoil x t)) := by
            show _ = _
            rw [List.getElem?_set_self (by rw [HL.out]; exact hkm)]
          have hg2 : netOk ⟨n.next, n.list.set k (spoil x t)⟩ = true := netOk_iff.2 (good_spoil HG.out Hx.out)
          have hs2 : netSpoil ⟨n.next, n.list.set k (spoil x t)⟩ (k : Int) (t : Int) = (n, 0) := by
            rw [netSpoil_in hg2 (by rw [flAt_nat]; exact hx2.out) (by unfold spoil; dsimp only; rw [flipB_size]; exact hb2)]
            dsimp only
            rw [spoil_twice Hx.out hb2]
          have hfne := flipB_ne hb2
          clear hb hb2 hg2
          go_wp2_with fail
          refine (netSpoil_i _ ⟨n.next, n.list.set k (spoil x t)⟩ (k : Int) (t : Int) _ w5.heap.size (by exact r5) (by omega) (by rw [hslen.out]; omega)).mono ?_
          rw [hs2]
          rintro e w7 ⟨v7, rfl, o7, hE7⟩
          obtain ⟨u7, rfl, k7⟩ := o7
          obtain ⟨A7, m7, c7, hv7, hl7, -⟩ := id k7
          subst hv7
          have r7 : R_Net w7 w7.heap.size (.agg #[.int .i64 (n).next, .slice A7 m7 c7]) (n) := O_Net.rd ⟨_, rfl, k7⟩
          clear k7
          clear a_p0 a_f0 a_p1 a_f1 f_p0 f_f0 f_p1 f_f1 f_p2 f_f2 o_p0 o_f0 o_p1 o_f1
          replace a := a.ext hE7
          replace f := f.ext hE7
          replace o := o.ext hE7
          replace rn := rn.keep (keepE' hE7 (by omega))
          replace r5 := r5.keep (keepE' hE7 (by omega))
          have zzw7 := hE7.size
          replace hX := hX.trans hE7
          clear hE7
          have h7 : m = m7 := by rw [← HL.out]; exact hl7
          subst h7
          have hW7 : Ext w7 (w7.alloc (.cells #[.int .i64 n.next, .slice A7 m c7] 29)) := by repeat' (first | with_reducible exact Ext.refl _ | with_reducible assumption | with_reducible refine Ext.set ?_ ?_ _ _ | with_reducible refine Ext.alloc ?_ _ | with_reducible refine Ext.drew ?_ | with_reducible refine Ext.drewN ?_ _ | with_reducible refine Ext.trans ?_ (by with_reducible assumption) | omega | (simp; done) | (simp; omega))
          have zW7 : w7.heap.size + 1 ≤ (w7.alloc (.cells #[.int .i64 n.next, .slice A7 m c7] 29)).heap.size := by simp
          have s : Blk (w7.alloc (.cells #[.int .i64 n.next, .slice A7 m c7] 29)) w7.heap.size 29 [.int .i64 n.next, .slice A7 m c7] := (Blk.new w7 #[.int .i64 n.next, .slice A7 m c7] 29 (by first | rfl | simp))
          obtain ⟨a_p0, a_f0⟩ := a.at 0 _ rfl
          obtain ⟨a_p1, a_f1⟩ := a.at 1 _ rfl
          obtain ⟨f_p0, f_f0⟩ := f.at 0 _ rfl
          obtain ⟨f_p1, f_f1⟩ := f.at 1 _ rfl
          obtain ⟨f_p2, f_f2⟩ := f.at 2 _ rfl
          obtain ⟨o_p0, o_f0⟩ := o.at 0 _ rfl
          obtain ⟨o_p1, o_f1⟩ := o.at 1 _ rfl
          go_upto_region 17 with (fail)
          clear a_p0 a_f0 a_p1 a_f1 f_p0 f_f0 f_p1 f_f1 f_p2 f_f2 o_p0 o_f0 o_p1 o_f1
          replace a := a.ext hW7
          replace f := f.ext hW7
          replace o := o.ext hW7
          replace rn := rn.keep (keepE' hW7 (by omega))
          replace r5 := r5.keep (keepE' hW7 (by omega))
          replace r7 := r7.keep (keepE' hW7 (by omega))
          have zzW7 := hW7.size
          replace hX := hX.trans hW7
          clear hW7
          generalize (w7.alloc (.cells #[.int .i64 n.next, .slice A7 m c7] 29)) = W7 at *
          obtain ⟨a_p0, a_f0⟩ := a.at 0 _ rfl
          obtain ⟨a_p1, a_f1⟩ := a.at 1 _ rfl
          obtain ⟨f_p0, f_f0⟩ := f.at 0 _ rfl
          obtain ⟨f_p1, f_f1⟩ := f.at 1 _ rfl
          obtain ⟨f_p2, f_f2⟩ := f.at 2 _ rfl
          obtain ⟨o_p0, o_f0⟩ := o.at 0 _ rfl
          obtain ⟨o_p1, o_f1⟩ := o.at 1 _ rfl
          obtain ⟨s_p0, s_f0⟩ := s.at 0 _ rfl
          obtain ⟨s_p1, s_f1⟩ := s.at 1 _ rfl
          obtain ⟨b5, f5, rfl, hb5, d0, d1, d2⟩ := r5.at hx2.out
          obtain ⟨b1, f1, rfl, hb1, e0, e1, e2⟩ := rn.at Hx.out
          replace d2 : _ = some (Value.string (flipB x.bytes t)) := d2
          obtain ⟨s9, hs9⟩ : ∃ s9, flipB x.bytes t = s9 := ⟨_, rfl⟩
          rw [hs9] at d2 hfne
          have hne9 : ¬ s9.toList = x.bytes.toList := fun h => hfne ((toList_inj' _ _).1 h)
          have hnec : (s9.toList == x.bytes.toList) = false := by simp [hne9]
          clear d0 d1 e0 e1 hs9
          refine wp_region_held_drew (S := (fun w' => w'.cell? ⟨w5.heap.size, 1, none⟩ = some (.slice (some ⟨b5, f5, none⟩) m c5) ∧ w'.cell? ⟨w1.heap.size, 1, none⟩ = some (.slice (some ⟨b1, f1, none⟩) m c1) ∧ w'.cell? ⟨w7.heap.size, 1, none⟩ = some (.slice A7 m c7) ∧ w'.cell? ⟨b5, f5 + k * 3 + 2, none⟩ = some (.string s9) ∧ w'.cell? ⟨b1, f1 + k * 3 + 2, none⟩ = some (.string x.bytes))) (by kernel_rfl) ⟨o_p1, a_p1, s_p1, d2, e2⟩ (fun hHeld => ?_)
          refine wpAnyH_take (i := 0) (v := ?_) rfl (by kernel_rfl) (by kernel_rfl) (by kernel_rfl) (fun _ _ _ h => h) (Or.inl ⟨by rfl, ?_⟩) (by assumption) ?_
          rotate_left
          · (intro w hSw; (try dsimp only at hSw); go_simp; (try with_reducible rfl))
          try simp only [Act.put, List.getElem_toArray, List.getElem_cons_zero, List.getElem_cons_succ, List.setIfInBounds_toArray, List.set_cons_zero, List.set_cons_succ]
          refine wpAnyH_take (i := 1) (v := ?_) rfl (by kernel_rfl) (by kernel_rfl) (by kernel_rfl) (fun _ _ _ h => h) (Or.inl ⟨by rfl, ?_⟩) (by assumption) ?_
          rotate_left
          · (intro w hSw; (try dsimp only at hSw); go_simp; (try with_reducible rfl))
          try simp only [Act.put, List.getElem_toArray, List.getElem_cons_zero, List.getElem_cons_succ, List.setIfInBounds_toArray, List.set_cons_zero, List.set_cons_succ]
          refine wpAnyH_take (i := 2) (v := ?_) rfl (by kernel_rfl) (by kernel_rfl) (by kernel_rfl) (fun _ _ _ h => h) (Or.inl ⟨by rfl, ?_⟩) (by assumption) ?_
          rotate_left
          · (intro w hSw; (try dsimp only at hSw); go_simp; (try with_reducible rfl))
          try simp only [Act.put, List.getElem_toArray, List.getElem_cons_zero, List.getElem_cons_succ, List.setIfInBounds_toArray, List.set_cons_zero, List.set_cons_succ]
          refine wpAnyH_take (i := 3) (v := ?_) rfl (by kernel_rfl) (by kernel_rfl) (by kernel_rfl) (fun _ _ _ h => h) (Or.inl ⟨by rfl, ?_⟩) (by assumption) ?_
          rotate_left
          · (intro w hSw; (try dsimp only at hSw); go_simp; (try with_reducible rfl))
          try simp only [Act.put, List.getElem_toArray, List.getElem_cons_zero, List.getElem_cons_succ, List.setIfInBounds_toArray, List.set_cons_zero, List.set_cons_succ]
          refine wpAnyH_take (i := 4) (v := ?_) rfl (by kernel_rfl) (by kernel_rfl) (by kernel_rfl) (fun _ _ _ h => h) (Or.inl ⟨by rfl, ?_⟩) (by assumption) ?_
          rotate_left
          · (intro w hSw; (try dsimp only at hSw); go_simp; (try with_reducible rfl))
          try simp only [Act.put, List.getElem_toArray, List.getElem_cons_zero, List.getElem_cons_succ, List.setIfInBounds_toArray, List.set_cons_zero, List.set_cons_succ]
          refine wpAnyH_take (i := 5) (v := ?_) rfl (by kernel_rfl) (by kernel_rfl) (by kernel_rfl) (fun _ _ _ h => h) (Or.inl ⟨by rfl, ?_⟩) (by assumption) ?_
          rotate_left
          · (intro w hSw; (try dsimp only at hSw); go_simp; (try with_reducible rfl))
          try simp only [Act.put, List.getElem_toArray, List.getElem_cons_zero, List.getElem_cons_succ, List.setIfInBounds_toArray, List.set_cons_zero, List.set_cons_succ]
          refine wpAnyH_take (i := 6) (v := ?_) rfl (by kernel_rfl) (by kernel_rfl) (by kernel_rfl) (fun _ _ _ h => h) (Or.inl ⟨by rfl, ?_⟩) (by assumption) ?_
          rotate_left
          · (intro w hSw; (try dsimp only at hSw); go_simp; (try with_reducible rfl))
          try simp only [Act.put, List.getElem_toArray, List.getElem_cons_zero, List.getElem_cons_succ, List.setIfInBounds_toArray, List.set_cons_zero, List.set_cons_succ]
          refine wpAnyH_take (i := 7) (v := ?_) rfl (by kernel_rfl) (by kernel_rfl) (by kernel_rfl) (fun _ _ _ h => h) (Or.inl ⟨by rfl, ?_⟩) (by assumption) ?_
          rotate_left
          · (intro w hSw; (try dsimp only at hSw); go_simp; (try with_reducible rfl))
          try simp only [Act.put, List.getElem_toArray, List.getElem_cons_zero, List.getElem_cons_succ, List.setIfInBounds_toArray, List.set_cons_zero, List.set_cons_succ]
          refine wpAnyH_take (i := 8) (v := ?_) rfl (by kernel_rfl) (by kernel_rfl) (by kernel_rfl) (fun _ _ _ h => h) (Or.inl ⟨by rfl, ?_⟩) (by assumption) ?_
          rotate_left
          · (intro w hSw; (try dsimp only at hSw); go_simp; (try with_reducible rfl))
          try simp only [Act.put, List.getElem_toArray, List.getElem_cons_zero, List.getElem_cons_succ, List.setIfInBounds_toArray, List.set_cons_zero, List.set_cons_succ]
          refine wpAnyH_take (i := 9) (v := ?_) rfl (by kernel_rfl) (by kernel_rfl) (by kernel_rfl) (fun _ _ _ h => h) (Or.inl ⟨by rfl, ?_⟩) (by assumption) ?_
          rotate_left
          · (intro w hSw; (try dsimp only at hSw); go_simp; (try with_reducible rfl))
          try simp only [Act.put, List.getElem_toArray, List.getElem_cons_zero, List.getElem_cons_succ, List.setIfInBounds_toArray, List.set_cons_zero, List.set_cons_succ]
          refine wpAnyH_take (i := 10) (v := ?_) rfl (by kernel_rfl) (by kernel_rfl) (by kernel_rfl) (fun _ _ _ h => h) (Or.inl ⟨by rfl, ?_⟩) (by assumption) ?_
          rotate_left
          · (intro w hSw; (try dsimp only at hSw); go_simp; (try with_reducible rfl))
          try simp only [Act.put, List.getElem_toArray, List.getElem_cons_zero, List.getElem_cons_succ, List.setIfInBounds_toArray, List.set_cons_zero, List.set_cons_succ]
          refine wpAnyH_take (i := 11) (v := ?_) rfl (by kernel_rfl) (by kernel_rfl) (by kernel_rfl) (fun _ _ _ h => h) (Or.inl ⟨by rfl, ?_⟩) (by assumption) ?_
          rotate_left
          · (intro w hSw; (try dsimp only at hSw); go_simp; (try with_reducible rfl))
          try simp only [Act.put, List.getElem_toArray, List.getElem_cons_zero, List.getElem_cons_succ, List.setIfInBounds_toArray, List.set_cons_zero, List.set_cons_succ]
          refine wpAnyH_take (i := 12) (v := ?_) rfl (by kernel_rfl) (by kernel_rfl) (by kernel_rfl) (fun _ _ _ h => h) (Or.inl ⟨by rfl, ?_⟩) (by assumption) ?_
          rotate_left
          · (intro w hSw; (try dsimp only at hSw); go_simp; (try with_reducible rfl))
          try simp only [Act.put, List.getElem_toArray, List.getElem_cons_zero, List.getElem_cons_succ, List.setIfInBounds_toArray, List.set_cons_zero, List.set_cons_succ]
          refine wpAnyH_take (i := 13) (v := ?_) rfl (by kernel_rfl) (by kernel_rfl) (by kernel_rfl) (fun _ _ _ h => h) (Or.inl ⟨by rfl, ?_⟩) (by assumption) ?_
          rotate_left
          · (intro w hSw; (try dsimp only at hSw); go_simp; (try with_reducible rfl))
          try simp only [Act.put, List.getElem_toArray, List.getElem_cons_zero, List.getElem_cons_succ, List.setIfInBounds_toArray, List.set_cons_zero, List.set_cons_succ]
          refine wpAnyH_take (i := 14) (v := ?_) rfl (by kernel_rfl) (by kernel_rfl) (by kernel_rfl) (fun _ _ _ h => h) (Or.inl ⟨by rfl, ?_⟩) (by assumption) ?_
          rotate_left
          · (intro w hSw; (try dsimp only at hSw); go_simp; (try with_reducible rfl))
          try simp only [Act.put, List.getElem_toArray, List.getElem_cons_zero, List.getElem_cons_succ, List.setIfInBounds_toArray, List.set_cons_zero, List.set_cons_succ]
          refine wpAnyH_take (i := 15) (v := ?_) rfl (by kernel_rfl) (by kernel_rfl) (by kernel_rfl) (fun _ _ _ h => h) (Or.inl ⟨by rfl, ?_⟩) (by assumption) ?_
          rotate_left
          · (intro w hSw; (try dsimp only at hSw); go_simp; (try with_reducible rfl))
          try simp only [Act.put, List.getElem_toArray, List.getElem_cons_zero, List.getElem_cons_succ, List.setIfInBounds_toArray, List.set_cons_zero, List.set_cons_succ]
          refine wpAnyH_take (i := 16) (v := ?_) rfl (by kernel_rfl) (by kernel_rfl) (by kernel_rfl) (fun _ _ _ h => h) (Or.inl ⟨by rfl, ?_⟩) (by assumption) ?_
          rotate_left
          · (intro w hSw; (try dsimp only at hSw); go_simp; (try with_reducible rfl))
          try simp only [Act.put, List.getElem_toArray, List.getElem_cons_zero, List.getElem_cons_succ, List.setIfInBounds_toArray, List.set_cons_zero, List.set_cons_succ]
          refine wpAnyH_take (i := 17) (v := ?_) rfl (by kernel_rfl) (by kernel_rfl) (by kernel_rfl) (fun _ _ _ h => h) (Or.inl ⟨by rfl, ?_⟩) (by assumption) ?_
          rotate_left
          · (intro w hSw; (try dsimp only at hSw); go_simp; (try with_reducible rfl))
          try simp only [Act.put, List.getElem_toArray, List.getElem_cons_zero, List.getElem_cons_succ, List.setIfInBounds_toArray, List.set_cons_zero, List.set_cons_succ]
          refine wpAnyH_take (i := 18) (v := ?_) rfl (by kernel_rfl) (by kernel_rfl) (by kernel_rfl) (fun _ _ _ h => h) (Or.inl ⟨by rfl, ?_⟩) (by assumption) ?_
          rotate_left
          · (intro w hSw; (try dsimp only at hSw); go_simp; (try with_reducible rfl))
          try simp only [Act.put, List.getElem_toArray, List.getElem_cons_zero, List.getElem_cons_succ, List.setIfInBounds_toArray, List.set_cons_zero, List.set_cons_succ]
          refine wpAnyH_take (i := 19) (v := ?_) rfl (by kernel_rfl) (by kernel_rfl) (by kernel_rfl) (fun _ _ _ h => h) (Or.inl ⟨by rfl, ?_⟩) (by assumption) ?_
          rotate_left
          · (intro w hSw; (try dsimp only at hSw); go_simp; (try with_reducible rfl))
          try simp only [Act.put, List.getElem_toArray, List.getElem_cons_zero, List.getElem_cons_succ, List.setIfInBounds_toArray, List.set_cons_zero, List.set_cons_succ]
          refine wpAnyH_take (i := 20) (v := ?_) rfl (by kernel_rfl) (by kernel_rfl) (by kernel_rfl) (fun _ _ _ h => h) (Or.inl ⟨by rfl, ?_⟩) (by assumption) ?_
          rotate_left
          · (intro w hSw; (try dsimp only at hSw); go_simp; (try with_reducible rfl))
          try simp only [Act.put, List.getElem_toArray, List.getElem_cons_zero, List.getElem_cons_succ, List.setIfInBounds_toArray, List.set_cons_zero, List.set_cons_succ]
          refine wpAnyH_take (i := 21) (v := ?_) rfl (by kernel_rfl) (by kernel_rfl) (by kernel_rfl) (fun _ _ _ h => h) (Or.inl ⟨by rfl, ?_⟩) (by assumption) ?_
          rotate_left
          · (intro w hSw; (try dsimp only at hSw); go_simp; (try with_reducible rfl))
          try simp only [Act.put, List.getElem_toArray, List.getElem_cons_zero, List.getElem_cons_succ, List.setIfInBounds_toArray, List.set_cons_zero, List.set_cons_succ]
          refine wpAnyH_ready (rs := [22]) (by kernel_rfl) (by simp) ?_
          refine AllReadyH.cons rfl (fun K hK => ?_) AllReadyH.nil
          go_simp
          go_at_call 36
          refine (sameFlights_same _ _ n.list _ w7.heap.size B (by exact r7.fl) (by exact rn.fl) (by have := HL.out; omega)).mono ?_
          rintro e w8 ⟨rfl, hst⟩
          have hE8 : Ext W7 w8 := ((Ext.refl _).drew).trans hst.ext
          (try dsimp only)
          refine hK.out _ _ ⟨Ext.cellAt hE8 o_p1, Ext.cellAt hE8 a_p1, Ext.cellAt hE8 s_p1, Ext.cellAt hE8 d2, Ext.cellAt hE8 e2⟩ (fun hHeld => ?_)
          clear hK K
          try simp only [Act.put, List.getElem_toArray, List.getElem_cons_zero, List.getElem_cons_succ, List.setIfInBounds_toArray, List.set_cons_zero, List.set_cons_succ]
          refine wpAnyH_take (i := 23) (v := ?_) rfl (by kernel_rfl) (by kernel_rfl) (by kernel_rfl) (fun _ _ _ h => h) (Or.inl ⟨by rfl, ?_⟩) (by assumption) ?_
          rotate_left
          · (intro w hSw; (try dsimp only at hSw); go_simp; (try with_reducible rfl))
          try simp only [Act.put, List.getElem_toArray, List.getElem_cons_zero, List.getElem_cons_succ, List.setIfInBounds_toArray, List.set_cons_zero, List.set_cons_succ]
          refine wpAnyH_take (i := 24) (v := ?_) rfl (by kernel_rfl) (by kernel_rfl) (by kernel_rfl) (fun _ _ _ h => h) (Or.inl ⟨by rfl, ?_⟩) (by assumption) ?_
          rotate_left
          · (intro w hSw; (try dsimp only at hSw); go_simp; (try with_reducible rfl))
          try simp only [Act.put, List.getElem_toArray, List.getElem_cons_zero, List.getElem_cons_succ, List.setIfInBounds_toArray, List.set_cons_zero, List.set_cons_succ]
          refine wpAnyH_done (by kernel_rfl) ?_ _
          clear hHeld
          clear a_p0 a_f0 a_p1 a_f1 f_p0 f_f0 f_p1 f_f1 f_p2 f_f2 o_p0 o_f0 o_p1 o_f1 s_p0 s_f0 s_p1 s_f1
          replace a := a.ext hE8
          replace f := f.ext hE8
          replace rn := rn.keep (keepE' hE8 (by omega))
          have zzw8 := hE8.size
          replace hX := hX.trans hE8
          clear hE8
          go_wp2_with fail
          go_meet
          exact ⟨hX, by omega, rn, a, f⟩
        · rw [netSpoil_out Hok.out Hfa.out hb] at hss
          injection hss with e1 e2
          subst e1 e2
          go_wp2_with fail
          go_meet
          exact ⟨hX, by omega, rn, a, f⟩
      clear a f rn hX
      obtain ⟨hX, zzc1, rn, a, f⟩ := hcut
      rename World => wc1
      obtain ⟨a_p0, a_f0⟩ := a.at 0 _ rfl
      obtain ⟨a_p1, a_f1⟩ := a.at 1 _ rfl
      obtain ⟨f_p0, f_f0⟩ := f.at 0 _ rfl
      obtain ⟨f_p1, f_f1⟩ := f.at 1 _ rfl
      obtain ⟨f_p2, f_f2⟩ := f.at 2 _ rfl
      obtain ⟨dd, hdd⟩ : ∃ dd, netDouble n (k : Int) = dd := ⟨_, rfl⟩
      obtain ⟨DN, DC⟩ := dd
      go_wp2_with fail
      refine (netDouble_i _ n (k : Int) _ B (by exact rn) (by omega) hsz.out).mono ?_
      rw [hdd]
      rintro e w8 ⟨v8, rfl, o8, hE8⟩
      obtain ⟨u8, rfl, k8⟩ := o8
      obtain ⟨A8, m8, c8, hv8, hl8, -⟩ := id k8
      subst hv8
      have r8 : R_Net w8 w8.heap.size (.agg #[.int .i64 (DN).next, .slice A8 m8 c8]) (DN) := O_Net.rd ⟨_, rfl, k8⟩
      clear k8
      clear a_p0 a_f0 a_p1 a_f1 f_p0 f_f0 f_p1 f_f1 f_p2 f_f2
      replace a := a.ext hE8
      replace f := f.ext hE8
      replace rn := rn.keep (keepE' hE8 (by omega))
      have zzw8 := hE8.size
      replace hX := hX.trans hE8
      clear hE8
      have hW8 : Ext w8 (w8.alloc (.cells #[.int .i64 DN.next, .slice A8 m8 c8] 29)) := by repeat' (first | with_reducible exact Ext.refl _ | with_reducible assumption | with_reducible refine Ext.set ?_ ?_ _ _ | with_reducible refine Ext.alloc ?_ _ | with_reducible refine Ext.drew ?_ | with_reducible refine Ext.drewN ?_ _ | with_reducible refine Ext.trans ?_ (by with_reducible assumption) | omega | (simp; done) | (simp; omega))
      have zW8 : w8.heap.size + 1 ≤ (w8.alloc (.cells #[.int .i64 DN.next, .slice A8 m8 c8] 29)).heap.size := by simp
      have o : Blk (w8.alloc (.cells #[.int .i64 DN.next, .slice A8 m8 c8] 29)) w8.heap.size 29 [.int .i64 DN.next, .slice A8 m8 c8] := (Blk.new w8 #[.int .i64 DN.next, .slice A8 m8 c8] 29 (by first | rfl | simp))
      obtain ⟨a_p0, a_f0⟩ := a.at 0 _ rfl
      obtain ⟨a_p1, a_f1⟩ := a.at 1 _ rfl
      obtain ⟨f_p0, f_f0⟩ := f.at 0 _ rfl
      obtain ⟨f_p1, f_f1⟩ := f.at 1 _ rfl
      obtain ⟨f_p2, f_f2⟩ := f.at 2 _ rfl
      go_upto_region 20 with (fail)
      clear a_p0 a_f0 a_p1 a_f1 f_p0 f_f0 f_p1 f_f1 f_p2 f_f2
      replace a := a.ext hW8
      replace f := f.ext hW8
      replace rn := rn.keep (keepE' hW8 (by omega))
      replace r8 := r8.keep (keepE' hW8 (by omega))
      have zzW8 := hW8.size
      replace hX := hX.trans hW8
      clear hW8
      generalize (w8.alloc (.cells #[.int .i64 DN.next, .slice A8 m8 c8] 29)) = W8 at *
      obtain ⟨a_p0, a_f0⟩ := a.at 0 _ rfl
      obtain ⟨a_p1, a_f1⟩ := a.at 1 _ rfl
      obtain ⟨f_p0, f_f0⟩ := f.at 0 _ rfl
      obtain ⟨f_p1, f_f1⟩ := f.at 1 _ rfl
      obtain ⟨f_p2, f_f2⟩ := f.at 2 _ rfl
      obtain ⟨o_p0, o_f0⟩ := o.at 0 _ rfl
      obtain ⟨o_p1, o_f1⟩ := o.at 1 _ rfl
      go_wp2_with fail
      refine (netDouble_s _ n (k : Int) _ B (by exact rn) (by omega) hsz.out).mono ?_
      rw [hdd]
      rintro e w9 ⟨v9, rfl, o9, hE9⟩
      obtain ⟨u9, rfl, k9⟩ := o9
      obtain ⟨A9, m9, c9, hv9, hl9, -⟩ := id k9
      subst hv9
      have r9 : R_Net w9 w9.heap.size (.agg #[.int .i64 (DN).next, .slice A9 m9 c9]) (DN) := O_Net.rd ⟨_, rfl, k9⟩
      clear k9
      clear a_p0 a_f0 a_p1 a_f1 f_p0 f_f0 f_p1 f_f1 f_p2 f_f2 o_p0 o_f0 o_p1 o_f1
      replace a := a.ext hE9
      replace f := f.ext hE9
      replace o := o.ext hE9
      replace rn := rn.keep (keepE' hE9 (by omega))
      replace r8 := r8.keep (keepE' hE9 (by omega))
      have zzw9 := hE9.size
      replace hX := hX.trans hE9
      clear hE9
      clear r9 hl9
      have hW9 : Ext w9 (w9.alloc (.cells #[.int .i64 DN.next, .slice A9 m9 c9] 29)) := by repeat' (first | with_reducible exact Ext.refl _ | with_reducible assumption | with_reducible refine Ext.set ?_ ?_ _ _ | with_reducible refine Ext.alloc ?_ _ | with_reducible refine Ext.drew ?_ | with_reducible refine Ext.drewN ?_ _ | with_reducible refine Ext.trans ?_ (by with_reducible assumption) | omega | (simp; done) | (simp; omega))
      have zW9 : w9.heap.size + 1 ≤ (w9.alloc (.cells #[.int .i64 DN.next, .slice A9 m9 c9] 29)).heap.size := by simp
      have p : Blk (w9.alloc (.cells #[.int .i64 DN.next, .slice A9 m9 c9] 29)) w9.heap.size 29 [.int .i64 DN.next, .slice A9 m9 c9] := (Blk.new w9 #[.int .i64 DN.next, .slice A9 m9 c9] 29 (by first | rfl | simp))
      obtain ⟨a_p0, a_f0⟩ := a.at 0 _ rfl
      obtain ⟨a_p1, a_f1⟩ := a.at 1 _ rfl
      obtain ⟨f_p0, f_f0⟩ := f.at 0 _ rfl
      obtain ⟨f_p1, f_f1⟩ := f.at 1 _ rfl
      obtain ⟨f_p2, f_f2⟩ := f.at 2 _ rfl
      obtain ⟨o_p0, o_f0⟩ := o.at 0 _ rfl
      obtain ⟨o_p1, o_f1⟩ := o.at 1 _ rfl
      go_upto_region 21 with (fail)
      clear a_p0 a_f0 a_p1 a_f1 f_p0 f_f0 f_p1 f_f1 f_p2 f_f2 o_p0 o_f0 o_p1 o_f1
      replace a := a.ext hW9
      replace f := f.ext hW9
      replace o := o.ext hW9
      replace rn := rn.keep (keepE' hW9 (by omega))
      replace r8 := r8.keep (keepE' hW9 (by omega))
      have zzW9 := hW9.size
      replace hX := hX.trans hW9
      clear hW9
      generalize (w9.alloc (.cells #[.int .i64 DN.next, .slice A9 m9 c9] 29)) = W9 at *
      obtain ⟨a_p0, a_f0⟩ := a.at 0 _ rfl
      obtain ⟨a_p1, a_f1⟩ := a.at 1 _ rfl
      obtain ⟨f_p0, f_f0⟩ := f.at 0 _ rfl
      obtain ⟨f_p1, f_f1⟩ := f.at 1 _ rfl
      obtain ⟨f_p2, f_f2⟩ := f.at 2 _ rfl
      obtain ⟨o_p0, o_f0⟩ := o.at 0 _ rfl
      obtain ⟨o_p1, o_f1⟩ := o.at 1 _ rfl
      obtain ⟨p_p0, p_f0⟩ := p.at 0 _ rfl
      obtain ⟨p_p1, p_f1⟩ := p.at 1 _ rfl
      clear p_p0 p_f0 p_p1 p_f1
      clear p
      go_upto_if 159 with (fail)
      clear a_p0 a_f0 a_p1 a_f1 f_p0 f_f0 f_p1 f_f1 f_p2 f_f2 o_p0 o_f0 o_p1 o_f1
      go_cut [] (fun wx => Ext w wx ∧ B ≤ wx.heap.size ∧ R_Net wx B (.agg #[.int .i64 n.next, .slice A1 m c1]) n ∧ Blk wx (w1.heap.size) 29 [.int .i64 n.next, .slice A1 m c1] ∧ Blk wx (w2.heap.size + 1) 43 [.int .i64 x.id, .int .i64 x.to, .string x.bytes])
      case first =>
        obtain ⟨a_p0, a_f0⟩ := a.at 0 _ rfl
        obtain ⟨a_p1, a_f1⟩ := a.at 1 _ rfl
        obtain ⟨f_p0, f_f0⟩ := f.at 0 _ rfl
        obtain ⟨f_p1, f_f1⟩ := f.at 1 _ rfl
        obtain ⟨f_p2, f_f2⟩ := f.at 2 _ rfl
        obtain ⟨o_p0, o_f0⟩ := o.at 0 _ rfl
        obtain ⟨o_p1, o_f1⟩ := o.at 1 _ rfl
        by_cases hfull : n.list.length = 60 ∨ n.next = 1000000000
        · rw [netDouble_in Hok.out Hfa.out, addNet_full hfull] at hdd
          injection hdd with e1 e2
          subst e1 e2
          go_wp2_with fail
          go_meet
          exact ⟨hX, by omega, rn, a, f⟩
        · obtain ⟨hf1, hf2⟩ := not_or.1 hfull
          rw [netDouble_in Hok.out Hfa.out, addNet_in hf1 hf2] at hdd
          injection hdd with e1 e2
          subst e1 e2
          have hm8 : m8 = m + 1 := by rw [← hl8, ← HL.out]; simp
          have hw8 : IntKind.i64.wrap ((m8 : Int) - 1) = (m : Int) := by rw [show (m8 : Int) - 1 = (m : Int) by omega]; exact IntWalk.i64_in _ (by omega)
          have ht8 : netTake (⟨n.next + 1, n.list ++ [⟨n.next, x.to, x.bytes⟩]⟩ : NetD) (m : Int) = (⟨n.next + 1, n.list⟩, ⟨n.next, x.to, x.bytes⟩, 0) := by
            have h1 : netOk (⟨n.next + 1, n.list ++ [⟨n.next, x.to, x.bytes⟩]⟩ : NetD) = true := netOk_iff.2 (good_twin HG.out (HG.out.each x (List.mem_of_getElem? Hx.out)).1 hf1 hf2)
            have h2 : flAt (⟨n.next + 1, n.list ++ [⟨n.next, x.to, x.bytes⟩]⟩ : NetD).list ((m : Nat) : Int) = some ⟨n.next, x.to, x.bytes⟩ := by rw [flAt_nat, ← HL.out]; simp
            rw [netTake_in h1 h2]
            dsimp only
            rw [← HL.out, offL_last]
          clear hfull hf1 hf2 hl8 hm8
          go_wp2_with fail
          refine (netTake_i _ (⟨n.next + 1, n.list ++ [⟨n.next, x.to, x.bytes⟩]⟩ : NetD) (m : Int) _ w8.heap.size (by exact r8) (by omega) (by dsimp only; rw [List.length_append, HL.out]; simp; omega)).mono ?_
          rw [ht8]
          rintro e w10 ⟨v10, rfl, o10, hE10⟩
          obtain ⟨u10, rfl, k10⟩ := o10
          obtain ⟨A10, m10, c10, hv10, hl10, -⟩ := id k10
          subst hv10
          have r10 : R_Net w10 w10.heap.size (.agg #[.int .i64 ((⟨n.next + 1, n.list⟩ : NetD)).next, .slice A10 m10 c10]) ((⟨n.next + 1, n.list⟩ : NetD)) := O_Net.rd ⟨_, rfl, k10⟩
          clear k10
          clear a_p0 a_f0 a_p1 a_f1 f_p0 f_f0 f_p1 f_f1 f_p2 f_f2 o_p0 o_f0 o_p1 o_f1
          replace a := a.ext hE10
          replace f := f.ext hE10
          replace o := o.ext hE10
          replace rn := rn.keep (keepE' hE10 (by omega))
          replace r8 := r8.keep (keepE' hE10 (by omega))
          have zzw10 := hE10.size
          replace hX := hX.trans hE10
          clear hE10
          have hW10 : Ext w10 ((w10.alloc (.cells #[.int .i64 (n.next + 1), .slice A10 m10 c10] 29)).alloc (.cells #[.int .i64 n.next, .int .i64 x.to, .string x.bytes] 43)) := by repeat' (first | with_reducible exact Ext.refl _ | with_reducible assumption | with_reducible refine Ext.set ?_ ?_ _ _ | with_reducible refine Ext.alloc ?_ _ | with_reducible refine Ext.drew ?_ | with_reducible refine Ext.drewN ?_ _ | with_reducible refine Ext.trans ?_ (by with_reducible assumption) | omega | (simp; done) | (simp; omega))
          have zW10 : w10.heap.size + 2 ≤ ((w10.alloc (.cells #[.int .i64 (n.next + 1), .slice A10 m10 c10] 29)).alloc (.cells #[.int .i64 n.next, .int .i64 x.to, .string x.bytes] 43)).heap.size := by simp
          have p : Blk ((w10.alloc (.cells #[.int .i64 (n.next + 1), .slice A10 m10 c10] 29)).alloc (.cells #[.int .i64 n.next, .int .i64 x.to, .string x.bytes] 43)) w10.heap.size 29 [.int .i64 (n.next + 1), .slice A10 m10 c10] := ((Blk.new w10 #[.int .i64 (n.next + 1), .slice A10 m10 c10] 29 (by first | rfl | simp)).alloc (.cells #[.int .i64 n.next, .int .i64 x.to, .string x.bytes] 43))
          have g : Blk ((w10.alloc (.cells #[.int .i64 (n.next + 1), .slice A10 m10 c10] 29)).alloc (.cells #[.int .i64 n.next, .int .i64 x.to, .string x.bytes] 43)) (w10.heap.size + 1) 43 [.int .i64 n.next, .int .i64 x.to, .string x.bytes] := (Blk.new (w10.alloc (.cells #[.int .i64 (n.next + 1), .slice A10 m10 c10] 29)) #[.int .i64 n.next, .int .i64 x.to, .string x.bytes] 43 (by first | rfl | simp))
          obtain ⟨a_p0, a_f0⟩ := a.at 0 _ rfl
          obtain ⟨a_p1, a_f1⟩ := a.at 1 _ rfl
          obtain ⟨f_p0, f_f0⟩ := f.at 0 _ rfl
          obtain ⟨f_p1, f_f1⟩ := f.at 1 _ rfl
          obtain ⟨f_p2, f_f2⟩ := f.at 2 _ rfl
          obtain ⟨o_p0, o_f0⟩ := o.at 0 _ rfl
          obtain ⟨o_p1, o_f1⟩ := o.at 1 _ rfl
          go_upto_region 25 with (fail)
          clear a_p0 a_f0 a_p1 a_f1 f_p0 f_f0 f_p1 f_f1 f_p2 f_f2 o_p0 o_f0 o_p1 o_f1
          replace a := a.ext hW10
          replace f := f.ext hW10
          replace o := o.ext hW10
          replace rn := rn.keep (keepE' hW10 (by omega))
          replace r8 := r8.keep (keepE' hW10 (by omega))
          replace r10 := r10.keep (keepE' hW10 (by omega))
          have zzW10 := hW10.size
          replace hX := hX.trans hW10
          clear hW10
          generalize ((w10.alloc (.cells #[.int .i64 (n.next + 1), .slice A10 m10 c10] 29)).alloc (.cells #[.int .i64 n.next, .int .i64 x.to, .string x.bytes] 43)) = W10 at *
          obtain ⟨a_p0, a_f0⟩ := a.at 0 _ rfl
          obtain ⟨a_p1, a_f1⟩ := a.at 1 _ rfl
          obtain ⟨f_p0, f_f0⟩ := f.at 0 _ rfl
          obtain ⟨f_p1, f_f1⟩ := f.at 1 _ rfl
          obtain ⟨f_p2, f_f2⟩ := f.at 2 _ rfl
          obtain ⟨o_p0, o_f0⟩ := o.at 0 _ rfl
          obtain ⟨o_p1, o_f1⟩ := o.at 1 _ rfl
          obtain ⟨p_p0, p_f0⟩ := p.at 0 _ rfl
          obtain ⟨p_p1, p_f1⟩ := p.at 1 _ rfl
          obtain ⟨g_p0, g_f0⟩ := g.at 0 _ rfl
          obtain ⟨g_p1, g_f1⟩ := g.at 1 _ rfl
          obtain ⟨g_p2, g_f2⟩ := g.at 2 _ rfl
          go_wp2_with fail
          refine (sameFlights_same _ _ n.list _ w10.heap.size B (by exact r10.fl) (by exact rn.fl) (by have := HL.out; omega)).mono ?_
          rintro e w11 ⟨rfl, hst⟩
          have hE11 := hst.ext
          clear a_p0 a_f0 a_p1 a_f1 f_p0 f_f0 f_p1 f_f1 f_p2 f_f2 o_p0 o_f0 o_p1 o_f1 p_p0 p_f0 p_p1 p_f1 g_p0 g_f0 g_p1 g_f1 g_p2 g_f2
          replace a := a.ext hE11
          replace f := f.ext hE11
          replace rn := rn.keep (keepE' hE11 (by omega))
          have zzw11 := hE11.size
          replace hX := hX.trans hE11
          clear hE11
          go_wp2_with fail
          go_meet
          exact ⟨hX, by omega, rn, a, f⟩
      clear a f rn hX
      obtain ⟨hX, zzc2, rn, a, f⟩ := hcut
      rename World => wc2
      obtain ⟨a_p0, a_f0⟩ := a.at 0 _ rfl
      obtain ⟨a_p1, a_f1⟩ := a.at 1 _ rfl
      obtain ⟨f_p0, f_f0⟩ := f.at 0 _ rfl
      obtain ⟨f_p1, f_f1⟩ := f.at 1 _ rfl
      obtain ⟨f_p2, f_f2⟩ := f.at 2 _ rfl
      obtain ⟨b1, f1, rfl, hb1, -⟩ := id (rn.at Hx.out)
      obtain ⟨j, hj⟩ : ∃ j : Nat, (aa : Int).tmod (m : Int) = (j : Int) := ⟨aa % m, by rw [Int.tmod_eq_emod_of_nonneg (by omega)]; simp⟩
      have hjm : j < m := by
        have h1 : (aa : Int).tmod (m : Int) < (m : Int) := by rw [Int.tmod_eq_emod_of_nonneg (by omega)]; exact Int.emod_lt_of_pos _ (by omega)
        omega
      have hwj : IntKind.i64.wrap (j : Int) = (j : Int) := IntWalk.i64_in _ (by omega)
      have hmz : ¬ m = 0 := by omega
      have hjm1 : (j : Int) < (m : Int) := by omega
      go_upto_region 27 with (fail)
      refine wp_region_held_drew (S := (fun w' => w'.cell? ⟨w1.heap.size, 1, none⟩ = some (.slice (some ⟨b1, f1, none⟩) m c1))) (by kernel_rfl) a_p1 (fun hHeld => ?_)
      refine wpAnyH_take (i := 0) (v := ?_) rfl (by kernel_rfl) (by kernel_rfl) (by kernel_rfl) (fun _ _ _ h => h) (Or.inl ⟨by rfl, ?_⟩) (by assumption) ?_
      rotate_left
      · (intro w hSw; (try dsimp only at hSw); go_simp; (try with_reducible rfl))
      try simp only [Act.put, List.getElem_toArray, List.getElem_cons_zero, List.getElem_cons_succ, List.setIfInBounds_toArray, List.set_cons_zero, List.set_cons_succ]
      refine wpAnyH_take (i := 2) (v := ?_) rfl (by kernel_rfl) (by kernel_rfl) (by kernel_rfl) (fun _ _ _ h => h) (Or.inl ⟨by rfl, ?_⟩) (by assumption) ?_
      rotate_left
      · (intro w hSw; (try dsimp only at hSw); go_simp; (try with_reducible rfl))
      try simp only [Act.put, List.getElem_toArray, List.getElem_cons_zero, List.getElem_cons_succ, List.setIfInBounds_toArray, List.set_cons_zero, List.set_cons_succ]
      refine wpAnyH_take (i := 3) (v := ?_) rfl (by kernel_rfl) (by kernel_rfl) (by kernel_rfl) (fun _ _ _ h => h) (Or.inl ⟨by rfl, ?_⟩) (by assumption) ?_
      rotate_left
      · (intro w hSw; (try dsimp only at hSw); go_simp; (try with_reducible rfl))
      try simp only [Act.put, List.getElem_toArray, List.getElem_cons_zero, List.getElem_cons_succ, List.setIfInBounds_toArray, List.set_cons_zero, List.set_cons_succ]
      refine wpAnyH_take (i := 4) (v := ?_) rfl (by kernel_rfl) (by kernel_rfl) (by kernel_rfl) (fun _ _ _ h => h) (Or.inl ⟨by rfl, ?_⟩) (by assumption) ?_
      rotate_left
      · (intro w hSw; (try dsimp only at hSw); go_simp; (try with_reducible rfl))
      try simp only [Act.put, List.getElem_toArray, List.getElem_cons_zero, List.getElem_cons_succ, List.setIfInBounds_toArray, List.set_cons_zero, List.set_cons_succ]
      refine wpAnyH_ready (rs := [1]) (by kernel_rfl) (by simp) ?_
      refine AllReadyH.cons rfl (fun K hK => ?_) AllReadyH.nil
      go_simp
      go_at_call 37
      refine (hat _ (by exact hX.drew.rd hr0 (Nat.le_refl _))).mono ?_
      rintro e w12 ⟨rfl, rfl⟩
      (try dsimp only)
      refine hK.out _ _ a_p1 (fun hHeld => ?_)
      clear hK K
      try simp only [Act.put, List.getElem_toArray, List.getElem_cons_zero, List.getElem_cons_succ, List.setIfInBounds_toArray, List.set_cons_zero, List.set_cons_succ]
      refine wpAnyH_take (i := 5) (v := ?_) rfl (by kernel_rfl) (by kernel_rfl) (by kernel_rfl) (fun _ _ _ h => h) (Or.inl ⟨by rfl, ?_⟩) (by assumption) ?_
      rotate_left
      · (intro w hSw; (try dsimp only at hSw); go_simp; (try with_reducible rfl))
      try simp only [Act.put, List.getElem_toArray, List.getElem_cons_zero, List.getElem_cons_succ, List.setIfInBounds_toArray, List.set_cons_zero, List.set_cons_succ]
      refine wpAnyH_take (i := 6) (v := ?_) rfl (by kernel_rfl) (by kernel_rfl) (by kernel_rfl) (fun _ _ _ h => h) (Or.inl ⟨by rfl, ?_⟩) (by assumption) ?_
      rotate_left
      · (intro w hSw; (try dsimp only at hSw); go_simp; (try with_reducible rfl))
      try simp only [Act.put, List.getElem_toArray, List.getElem_cons_zero, List.getElem_cons_succ, List.setIfInBounds_toArray, List.set_cons_zero, List.set_cons_succ]
      refine wpAnyH_done (by kernel_rfl) ?_ _
      clear hHeld
      clear a_p0 a_f0 a_p1 a_f1 f_p0 f_f0 f_p1 f_f1 f_p2 f_f2
      have hE12 : Ext wc2 wc2.drew := (Ext.refl _).drew
      replace a := a.ext hE12
      replace f := f.ext hE12
      replace rn := rn.keep (keepE' hE12 (by omega))
      have zzwc2d := hE12.size
      replace hX := hX.trans hE12
      clear hE12
      generalize wc2.drew = wd2 at *
      obtain ⟨a_p0, a_f0⟩ := a.at 0 _ rfl
      obtain ⟨a_p1, a_f1⟩ := a.at 1 _ rfl
      obtain ⟨f_p0, f_f0⟩ := f.at 0 _ rfl
      obtain ⟨f_p1, f_f1⟩ := f.at 1 _ rfl
      obtain ⟨f_p2, f_f2⟩ := f.at 2 _ rfl
      obtain ⟨y, hy⟩ : ∃ y, n.list[j]? = some y := ⟨_, List.getElem?_eq_getElem (by rw [HL.out]; exact hjm)⟩
      have hml : (moveL n.list k j x).length = m := by rw [(moveL_perm Hx.out).length_eq]; exact HL.out
      have hmx : (moveL n.list k j x)[j]? = some x := moveL_at (by rw [HL.out]; exact hkm) (by rw [HL.out]; exact hjm)
      have hmv : netMove n (k : Int) (j : Int) = ((⟨n.next, moveL n.list k j x⟩ : NetD), 0) := netMove_in Hok.out Hfa.out (by rw [flAt_nat]; exact hy)
      have hmb : netMove (⟨n.next, moveL n.list k j x⟩ : NetD) (j : Int) (k : Int) = (n, 0) := by
        obtain ⟨z, hz⟩ : ∃ z, (moveL n.list k j x)[k]? = some z := ⟨_, List.getElem?_eq_getElem (by rw [hml]; exact hkm)⟩
        rw [netMove_in (netOk_iff.2 (good_move HG.out Hx.out)) (by rw [flAt_nat]; exact hmx) (by rw [flAt_nat]; exact hz)]
        dsimp only
        rw [move_back Hx.out (by rw [HL.out]; exact hjm)]
      generalize moveL n.list k j x = M at hml hmx hmv hmb
      have Hml := Lib.hid hml
      have Hmx := Lib.hid hmx
      have hnf := Lib.hid (netFor_some Hok.out Hx.out)
      clear hml hmx hy hj hmz
      go_wp2_with fail
      refine (netMove_i _ n (k : Int) (j : Int) _ B (by exact rn) (by omega) hsz.out).mono ?_
      rw [hmv]
      rintro e w13 ⟨v13, rfl, o13, hE13⟩
      obtain ⟨u13, rfl, k13⟩ := o13
      obtain ⟨A13, m13, c13, hv13, hl13, -⟩ := id k13
      subst hv13
      have r13 : R_Net w13 w13.heap.size (.agg #[.int .i64 ((⟨n.next, M⟩ : NetD)).next, .slice A13 m13 c13]) ((⟨n.next, M⟩ : NetD)) := O_Net.rd ⟨_, rfl, k13⟩
      clear k13
      clear a_p0 a_f0 a_p1 a_f1 f_p0 f_f0 f_p1 f_f1 f_p2 f_f2
      replace a := a.ext hE13
      replace f := f.ext hE13
      replace rn := rn.keep (keepE' hE13 (by omega))
      have zzw13 := hE13.size
      replace hX := hX.trans hE13
      clear hE13
      have h13 : m = m13 := by rw [← Hml.out]; exact hl13
      subst h13
      have hW13 : Ext w13 (w13.alloc (.cells #[.int .i64 n.next, .slice A13 m c13] 29)) := by repeat' (first | with_reducible exact Ext.refl _ | with_reducible assumption | with_reducible refine Ext.set ?_ ?_ _ _ | with_reducible refine Ext.alloc ?_ _ | with_reducible refine Ext.drew ?_ | with_reducible refine Ext.drewN ?_ _ | with_reducible refine Ext.trans ?_ (by with_reducible assumption) | omega | (simp; done) | (simp; omega))
      have zW13 : w13.heap.size + 1 ≤ (w13.alloc (.cells #[.int .i64 n.next, .slice A13 m c13] 29)).heap.size := by simp
      have o : Blk (w13.alloc (.cells #[.int .i64 n.next, .slice A13 m c13] 29)) w13.heap.size 29 [.int .i64 n.next, .slice A13 m c13] := (Blk.new w13 #[.int .i64 n.next, .slice A13 m c13] 29 (by first | rfl | simp))
      obtain ⟨a_p0, a_f0⟩ := a.at 0 _ rfl
      obtain ⟨a_p1, a_f1⟩ := a.at 1 _ rfl
      obtain ⟨f_p0, f_f0⟩ := f.at 0 _ rfl
      obtain ⟨f_p1, f_f1⟩ := f.at 1 _ rfl
      obtain ⟨f_p2, f_f2⟩ := f.at 2 _ rfl
      go_upto_region 29 with (fail)
      clear a_p0 a_f0 a_p1 a_f1 f_p0 f_f0 f_p1 f_f1 f_p2 f_f2
      replace a := a.ext hW13
      replace f := f.ext hW13
      replace rn := rn.keep (keepE' hW13 (by omega))
      replace r13 := r13.keep (keepE' hW13 (by omega))
      have zzW13 := hW13.size
      replace hX := hX.trans hW13
      clear hW13
      generalize (w13.alloc (.cells #[.int .i64 n.next, .slice A13 m c13] 29)) = W13 at *
      obtain ⟨a_p0, a_f0⟩ := a.at 0 _ rfl
      obtain ⟨a_p1, a_f1⟩ := a.at 1 _ rfl
      obtain ⟨f_p0, f_f0⟩ := f.at 0 _ rfl
      obtain ⟨f_p1, f_f1⟩ := f.at 1 _ rfl
      obtain ⟨f_p2, f_f2⟩ := f.at 2 _ rfl
      obtain ⟨o_p0, o_f0⟩ := o.at 0 _ rfl
      obtain ⟨o_p1, o_f1⟩ := o.at 1 _ rfl
      go_wp2_with fail
      refine (netMove_i _ (⟨n.next, M⟩ : NetD) (j : Int) (k : Int) _ w13.heap.size (by exact r13) (by omega) (by dsimp only; rw [Hml.out]; omega)).mono ?_
      rw [hmb]
      rintro e w14 ⟨v14, rfl, o14, hE14⟩
      obtain ⟨u14, rfl, k14⟩ := o14
      obtain ⟨A14, m14, c14, hv14, hl14, -⟩ := id k14
      subst hv14
      have r14 : R_Net w14 w14.heap.size (.agg #[.int .i64 (n).next, .slice A14 m14 c14]) (n) := O_Net.rd ⟨_, rfl, k14⟩
      clear k14
      clear a_p0 a_f0 a_p1 a_f1 f_p0 f_f0 f_p1 f_f1 f_p2 f_f2 o_p0 o_f0 o_p1 o_f1
      replace a := a.ext hE14
      replace f := f.ext hE14
      replace o := o.ext hE14
      replace rn := rn.keep (keepE' hE14 (by omega))
      replace r13 := r13.keep (keepE' hE14 (by omega))
      have zzw14 := hE14.size
      replace hX := hX.trans hE14
      clear hE14
      have hW14 : Ext w14 (w14.alloc (.cells #[.int .i64 n.next, .slice A14 m14 c14] 29)) := by repeat' (first | with_reducible exact Ext.refl _ | with_reducible assumption | with_reducible refine Ext.set ?_ ?_ _ _ | with_reducible refine Ext.alloc ?_ _ | with_reducible refine Ext.drew ?_ | with_reducible refine Ext.drewN ?_ _ | with_reducible refine Ext.trans ?_ (by with_reducible assumption) | omega | (simp; done) | (simp; omega))
      have zW14 : w14.heap.size + 1 ≤ (w14.alloc (.cells #[.int .i64 n.next, .slice A14 m14 c14] 29)).heap.size := by simp
      have p : Blk (w14.alloc (.cells #[.int .i64 n.next, .slice A14 m14 c14] 29)) w14.heap.size 29 [.int .i64 n.next, .slice A14 m14 c14] := (Blk.new w14 #[.int .i64 n.next, .slice A14 m14 c14] 29 (by first | rfl | simp))
      obtain ⟨a_p0, a_f0⟩ := a.at 0 _ rfl
      obtain ⟨a_p1, a_f1⟩ := a.at 1 _ rfl
      obtain ⟨f_p0, f_f0⟩ := f.at 0 _ rfl
      obtain ⟨f_p1, f_f1⟩ := f.at 1 _ rfl
      obtain ⟨f_p2, f_f2⟩ := f.at 2 _ rfl
      obtain ⟨o_p0, o_f0⟩ := o.at 0 _ rfl
      obtain ⟨o_p1, o_f1⟩ := o.at 1 _ rfl
      go_upto_region 30 with (fail)
      clear a_p0 a_f0 a_p1 a_f1 f_p0 f_f0 f_p1 f_f1 f_p2 f_f2 o_p0 o_f0 o_p1 o_f1
      replace a := a.ext hW14
      replace f := f.ext hW14
      replace o := o.ext hW14
      replace rn := rn.keep (keepE' hW14 (by omega))
      replace r13 := r13.keep (keepE' hW14 (by omega))
      replace r14 := r14.keep (keepE' hW14 (by omega))
      have zzW14 := hW14.size
      replace hX := hX.trans hW14
      clear hW14
      generalize (w14.alloc (.cells #[.int .i64 n.next, .slice A14 m14 c14] 29)) = W14 at *
      obtain ⟨a_p0, a_f0⟩ := a.at 0 _ rfl
      obtain ⟨a_p1, a_f1⟩ := a.at 1 _ rfl
      obtain ⟨f_p0, f_f0⟩ := f.at 0 _ rfl
      obtain ⟨f_p1, f_f1⟩ := f.at 1 _ rfl
      obtain ⟨f_p2, f_f2⟩ := f.at 2 _ rfl
      obtain ⟨o_p0, o_f0⟩ := o.at 0 _ rfl
      obtain ⟨o_p1, o_f1⟩ := o.at 1 _ rfl
      obtain ⟨p_p0, p_f0⟩ := p.at 0 _ rfl
      obtain ⟨p_p1, p_f1⟩ := p.at 1 _ rfl
      obtain ⟨b13, f13, rfl, hb13, d0, d1, d2⟩ := r13.at Hmx.out
      have hq : ∀ w, (binOp .eql 43 (.agg #[.int .i64 x.id, .int .i64 x.to, .string x.bytes]) (.agg #[.int .i64 x.id, .int .i64 x.to, .string x.bytes])).run Try.prog w = .ok (.bool true) w := fun w => eqlFlight x w
      refine wp_region_held_drew (S := (fun w' => w'.cell? ⟨w13.heap.size, 1, none⟩ = some (.slice (some ⟨b13, f13, none⟩) m c13) ∧ w'.cell? ⟨w1.heap.size, 0, none⟩ = some (.int .i64 n.next) ∧ w'.cell? ⟨w1.heap.size, 1, none⟩ = some (.slice (some ⟨b1, f1, none⟩) m c1) ∧ w'.cell? ⟨w14.heap.size, 1, none⟩ = some (.slice A14 m14 c14) ∧ w'.cell? ⟨w2.heap.size + 1, 0, none⟩ = some (.int .i64 x.id) ∧ w'.cell? ⟨w2.heap.size + 1, 1, none⟩ = some (.int .i64 x.to) ∧ w'.cell? ⟨w2.heap.size + 1, 2, none⟩ = some (.string x.bytes) ∧ w'.cell? ⟨b13, f13 + j * 3, none⟩ = some (.int .i64 x.id) ∧ w'.cell? ⟨b13, f13 + j * 3 + 1, none⟩ = some (.int .i64 x.to) ∧ w'.cell? ⟨b13, f13 + j * 3 + 2, none⟩ = some (.string x.bytes))) (by kernel_rfl) ⟨o_p1, a_p0, a_p1, p_p1, f_p0, f_p1, f_p2, d0, d1, d2⟩ (fun hHeld => ?_)
      refine wpAnyH_take (i := 0) (v := ?_) rfl (by kernel_rfl) (by kernel_rfl) (by kernel_rfl) (fun _ _ _ h => h) (Or.inl ⟨by rfl, ?_⟩) (by assumption) ?_
      rotate_left
      · (intro w hSw; (try dsimp only at hSw); go_simp; (try with_reducible rfl))
      try simp only [Act.put, List.getElem_toArray, List.getElem_cons_zero, List.getElem_cons_succ, List.setIfInBounds_toArray, List.set_cons_zero, List.set_cons_succ]
      refine wpAnyH_take (i := 1) (v := ?_) rfl (by kernel_rfl) (by kernel_rfl) (by kernel_rfl) (fun _ _ _ h => h) (Or.inl ⟨by rfl, ?_⟩) (by assumption) ?_
      rotate_left
      · (intro w hSw; (try dsimp only at hSw); go_simp; (try with_reducible rfl))
      try simp only [Act.put, List.getElem_toArray, List.getElem_cons_zero, List.getElem_cons_succ, List.setIfInBounds_toArray, List.set_cons_zero, List.set_cons_succ]
      refine wpAnyH_take (i := 2) (v := ?_) rfl (by kernel_rfl) (by kernel_rfl) (by kernel_rfl) (fun _ _ _ h => h) (Or.inl ⟨by rfl, ?_⟩) (by assumption) ?_
      rotate_left
      · (intro w hSw; (try dsimp only at hSw); go_simp; (try with_reducible rfl))
      try simp only [Act.put, List.getElem_toArray, List.getElem_cons_zero, List.getElem_cons_succ, List.setIfInBounds_toArray, List.set_cons_zero, List.set_cons_succ]
      refine wpAnyH_take (i := 3) (v := ?_) rfl (by kernel_rfl) (by kernel_rfl) (by kernel_rfl) (fun _ _ _ h => h) (Or.inl ⟨by rfl, ?_⟩) (by assumption) ?_
      rotate_left
      · (intro w hSw; (try dsimp only at hSw); go_simp; (try with_reducible rfl))
      try simp only [Act.put, List.getElem_toArray, List.getElem_cons_zero, List.getElem_cons_succ, List.setIfInBounds_toArray, List.set_cons_zero, List.set_cons_succ]
      refine wpAnyH_take (i := 4) (v := ?_) rfl (by kernel_rfl) (by kernel_rfl) (by kernel_rfl) (fun _ _ _ h => h) (Or.inl ⟨by rfl, ?_⟩) (by assumption) ?_
      rotate_left
      · (intro w hSw; (try dsimp only at hSw); go_simp; (try with_reducible rfl))
      try simp only [Act.put, List.getElem_toArray, List.getElem_cons_zero, List.getElem_cons_succ, List.setIfInBounds_toArray, List.set_cons_zero, List.set_cons_succ]
      refine wpAnyH_take (i := 5) (v := ?_) rfl (by kernel_rfl) (by kernel_rfl) (by kernel_rfl) (fun _ _ _ h => h) (Or.inl ⟨by rfl, ?_⟩) (by assumption) ?_
      rotate_left
      · (intro w hSw; (try dsimp only at hSw); go_simp; (try with_reducible rfl))
      try simp only [Act.put, List.getElem_toArray, List.getElem_cons_zero, List.getElem_cons_succ, List.setIfInBounds_toArray, List.set_cons_zero, List.set_cons_succ]
      refine wpAnyH_take (i := 6) (v := ?_) rfl (by kernel_rfl) (by kernel_rfl) (by kernel_rfl) (fun _ _ _ h => h) (Or.inl ⟨by rfl, ?_⟩) (by assumption) ?_
      rotate_left
      · (intro w hSw; (try dsimp only at hSw); go_simp; (try with_reducible rfl))
      try simp only [Act.put, List.getElem_toArray, List.getElem_cons_zero, List.getElem_cons_succ, List.setIfInBounds_toArray, List.set_cons_zero, List.set_cons_succ]
      refine wpAnyH_take (i := 7) (v := ?_) rfl (by kernel_rfl) (by kernel_rfl) (by kernel_rfl) (fun _ _ _ h => h) (Or.inl ⟨by rfl, ?_⟩) (by assumption) ?_
      rotate_left
      · (intro w hSw; (try dsimp only at hSw); go_simp; (try with_reducible rfl))
      try simp only [Act.put, List.getElem_toArray, List.getElem_cons_zero, List.getElem_cons_succ, List.setIfInBounds_toArray, List.set_cons_zero, List.set_cons_succ]
      refine wpAnyH_take (i := 8) (v := ?_) rfl (by kernel_rfl) (by kernel_rfl) (by kernel_rfl) (fun _ _ _ h => h) (Or.inl ⟨by rfl, ?_⟩) (by assumption) ?_
      rotate_left
      · (intro w hSw; (try dsimp only at hSw); go_simp; (try with_reducible rfl))
      try simp only [Act.put, List.getElem_toArray, List.getElem_cons_zero, List.getElem_cons_succ, List.setIfInBounds_toArray, List.set_cons_zero, List.set_cons_succ]
      refine wpAnyH_take (i := 9) (v := ?_) rfl (by kernel_rfl) (by kernel_rfl) (by kernel_rfl) (fun _ _ _ h => h) (Or.inl ⟨by rfl, ?_⟩) (by assumption) ?_
      rotate_left
      · (intro w hSw; (try dsimp only at hSw); go_simp; (try with_reducible rfl))
      try simp only [Act.put, List.getElem_toArray, List.getElem_cons_zero, List.getElem_cons_succ, List.setIfInBounds_toArray, List.set_cons_zero, List.set_cons_succ]
      refine wpAnyH_take (i := 10) (v := ?_) rfl (by kernel_rfl) (by kernel_rfl) (by kernel_rfl) (fun _ _ _ h => h) (Or.inl ⟨by rfl, ?_⟩) (by assumption) ?_
      rotate_left
      · (intro w hSw; (try dsimp only at hSw); go_simp; (try with_reducible rfl))
      try simp only [Act.put, List.getElem_toArray, List.getElem_cons_zero, List.getElem_cons_succ, List.setIfInBounds_toArray, List.set_cons_zero, List.set_cons_succ]
      refine wpAnyH_take (i := 11) (v := ?_) rfl (by kernel_rfl) (by kernel_rfl) (by kernel_rfl) (fun _ _ _ h => h) (Or.inl ⟨by rfl, ?_⟩) (by assumption) ?_
      rotate_left
      · (intro w hSw; (try dsimp only at hSw); go_simp; (try with_reducible rfl))
      try simp only [Act.put, List.getElem_toArray, List.getElem_cons_zero, List.getElem_cons_succ, List.setIfInBounds_toArray, List.set_cons_zero, List.set_cons_succ]
      refine wpAnyH_take (i := 12) (v := ?_) rfl (by kernel_rfl) (by kernel_rfl) (by kernel_rfl) (fun _ _ _ h => h) (Or.inl ⟨by rfl, ?_⟩) (by assumption) ?_
      rotate_left
      · (intro w hSw; (try dsimp only at hSw); go_simp; (try with_reducible rfl))
      try simp only [Act.put, List.getElem_toArray, List.getElem_cons_zero, List.getElem_cons_succ, List.setIfInBounds_toArray, List.set_cons_zero, List.set_cons_succ]
      refine wpAnyH_take (i := 13) (v := ?_) rfl (by kernel_rfl) (by kernel_rfl) (by kernel_rfl) (fun _ _ _ h => h) (Or.inl ⟨by rfl, ?_⟩) (by assumption) ?_
      rotate_left
      · (intro w hSw; (try dsimp only at hSw); go_simp; (try with_reducible rfl))
      try simp only [Act.put, List.getElem_toArray, List.getElem_cons_zero, List.getElem_cons_succ, List.setIfInBounds_toArray, List.set_cons_zero, List.set_cons_succ]
      refine wpAnyH_take (i := 14) (v := ?_) rfl (by kernel_rfl) (by kernel_rfl) (by kernel_rfl) (fun _ _ _ h => h) (Or.inl ⟨by rfl, ?_⟩) (by assumption) ?_
      rotate_left
      · (intro w hSw; (try dsimp only at hSw); go_simp; (try with_reducible rfl))
      try simp only [Act.put, List.getElem_toArray, List.getElem_cons_zero, List.getElem_cons_succ, List.setIfInBounds_toArray, List.set_cons_zero, List.set_cons_succ]
      refine wpAnyH_take (i := 15) (v := ?_) rfl (by kernel_rfl) (by kernel_rfl) (by kernel_rfl) (fun _ _ _ h => h) (Or.inl ⟨by rfl, ?_⟩) (by assumption) ?_
      rotate_left
      · (intro w hSw; (try dsimp only at hSw); go_simp; (try with_reducible rfl))
      try simp only [Act.put, List.getElem_toArray, List.getElem_cons_zero, List.getElem_cons_succ, List.setIfInBounds_toArray, List.set_cons_zero, List.set_cons_succ]
      refine wpAnyH_take (i := 16) (v := ?_) rfl (by kernel_rfl) (by kernel_rfl) (by kernel_rfl) (fun _ _ _ h => h) (Or.inl ⟨by rfl, ?_⟩) (by assumption) ?_
      rotate_left
      · (intro w hSw; (try dsimp only at hSw); go_simp; (try with_reducible rfl))
      try simp only [Act.put, List.getElem_toArray, List.getElem_cons_zero, List.getElem_cons_succ, List.setIfInBounds_toArray, List.set_cons_zero, List.set_cons_succ]
      refine wpAnyH_take (i := 17) (v := ?_) rfl (by kernel_rfl) (by kernel_rfl) (by kernel_rfl) (fun _ _ _ h => h) (Or.inl ⟨by rfl, ?_⟩) (by assumption) ?_
      rotate_left
      · (intro w hSw; (try dsimp only at hSw); go_simp; (try with_reducible rfl))
      try simp only [Act.put, List.getElem_toArray, List.getElem_cons_zero, List.getElem_cons_succ, List.setIfInBounds_toArray, List.set_cons_zero, List.set_cons_succ]
      refine wpAnyH_take (i := 18) (v := ?_) rfl (by kernel_rfl) (by kernel_rfl) (by kernel_rfl) (fun _ _ _ h => h) (Or.inl ⟨by rfl, ?_⟩) (by assumption) ?_
      rotate_left
      · (intro w hSw; (try dsimp only at hSw); go_simp; (try with_reducible rfl))
      try simp only [Act.put, List.getElem_toArray, List.getElem_cons_zero, List.getElem_cons_succ, List.setIfInBounds_toArray, List.set_cons_zero, List.set_cons_succ]
      refine wpAnyH_take (i := 19) (v := ?_) rfl (by kernel_rfl) (by kernel_rfl) (by kernel_rfl) (fun _ _ _ h => h) (Or.inl ⟨by rfl, ?_⟩) (by assumption) ?_
      rotate_left
      · (intro w hSw; (try dsimp only at hSw); go_simp; (try with_reducible rfl))
      try simp only [Act.put, List.getElem_toArray, List.getElem_cons_zero, List.getElem_cons_succ, List.setIfInBounds_toArray, List.set_cons_zero, List.set_cons_succ]
      refine wpAnyH_take (i := 20) (v := ?_) rfl (by kernel_rfl) (by kernel_rfl) (by kernel_rfl) (fun _ _ _ h => h) (Or.inl ⟨by rfl, ?_⟩) (by assumption) ?_
      rotate_left
      · (intro w hSw; (try dsimp only at hSw); go_simp; (try with_reducible rfl))
      try simp only [Act.put, List.getElem_toArray, List.getElem_cons_zero, List.getElem_cons_succ, List.setIfInBounds_toArray, List.set_cons_zero, List.set_cons_succ]
      refine wpAnyH_take (i := 21) (v := ?_) rfl (by kernel_rfl) (by kernel_rfl) (by kernel_rfl) (fun _ _ _ h => h) (Or.inl ⟨by rfl, ?_⟩) (by assumption) ?_
      rotate_left
      · (intro w hSw; (try dsimp only at hSw); go_simp; (try with_reducible rfl))
      try simp only [Act.put, List.getElem_toArray, List.getElem_cons_zero, List.getElem_cons_succ, List.setIfInBounds_toArray, List.set_cons_zero, List.set_cons_succ]
      refine wpAnyH_take (i := 22) (v := ?_) rfl (by kernel_rfl) (by kernel_rfl) (by kernel_rfl) (fun _ _ _ h => h) (Or.inl ⟨by rfl, ?_⟩) (by assumption) ?_
      rotate_left
      · (intro w hSw; (try dsimp only at hSw); go_simp; (try with_reducible rfl))
      try simp only [Act.put, List.getElem_toArray, List.getElem_cons_zero, List.getElem_cons_succ, List.setIfInBounds_toArray, List.set_cons_zero, List.set_cons_succ]
      refine wpAnyH_take (i := 23) (v := ?_) rfl (by kernel_rfl) (by kernel_rfl) (by kernel_rfl) (fun _ _ _ h => h) (Or.inl ⟨by rfl, ?_⟩) (by assumption) ?_
      rotate_left
      · (intro w hSw; (try dsimp only at hSw); go_simp; (try with_reducible rfl))
      try simp only [Act.put, List.getElem_toArray, List.getElem_cons_zero, List.getElem_cons_succ, List.setIfInBounds_toArray, List.set_cons_zero, List.set_cons_succ]
      refine wpAnyH_take (i := 24) (v := ?_) rfl (by kernel_rfl) (by kernel_rfl) (by kernel_rfl) (fun _ _ _ h => h) (Or.inl ⟨by rfl, ?_⟩) (by assumption) ?_
      rotate_left
      · (intro w hSw; (try dsimp only at hSw); go_simp; (try with_reducible rfl))
      try simp only [Act.put, List.getElem_toArray, List.getElem_cons_zero, List.getElem_cons_succ, List.setIfInBounds_toArray, List.set_cons_zero, List.set_cons_succ]
      refine wpAnyH_take (i := 25) (v := ?_) rfl (by kernel_rfl) (by kernel_rfl) (by kernel_rfl) (fun _ _ _ h => h) (Or.inl ⟨by rfl, ?_⟩) (by assumption) ?_
      rotate_left
      · (intro w hSw; (try dsimp only at hSw); go_simp; (try with_reducible rfl))
      try simp only [Act.put, List.getElem_toArray, List.getElem_cons_zero, List.getElem_cons_succ, List.setIfInBounds_toArray, List.set_cons_zero, List.set_cons_succ]
      refine wpAnyH_take (i := 26) (v := ?_) rfl (by kernel_rfl) (by kernel_rfl) (by kernel_rfl) (fun _ _ _ h => h) (Or.inl ⟨by rfl, ?_⟩) (by assumption) ?_
      rotate_left
      · (intro w hSw; (try dsimp only at hSw); go_simp; (try with_reducible rfl))
      try simp only [Act.put, List.getElem_toArray, List.getElem_cons_zero, List.getElem_cons_succ, List.setIfInBounds_toArray, List.set_cons_zero, List.set_cons_succ]
      refine wpAnyH_take (i := 27) (v := ?_) rfl (by kernel_rfl) (by kernel_rfl) (by kernel_rfl) (fun _ _ _ h => h) (Or.inl ⟨by rfl, ?_⟩) (by assumption) ?_
      rotate_left
      · (intro w hSw; (try dsimp only at hSw); go_simp; (try with_reducible rfl))
      try simp only [Act.put, List.getElem_toArray, List.getElem_cons_zero, List.getElem_cons_succ, List.setIfInBounds_toArray, List.set_cons_zero, List.set_cons_succ]
      refine wpAnyH_take (i := 28) (v := ?_) rfl (by kernel_rfl) (by kernel_rfl) (by kernel_rfl) (fun _ _ _ h => h) (Or.inl ⟨by rfl, ?_⟩) (by assumption) ?_
      rotate_left
      · (intro w hSw; (try dsimp only at hSw); go_simp; (try with_reducible rfl))
      try simp only [Act.put, List.getElem_toArray, List.getElem_cons_zero, List.getElem_cons_succ, List.setIfInBounds_toArray, List.set_cons_zero, List.set_cons_succ]
      refine wpAnyH_ready (rs := [29]) (by kernel_rfl) (by simp) ?_
      refine AllReadyH.cons rfl (fun K hK => ?_) AllReadyH.nil
      go_simp
      go_at_call 36
      refine (sameFlights_same _ _ n.list _ w14.heap.size B (by exact r14.fl) (by exact rn.fl) (by have := HL.out; omega)).mono ?_
      rintro e w15 ⟨rfl, hst⟩
      have hE15 : Ext W14 w15 := ((Ext.refl _).drew).trans hst.ext
      have hzz15 := hE15.size
      (try dsimp only)
      refine hK.out _ _ ⟨Ext.cellAt hE15 o_p1, Ext.cellAt hE15 a_p0, Ext.cellAt hE15 a_p1, Ext.cellAt hE15 p_p1, Ext.cellAt hE15 f_p0, Ext.cellAt hE15 f_p1, Ext.cellAt hE15 f_p2, Ext.cellAt hE15 d0, Ext.cellAt hE15 d1, Ext.cellAt hE15 d2⟩ (fun hHeld => ?_)
      clear hK K
      try simp only [Act.put, List.getElem_toArray, List.getElem_cons_zero, List.getElem_cons_succ, List.setIfInBounds_toArray, List.set_cons_zero, List.set_cons_succ]
      refine wpAnyH_take (i := 30) (v := ?_) rfl (by kernel_rfl) (by kernel_rfl) (by kernel_rfl) (fun _ _ _ h => h) (Or.inl ⟨by rfl, ?_⟩) (by assumption) ?_
      rotate_left
      · (intro w hSw; (try dsimp only at hSw); go_simp; (try with_reducible rfl))
      try simp only [Act.put, List.getElem_toArray, List.getElem_cons_zero, List.getElem_cons_succ, List.setIfInBounds_toArray, List.set_cons_zero, List.set_cons_succ]
      refine wpAnyH_take (i := 31) (v := ?_) rfl (by kernel_rfl) (by kernel_rfl) (by kernel_rfl) (fun _ _ _ h => h) (Or.inl ⟨by rfl, ?_⟩) (by assumption) ?_
      rotate_left
      · (intro w hSw; (try dsimp only at hSw); go_simp; (try with_reducible rfl))
      try simp only [Act.put, List.getElem_toArray, List.getElem_cons_zero, List.getElem_cons_succ, List.setIfInBounds_toArray, List.set_cons_zero, List.set_cons_succ]
      refine wpAnyH_take (i := 32) (v := ?_) rfl (by kernel_rfl) (by kernel_rfl) (by kernel_rfl) (fun _ _ _ h => h) (Or.inl ⟨by rfl, ?_⟩) (by assumption) ?_
      rotate_left
      · (intro w hSw; (try dsimp only at hSw); go_simp; (try with_reducible rfl))
      try simp only [Act.put, List.getElem_toArray, List.getElem_cons_zero, List.getElem_cons_succ, List.setIfInBounds_toArray, List.set_cons_zero, List.set_cons_succ]
      refine wpAnyH_take (i := 33) (v := ?_) rfl (by kernel_rfl) (by kernel_rfl) (by kernel_rfl) (fun _ _ _ h => h) (Or.inl ⟨by rfl, ?_⟩) (by assumption) ?_
      rotate_left
      · (intro w hSw; (try dsimp only at hSw); go_simp; (try with_reducible rfl))
      try simp only [Act.put, List.getElem_toArray, List.getElem_cons_zero, List.getElem_cons_succ, List.setIfInBounds_toArray, List.set_cons_zero, List.set_cons_succ]
      refine wpAnyH_take (i := 34) (v := ?_) rfl (by kernel_rfl) (by kernel_rfl) (by kernel_rfl) (fun _ _ _ h => h) (Or.inl ⟨by rfl, ?_⟩) (by assumption) ?_
      rotate_left
      · (intro w hSw; (try dsimp only at hSw); go_simp; (try with_reducible rfl))
      try simp only [Act.put, List.getElem_toArray, List.getElem_cons_zero, List.getElem_cons_succ, List.setIfInBounds_toArray, List.set_cons_zero, List.set_cons_succ]
      refine wpAnyH_ready (rs := [35]) (by kernel_rfl) (by simp) ?_
      refine AllReadyH.cons rfl (fun K hK => ?_) AllReadyH.nil
      go_simp
      go_at_call 17
      refine (netFor_i _ n x.to _ B (by exact rn.keep (keepE' hE15 (by omega))) (by omega) (by have := HL.out; omega)).mono ?_
      rintro e w16 ⟨v16, rfl, o16, hE16⟩
      obtain ⟨A16, m16, c16, rfl, hl16, -⟩ := id o16
      have hE17 := hE15.trans hE16
      have hm16 : 0 < m16 := hl16 ▸ hnf.out
      have hm17 : (0 : Int) < (m16 : Int) := by omega
      clear hl16 o16
      (try dsimp only)
      refine hK.out _ _ ⟨Ext.cellAt hE17 o_p1, Ext.cellAt hE17 a_p0, Ext.cellAt hE17 a_p1, Ext.cellAt hE17 p_p1, Ext.cellAt hE17 f_p0, Ext.cellAt hE17 f_p1, Ext.cellAt hE17 f_p2, Ext.cellAt hE17 d0, Ext.cellAt hE17 d1, Ext.cellAt hE17 d2⟩ (fun hHeld => ?_)
      clear hK K
      try simp only [Act.put, List.getElem_toArray, List.getElem_cons_zero, List.getElem_cons_succ, List.setIfInBounds_toArray, List.set_cons_zero, List.set_cons_succ]
      refine wpAnyH_take (i := 36) (v := ?_) rfl (by kernel_rfl) (by kernel_rfl) (by kernel_rfl) (fun _ _ _ h => h) (Or.inl ⟨by rfl, ?_⟩) (by assumption) ?_
      rotate_left
      · (intro w hSw; (try dsimp only at hSw); go_simp; (try with_reducible rfl))
      try simp only [Act.put, List.getElem_toArray, List.getElem_cons_zero, List.getElem_cons_succ, List.setIfInBounds_toArray, List.set_cons_zero, List.set_cons_succ]
      refine wpAnyH_take (i := 37) (v := ?_) rfl (by kernel_rfl) (by kernel_rfl) (by kernel_rfl) (fun _ _ _ h => h) (Or.inl ⟨by rfl, ?_⟩) (by assumption) ?_
      rotate_left
      · (intro w hSw; (try dsimp only at hSw); go_simp; (try with_reducible rfl))
      try simp only [Act.put, List.getElem_toArray, List.getElem_cons_zero, List.getElem_cons_succ, List.setIfInBounds_toArray, List.set_cons_zero, List.set_cons_succ]
      refine wpAnyH_take (i := 38) (v := ?_) rfl (by kernel_rfl) (by kernel_rfl) (by kernel_rfl) (fun _ _ _ h => h) (Or.inl ⟨by rfl, ?_⟩) (by assumption) ?_
      rotate_left
      · (intro w hSw; (try dsimp only at hSw); go_simp; (try with_reducible rfl))
      try simp only [Act.put, List.getElem_toArray, List.getElem_cons_zero, List.getElem_cons_succ, List.setIfInBounds_toArray, List.set_cons_zero, List.set_cons_succ]
      refine wpAnyH_take (i := 39) (v := ?_) rfl (by kernel_rfl) (by kernel_rfl) (by kernel_rfl) (fun _ _ _ h => h) (Or.inl ⟨by rfl, ?_⟩) (by assumption) ?_
      rotate_left
      · (intro w hSw; (try dsimp only at hSw); go_simp; (try with_reducible rfl))
      try simp only [Act.put, List.getElem_toArray, List.getElem_cons_zero, List.getElem_cons_succ, List.setIfInBounds_toArray, List.set_cons_zero, List.set_cons_succ]
      refine wpAnyH_done (by kernel_rfl) ?_ _
      clear hHeld
      go_wp2
      go_ret
      exact ⟨rfl, hX.trans hE17⟩

set_option maxRecDepth 100000 in
theorem lifted (os : Os) (started : os.Started) (H : Type) (enc : TypeId × Value → H) :
    ReturnsInHanded {} Try.checked os 10 .any (Rows.fnUnderWaySpec.pre6 enc Try.prog Try.f10 Rows.fnUnderWayRow.domain false) (Rows.fnUnderWaySpec.post enc Try.prog Try.f10 false true false false) := by
  refine returnsInHanded_of_change (C := Try.checked) own started (by kernel_rfl) Try.func10
    (ChangeSpec.witness6 (enc := enc) (C := Try.checked) false ⟨#[], #[.slice none 0 0], []⟩ 8 (by kernel_rfl) (by kernel_rfl) (by kernel_rfl) (by kernel_rfl)) ?_
  intro W base args ds gs before hval0 hW hcnd _
  have hval : ∀ (j : Nat) t v, Try.f10.params[j]? = some t → args[j]? = some v → Value.okWide Try.prog W .any base t v := hval0
  have hW' := hW
  obtain ⟨p, q, hA0, hV, rfl, hfz, hnd⟩ := hW
  have hA : DataW.TrodAll enc Try.prog W 0 (fun _ => true) true Try.f10.params.toList args.toList ds p := hA0
  rw [Try.params10] at hA hval
  obtain ⟨vv0, vs0, dd0, ds0, pp0, qq0, hargs, rfl, rfl, ht0, rr0⟩ := trodAll_cons hA
  obtain ⟨rfl, rfl, rfl⟩ := trodAll_nil rr0
  obtain rfl : args = #[vv0] := by cases args; simp_all
  obtain ⟨rfl, rfl⟩ := trodVars_none hV
  have trd0 := ht0
  have lts0 : ∀ x ∈ pp0, x.block < W.heap.size := by obtain ⟨m, hm⟩ := trd0; exact DataW.trod_lt m _ _ _ hm
  obtain ⟨l0, r0⟩ := open_ByteS_arg (hval 0 50 vv0 rfl rfl) ht0
  clear hA0 hval0
  refine (walk vv0  l0  W r0).mono fun e W' ⟨he, bel⟩ => ?_
  subst he
  exact ⟨_, rfl, _, _, _, [], _, [], hW', trodAll_mk1 (shut_bool Try.underlying4 _), (trodAll_cons_mk (Below.trod laidOut (by kernel_rfl) (of_decide_eq_true (by kernel_rfl)) trd0 bel lts0) trodAll_mk0), rfl, Below.frame bel _, fun h => by cases h⟩

theorem over : Rows.fnUnderWayRow.holds Try.pinned (OpenSpec.ofChange Rows.fnUnderWaySpec) :=
  OpenClaim.holds_of_wide 10 Try.f10 rfl rfl rfl rfl rfl rfl rfl ⟨rfl, rfl, rfl, rfl, rfl⟩ rfl rfl rfl rfl rfl (by as_aux_lemma => kernel_rfl) Try.func10 (by as_aux_lemma => kernel_rfl)
    (of_decide_eq_true (by as_aux_lemma => kernel_rfl)) (by as_aux_lemma => unfold Func.isWrapper; first | (rw [if_pos (by decide +kernel)]; kernel_rfl) | (rw [if_neg (by decide +kernel)]; exact ⟨rfl, rfl⟩))
    (fun os started H enc _ => lifted os started H enc)

theorem proved : Rows.FnUnderWaySaid := over
#print axioms proved
end Go.Proofs.Ytllljddojncemaa.fnUnderWay
