/-
  A flight more: isFlight, added, 'NetSend' on both sides, walked.
-/
import Derived.Test.YtllljddojncemaaNetOkS
import Derived.Test.YtllljddojncemaaNetCopy
import Derived.Test.YtllljddojncemaaNetMath
import Derived.Test.YtllljddojncemaaBlk
import Derived.Deep.DeepCutAuto
namespace Go.Proofs.Ytllljddojncemaa
open Go.RowKit

theorem isFlight_i (v : Value) (n : NetD) (i : Int) (w : World) (B : Nat) (hr : R_Net w B v n) (hsz : n.list.length ≤ 2097152) :
    Calls Try.prog 54 #[v, .int .i64 i] w fun e w' => e = .returned (.bool (flAt n.list i).isSome) ∧ Ext w w' := by
  obtain ⟨u, rfl, A, m, c, rfl, hl, hmc, hcm, hrd⟩ := hr
  rw [← inB_flAt, hl]
  rw [hl] at hsz
  clear hl
  go_enter Try.func54, Try.ntmps54
  go_wp2_with fail
  refine (from_any _ _ _ _).mono ?_
  rintro e w1 ⟨rfl, rfl⟩
  go_wp2
  go_ret
  exact ⟨rfl, by repeat' (first | with_reducible exact Ext.refl _ | with_reducible assumption | with_reducible refine Ext.set ?_ ?_ _ _ | with_reducible refine Ext.alloc ?_ _ | with_reducible refine Ext.drew ?_ | with_reducible refine Ext.drewN ?_ _ | with_reducible refine Ext.trans ?_ (by with_reducible assumption) | omega | (simp; done) | (simp; omega))⟩

set_option maxRecDepth 100000 in
set_option maxHeartbeats 4000000 in
theorem added_i (v : Value) (n : NetD) (tt : Int) (s : ByteArray) (w : World) (B : Nat) (hr : R_Net w B v n) (hB : B ≤ w.heap.size) (h1 : 0 ≤ n.next) (h2 : n.next ≤ 1000000000) (hsz : n.list.length ≤ 60) :
    Calls Try.prog 51 #[v, .int .i64 tt, .string s] w fun e w' => ∃ v', e = .returned (.tuple #[v', .int .i64 (addNet n tt s).2]) ∧ O_Net w' w.heap.size w'.heap.size v' (addNet n tt s).1 ∧ Ext w w' := by
  have hr0 := hr
  obtain ⟨u, rfl, A, m, c, rfl, hl, hmc, hcm, hrd⟩ := hr
  rw [hl] at hsz
  have Hl := Lib.hid hl
  obtain ⟨i0, hi0, hz0, hz1, hz2⟩ := info_parts info_Flight
  clear hl
  have hW0 : Ext w ((w.alloc (.cells #[.int .i64 n.next, .slice A m c] 29)).alloc (.cells #[.int .i64 0, .slice none 0 0] 29)) := by repeat' (first | with_reducible exact Ext.refl _ | with_reducible assumption | with_reducible refine Ext.set ?_ ?_ _ _ | with_reducible refine Ext.alloc ?_ _ | with_reducible refine Ext.drew ?_ | with_reducible refine Ext.drewN ?_ _ | with_reducible refine Ext.trans ?_ (by with_reducible assumption) | omega | (simp; done) | (simp; omega))
  have zW0 : w.heap.size + 2 ≤ ((w.alloc (.cells #[.int .i64 n.next, .slice A m c] 29)).alloc (.cells #[.int .i64 0, .slice none 0 0] 29)).heap.size := by simp
  have x : Blk ((w.alloc (.cells #[.int .i64 n.next, .slice A m c] 29)).alloc (.cells #[.int .i64 0, .slice none 0 0] 29)) w.heap.size 29 [.int .i64 n.next, .slice A m c] := ((Blk.new w #[.int .i64 n.next, .slice A m c] 29 (by first | rfl | simp)).alloc (.cells #[.int .i64 0, .slice none 0 0] 29))
  have y : Blk ((w.alloc (.cells #[.int .i64 n.next, .slice A m c] 29)).alloc (.cells #[.int .i64 0, .slice none 0 0] 29)) (w.heap.size + 1) 29 [.int .i64 0, .slice none 0 0] := (Blk.new (w.alloc (.cells #[.int .i64 n.next, .slice A m c] 29)) #[.int .i64 0, .slice none 0 0] 29 (by first | rfl | simp))
  go_enter Try.func51, Try.ntmps51
  go_wp2_with fail
  generalize ((w.alloc (.cells #[.int .i64 n.next, .slice A m c] 29)).alloc (.cells #[.int .i64 0, .slice none 0 0] 29)) = W0 at *
  refine (copyNet_i _ n _ B (by exact hr0.keep (keepE' hW0 hB)) (by omega) (by rw [Hl.out]; omega)).mono ?_
  rintro e w1 ⟨v1, rfl, o1, hE1⟩
  obtain ⟨u1, rfl, k1⟩ := o1
  obtain ⟨A1, m1, c1, hv1, hl1, ow1⟩ := k1
  subst hv1
  have hmm : m = m1 := by rw [← Hl.out]; exact hl1
  subst hmm
  clear hl1
  have hX1 := hW0.trans hE1
  have hz10 := hE1.size
  replace x := x.ext hE1
  replace y := y.ext hE1
  have hlx := x.lt
  have hly := y.lt
  clear hE1 hW0
  obtain ⟨x_p0, x_f0⟩ := x.at 0 _ rfl
  obtain ⟨x_p1, x_f1⟩ := x.at 1 _ rfl
  obtain ⟨y_p0, y_f0⟩ := y.at 0 _ rfl
  obtain ⟨y_p1, y_f1⟩ := y.at 1 _ rfl
  go_upto_region 2 with (fail)
  clear x_p0 x_f0 x_p1 x_f1 y_p0 y_f0 y_p1 y_f1
  replace x := (x.set 0 (.int .i64 n.next)).set 1 (.slice A1 m c1)
  replace y := (y.far (h := w.heap.size) (by omega) 0 (.int .i64 n.next)).far (h := w.heap.size) (by omega) 1 (.slice A1 m c1)
  have hK : Kp W0.heap.size w1.heap.size w1 ((w1.setCell ⟨w.heap.size, 0, none⟩ (.int .i64 n.next)).setCell ⟨w.heap.size, 1, none⟩ (.slice A1 m c1)) := (show Kp _ _ _ _ by repeat' (first | with_reducible exact Kp.refl _ _ _ | with_reducible assumption | with_reducible refine Kp.set ?_ ?_ _ _ | with_reducible refine Kp.alloc ?_ ?_ _ | with_reducible refine Kp.drew ?_ | with_reducible refine Kp.drewN ?_ _ | with_reducible refine Kp.ext ?_ ?_ (by with_reducible assumption) | with_reducible refine Kp.fr ?_ ?_ ?_ (by with_reducible assumption) | omega | (simp; done) | (simp; omega)))
  replace ow1 := Own.keep ow1 hK
  have hX2 : Ext w ((w1.setCell ⟨w.heap.size, 0, none⟩ (.int .i64 n.next)).setCell ⟨w.heap.size, 1, none⟩ (.slice A1 m c1)) := by repeat' (first | with_reducible exact Ext.refl _ | with_reducible assumption | with_reducible refine Ext.set ?_ ?_ _ _ | with_reducible refine Ext.alloc ?_ _ | with_reducible refine Ext.drew ?_ | with_reducible refine Ext.drewN ?_ _ | with_reducible refine Ext.trans ?_ (by with_reducible assumption) | omega | (simp; done) | (simp; omega))
  have hz21 : w1.heap.size ≤ ((w1.setCell ⟨w.heap.size, 0, none⟩ (.int .i64 n.next)).setCell ⟨w.heap.size, 1, none⟩ (.slice A1 m c1)).heap.size := by simp
  clear hK hX1
  generalize ((w1.setCell ⟨w.heap.size, 0, none⟩ (.int .i64 n.next)).setCell ⟨w.heap.size, 1, none⟩ (.slice A1 m c1)) = w2 at *
  replace hlx := x.lt
  replace hly := y.lt
  obtain ⟨x_p0, x_f0⟩ := x.at 0 _ rfl
  obtain ⟨x_p1, x_f1⟩ := x.at 1 _ rfl
  obtain ⟨y_p0, y_f0⟩ := y.at 0 _ rfl
  obtain ⟨y_p1, y_f1⟩ := y.at 1 _ rfl
  by_cases h60 : m = 60
  · have e1 : ((m : Int) == 60) = true := by simp [h60]
    have e2 : (m == 60) = true := by simp [h60]
    have hf : Hid (addNet n tt s = (n, 3)) := by show _ = _; exact addNet_full (.inl (by rw [Hl.out]; exact h60))
    clear h60
    go_wp2
    rw [hf.out]
    exact bodyPost_ret (v := .tuple #[.agg #[.int .i64 n.next, .slice A1 m c1], .int .i64 3]) (by simp [results, Try.results51, go_sem, y_p0, y_p1]) rfl ⟨_, rfl, ⟨_, rfl, (O_FlightS.keep (OwnS.of ow1 Hl.out) (show Kp _ _ _ _ by repeat' (first | with_reducible exact Kp.refl _ _ _ | with_reducible assumption | with_reducible refine Kp.set ?_ ?_ _ _ | with_reducible refine Kp.alloc ?_ ?_ _ | with_reducible refine Kp.drew ?_ | with_reducible refine Kp.drewN ?_ _ | with_reducible refine Kp.ext ?_ ?_ (by with_reducible assumption) | with_reducible refine Kp.fr ?_ ?_ ?_ (by with_reducible assumption) | omega | (simp; done) | (simp; omega)))).wide (by omega) (by first | (simp; done) | (simp; omega))⟩, by repeat' (first | with_reducible exact Ext.refl _ | with_reducible assumption | with_reducible refine Ext.set ?_ ?_ _ _ | with_reducible refine Ext.alloc ?_ _ | with_reducible refine Ext.drew ?_ | with_reducible refine Ext.drewN ?_ _ | with_reducible refine Ext.trans ?_ (by with_reducible assumption) | omega | (simp; done) | (simp; omega))⟩
  · have e1 : ((m : Int) == 60) = false := by simp; omega
    have e2 : (m == 60) = false := by simp; omega
    by_cases hmax : n.next = 1000000000
    · have e3 : (n.next == 1000000000) = true := by simp [hmax]
      have hf : Hid (addNet n tt s = (n, 3)) := by show _ = _; exact addNet_full (.inr hmax)
      clear hmax
      go_wp2
      rw [hf.out]
      exact bodyPost_ret (v := .tuple #[.agg #[.int .i64 n.next, .slice A1 m c1], .int .i64 3]) (by simp [results, Try.results51, go_sem, y_p0, y_p1]) rfl ⟨_, rfl, ⟨_, rfl, (O_FlightS.keep (OwnS.of ow1 Hl.out) (show Kp _ _ _ _ by repeat' (first | with_reducible exact Kp.refl _ _ _ | with_reducible assumption | with_reducible refine Kp.set ?_ ?_ _ _ | with_reducible refine Kp.alloc ?_ ?_ _ | with_reducible refine Kp.drew ?_ | with_reducible refine Kp.drewN ?_ _ | with_reducible refine Kp.ext ?_ ?_ (by with_reducible assumption) | with_reducible refine Kp.fr ?_ ?_ ?_ (by with_reducible assumption) | omega | (simp; done) | (simp; omega)))).wide (by omega) (by first | (simp; done) | (simp; omega))⟩, by repeat' (first | with_reducible exact Ext.refl _ | with_reducible assumption | with_reducible refine Ext.set ?_ ?_ _ _ | with_reducible refine Ext.alloc ?_ _ | with_reducible refine Ext.drew ?_ | with_reducible refine Ext.drewN ?_ _ | with_reducible refine Ext.trans ?_ (by with_reducible assumption) | omega | (simp; done) | (simp; omega))⟩
    · have e3 : (n.next == 1000000000) = false := by simpa using hmax
      have hf : Hid (addNet n tt s = (⟨n.next + 1, n.list ++ [⟨n.next, tt, s⟩]⟩, 0)) := by show _ = _; exact addNet_in (by rw [Hl.out]; exact h60) hmax
      go_wp2_with (at_builtin; refine wpList_app _ rfl _ _ 27 rfl 43 i0 _ 3 32 Try.underlying27 hi0 hz0 hz1 hz2 rfl (by omega) W0.heap.size w1.heap.size (.slice A1 m c1) m _ rfl (((Ext.refl w2).alloc _).own ow1 (by omega)) (by simp; omega) (by first | omega | (simp; done) | (simp; omega)) (w2.heap.size + 1) (some ⟨w2.heap.size, 0, none⟩) 1 1 (eFlight (⟨n.next, tt, s⟩ : FlightD)) rfl (own_made w2 #[.int .i64 n.next, .int .i64 tt, .string s] 1 43 3 (by unfold maxLen; omega) rfl).rd.2.2.2 (fun u hu => oneCell_Flight [(⟨n.next, tt, s⟩ : FlightD)] u (by simpa using hu)) (by unfold maxLen; omega) (by omega) ?_)
      intro A6 c6 w6 o6 hg6
      have hFr : Fr _ _ _ w6 := Fr.of_grown hg6 (fun g h => ow1.lt g h)
      have hX6 : Ext w w6 := (hX2.alloc _).grown hg6 (fun g h => by have := (ow1.lt g h).1; omega)
      have hz6 := hg6.size
      simp only [World.size_alloc] at hz6
      clear x_p0 x_f0 x_p1 x_f1 y_p0 y_f0 y_p1 y_f1
      replace x := (x.alloc (.cells #[.int .i64 n.next, .int .i64 tt, .string s] 43)).fr hFr (.inl (by omega))
      replace y := (y.alloc (.cells #[.int .i64 n.next, .int .i64 tt, .string s] 43)).fr hFr (.inl (by omega))
      have k6 : O_FlightS ((w6.setCell ⟨w.heap.size, 1, none⟩ (.slice A6 (m + 1) c6))) _ _ _ _ := OwnS.dodge (OwnS.of (l := n.list ++ [(⟨n.next, tt, s⟩ : FlightD)]) (by rw [List.flatMap_append]; simpa using o6) (by rw [List.length_append, Hl.out]; rfl)) x.bt (by decide) 1 (.slice A6 (m + 1) c6)
      replace k6 := OwnS.dodge k6 (x.bt.set _ 1 (.slice A6 (m + 1) c6)) (by decide) 0 (.int .i64 (n.next + 1))
      clear o6 hg6 hFr hmax h60 ow1
      obtain ⟨x_p0, x_f0⟩ := x.at 0 _ rfl
      obtain ⟨x_p1, x_f1⟩ := x.at 1 _ rfl
      obtain ⟨y_p0, y_f0⟩ := y.at 0 _ rfl
      obtain ⟨y_p1, y_f1⟩ := y.at 1 _ rfl
      go_wp2
      rw [hf.out]
      exact bodyPost_ret (v := .tuple #[.agg #[.int .i64 (n.next + 1), .slice A6 (m + 1) c6], .int .i64 0]) (by simp [results, Try.results51, go_sem, y_p0, y_p1]) rfl ⟨_, rfl, ⟨_, rfl, (O_FlightS.keep k6 (show Kp _ _ _ _ by repeat' (first | with_reducible exact Kp.refl _ _ _ | with_reducible assumption | with_reducible refine Kp.set ?_ ?_ _ _ | with_reducible refine Kp.alloc ?_ ?_ _ | with_reducible refine Kp.drew ?_ | with_reducible refine Kp.drewN ?_ _ | with_reducible refine Kp.ext ?_ ?_ (by with_reducible assumption) | with_reducible refine Kp.fr ?_ ?_ ?_ (by with_reducible assumption) | omega | (simp; done) | (simp; omega)))).wide (by omega) (by first | (simp; done) | (simp; omega))⟩, by repeat' (first | with_reducible exact Ext.refl _ | with_reducible assumption | with_reducible refine Ext.set ?_ ?_ _ _ | with_reducible refine Ext.alloc ?_ _ | with_reducible refine Ext.drew ?_ | with_reducible refine Ext.drewN ?_ _ | with_reducible refine Ext.trans ?_ (by with_reducible assumption) | omega | (simp; done) | (simp; omega))⟩

set_option maxRecDepth 100000 in
set_option maxHeartbeats 4000000 in
theorem netSend_i (v : Value) (n : NetD) (tt : Int) (s : ByteArray) (w : World) (B : Nat) (hr : R_Net w B v n) (hB : B ≤ w.heap.size) (hsz : n.list.length ≤ 1048576) :
    Calls Try.prog 23 #[v, .int .i64 tt, .string s] w fun e w' => ∃ v', e = .returned (.tuple #[v', .int .i64 (netSend n tt s).2]) ∧ O_Net w' w.heap.size w'.heap.size v' (netSend n tt s).1 ∧ Ext w w' := by
  have hr0 := hr
  obtain ⟨u, rfl, A, m, c, rfl, hl, hmc, hcm, hrd⟩ := hr
  rw [hl] at hsz
  have Hl := Lib.hid hl
  clear hl
  have hW0 : Ext w ((w.alloc (.cells #[.int .i64 n.next, .slice A m c] 29)).alloc (.cells #[.int .i64 0, .slice none 0 0] 29)) := by repeat' (first | with_reducible exact Ext.refl _ | with_reducible assumption | with_reducible refine Ext.set ?_ ?_ _ _ | with_reducible refine Ext.alloc ?_ _ | with_reducible refine Ext.drew ?_ | with_reducible refine Ext.drewN ?_ _ | with_reducible refine Ext.trans ?_ (by with_reducible assumption) | omega | (simp; done) | (simp; omega))
  have zW0 : w.heap.size + 2 ≤ ((w.alloc (.cells #[.int .i64 n.next, .slice A m c] 29)).alloc (.cells #[.int .i64 0, .slice none 0 0] 29)).heap.size := by simp
  have x : Blk ((w.alloc (.cells #[.int .i64 n.next, .slice A m c] 29)).alloc (.cells #[.int .i64 0, .slice none 0 0] 29)) w.heap.size 29 [.int .i64 n.next, .slice A m c] := ((Blk.new w #[.int .i64 n.next, .slice A m c] 29 (by first | rfl | simp)).alloc (.cells #[.int .i64 0, .slice none 0 0] 29))
  have y : Blk ((w.alloc (.cells #[.int .i64 n.next, .slice A m c] 29)).alloc (.cells #[.int .i64 0, .slice none 0 0] 29)) (w.heap.size + 1) 29 [.int .i64 0, .slice none 0 0] := (Blk.new (w.alloc (.cells #[.int .i64 n.next, .slice A m c] 29)) #[.int .i64 0, .slice none 0 0] 29 (by first | rfl | simp))
  obtain ⟨ok, hok⟩ : ∃ ok, netOk n = ok := ⟨_, rfl⟩
  have Hok := Lib.hid hok
  obtain ⟨fl, hfl⟩ : ∃ fl, flB tt s = fl := ⟨_, rfl⟩
  have Hfl := Lib.hid hfl
  clear hok hfl
  go_enter Try.func23, Try.ntmps23
  go_wp2_with fail
  generalize ((w.alloc (.cells #[.int .i64 n.next, .slice A m c] 29)).alloc (.cells #[.int .i64 0, .slice none 0 0] 29)) = W0 at *
  refine (netOk_i _ n _ B (by exact hr0.keep (keepE' hW0 hB)) (by omega) (by rw [Hl.out]; omega)).mono ?_
  rw [Hok.out]
  rintro e w1 ⟨rfl, hE1⟩
  have hX1 := hW0.trans hE1
  have hz10 := hE1.size
  replace x := x.ext hE1
  replace y := y.ext hE1
  have hlx := x.lt
  have hly := y.lt
  clear hE1 hW0
  obtain ⟨x_p0, x_f0⟩ := x.at 0 _ rfl
  obtain ⟨x_p1, x_f1⟩ := x.at 1 _ rfl
  obtain ⟨y_p0, y_f0⟩ := y.at 0 _ rfl
  obtain ⟨y_p1, y_f1⟩ := y.at 1 _ rfl
  cases ok with
  | false =>
    have hf : Hid (netSend n tt s = (zeroN, 1)) := by show _ = _; exact netSend_bad Hok.out
    go_wp2
    rw [hf.out]
    exact bodyPost_ret (v := .tuple #[.agg #[.int .i64 0, .slice none 0 0], .int .i64 1]) (by simp [results, Try.results23, go_sem, y_p0, y_p1]) rfl ⟨_, rfl, ⟨_, rfl, OwnS.nil _⟩, by repeat' (first | with_reducible exact Ext.refl _ | with_reducible assumption | with_reducible refine Ext.set ?_ ?_ _ _ | with_reducible refine Ext.alloc ?_ _ | with_reducible refine Ext.drew ?_ | with_reducible refine Ext.drewN ?_ _ | with_reducible refine Ext.trans ?_ (by with_reducible assumption) | omega | (simp; done) | (simp; omega))⟩
  | true =>
    obtain ⟨h1, h2, h3⟩ := netOk_parts Hok.out
    rw [Hl.out] at h3
    go_wp2_with fail
    refine (flightOk_any tt s _).mono ?_
    rw [Hfl.out]
    rintro e w2 ⟨rfl, rfl⟩
    cases fl with
    | false =>
      have hf : Hid (netSend n tt s = (zeroN, 1)) := by show _ = _; exact netSend_not Hfl.out
      go_wp2
      rw [hf.out]
      exact bodyPost_ret (v := .tuple #[.agg #[.int .i64 0, .slice none 0 0], .int .i64 1]) (by simp [results, Try.results23, go_sem, y_p0, y_p1]) rfl ⟨_, rfl, ⟨_, rfl, OwnS.nil _⟩, by repeat' (first | with_reducible exact Ext.refl _ | with_reducible assumption | with_reducible refine Ext.set ?_ ?_ _ _ | with_reducible refine Ext.alloc ?_ _ | with_reducible refine Ext.drew ?_ | with_reducible refine Ext.drewN ?_ _ | with_reducible refine Ext.trans ?_ (by with_reducible assumption) | omega | (simp; done) | (simp; omega))⟩
    | true =>
      have hf : Hid (netSend n tt s = addNet n tt s) := by show _ = _; exact netSend_in Hok.out Hfl.out
      have hadd := fun W hW hB' => added_i (.agg #[.int .i64 n.next, .slice A m c]) n tt s W B hW hB' h1 h2 (by rw [Hl.out]; exact h3)
      rw [← hf.out] at hadd
      clear hf
      go_wp2_with fail
      refine (hadd _ (by exact hr0.keep (keepE' hX1 hB)) (by omega)).mono ?_
      rintro e w3 ⟨v3, rfl, o3, hE3⟩
      obtain ⟨u3, rfl, k3⟩ := o3
      obtain ⟨A3, m3, c3, hv3, -⟩ := id k3
      subst hv3
      have hz3 := hE3.size
      have hX3 := hX1.trans hE3
      clear x_p0 x_f0 x_p1 x_f1 y_p0 y_f0 y_p1 y_f1
      replace x := x.ext hE3
      replace y := y.ext hE3
      obtain ⟨x_p0, x_f0⟩ := x.at 0 _ rfl
      obtain ⟨x_p1, x_f1⟩ := x.at 1 _ rfl
      obtain ⟨y_p0, y_f0⟩ := y.at 0 _ rfl
      obtain ⟨y_p1, y_f1⟩ := y.at 1 _ rfl
      clear hE3 hadd
      go_wp2
      exact bodyPost_ret (v := .tuple #[.agg #[.int .i64 (netSend n tt s).1.next, .slice A3 m3 c3], .int .i64 (netSend n tt s).2]) (by simp [results, Try.results23, go_sem, y_p0, y_p1]) rfl ⟨_, rfl, ⟨_, rfl, (O_FlightS.keep k3 (show Kp _ _ _ _ by repeat' (first | with_reducible exact Kp.refl _ _ _ | with_reducible assumption | with_reducible refine Kp.set ?_ ?_ _ _ | with_reducible refine Kp.alloc ?_ ?_ _ | with_reducible refine Kp.drew ?_ | with_reducible refine Kp.drewN ?_ _ | with_reducible refine Kp.ext ?_ ?_ (by with_reducible assumption) | with_reducible refine Kp.fr ?_ ?_ ?_ (by with_reducible assumption) | omega | (simp; done) | (simp; omega)))).wide (by omega) (by first | (simp; done) | (simp; omega))⟩, by repeat' (first | with_reducible exact Ext.refl _ | with_reducible assumption | with_reducible refine Ext.set ?_ ?_ _ _ | with_reducible refine Ext.alloc ?_ _ | with_reducible refine Ext.drew ?_ | with_reducible refine Ext.drewN ?_ _ | with_reducible refine Ext.trans ?_ (by with_reducible assumption) | omega | (simp; done) | (simp; omega))⟩

set_option maxRecDepth 100000 in
set_option maxHeartbeats 4000000 in
theorem netSend_s (v : Value) (n : NetD) (tt : Int) (s : ByteArray) (w : World) (B : Nat) (hr : R_Net w B v n) (hB : B ≤ w.heap.size) (hsz : n.list.length ≤ 1048576) :
    Calls Try.prog 22 #[v, .int .i64 tt, .string s] w fun e w' => ∃ v', e = .returned (.tuple #[v', .int .i64 (netSend n tt s).2]) ∧ O_Net w' w.heap.size w'.heap.size v' (netSend n tt s).1 ∧ Ext w w' := by
  have hr0 := hr
  obtain ⟨u, rfl, A, m, c, rfl, hl, hmc, hcm, hrd⟩ := hr
  rw [hl] at hsz
  have Hl := Lib.hid hl
  obtain ⟨i0, hi0, hz0, hz1, hz2⟩ := info_parts info_Flight
  clear hl
  have hW0 : Ext w (((w.alloc (.cells #[.int .i64 n.next, .slice A m c] 29)).alloc (.cells #[.int .i64 0, .slice none 0 0] 29)).alloc (.cells #[.int .i64 n.next, .int .i64 tt, .string s] 43)) := by repeat' (first | with_reducible exact Ext.refl _ | with_reducible assumption | with_reducible refine Ext.set ?_ ?_ _ _ | with_reducible refine Ext.alloc ?_ _ | with_reducible refine Ext.drew ?_ | with_reducible refine Ext.drewN ?_ _ | with_reducible refine Ext.trans ?_ (by with_reducible assumption) | omega | (simp; done) | (simp; omega))
  have zW0 : w.heap.size + 3 ≤ (((w.alloc (.cells #[.int .i64 n.next, .slice A m c] 29)).alloc (.cells #[.int .i64 0, .slice none 0 0] 29)).alloc (.cells #[.int .i64 n.next, .int .i64 tt, .string s] 43)).heap.size := by simp
  have x : Blk (((w.alloc (.cells #[.int .i64 n.next, .slice A m c] 29)).alloc (.cells #[.int .i64 0, .slice none 0 0] 29)).alloc (.cells #[.int .i64 n.next, .int .i64 tt, .string s] 43)) w.heap.size 29 [.int .i64 n.next, .slice A m c] := (((Blk.new w #[.int .i64 n.next, .slice A m c] 29 (by first | rfl | simp)).alloc (.cells #[.int .i64 0, .slice none 0 0] 29)).alloc (.cells #[.int .i64 n.next, .int .i64 tt, .string s] 43))
  have y : Blk (((w.alloc (.cells #[.int .i64 n.next, .slice A m c] 29)).alloc (.cells #[.int .i64 0, .slice none 0 0] 29)).alloc (.cells #[.int .i64 n.next, .int .i64 tt, .string s] 43)) (w.heap.size + 1) 29 [.int .i64 0, .slice none 0 0] := ((Blk.new (w.alloc (.cells #[.int .i64 n.next, .slice A m c] 29)) #[.int .i64 0, .slice none 0 0] 29 (by first | rfl | simp)).alloc (.cells #[.int .i64 n.next, .int .i64 tt, .string s] 43))
  have f : Blk (((w.alloc (.cells #[.int .i64 n.next, .slice A m c] 29)).alloc (.cells #[.int .i64 0, .slice none 0 0] 29)).alloc (.cells #[.int .i64 n.next, .int .i64 tt, .string s] 43)) (w.heap.size + 2) 43 [.int .i64 n.next, .int .i64 tt, .string s] := (Blk.new ((w.alloc (.cells #[.int .i64 n.next, .slice A m c] 29)).alloc (.cells #[.int .i64 0, .slice none 0 0] 29)) #[.int .i64 n.next, .int .i64 tt, .string s] 43 (by first | rfl | simp))
  obtain ⟨ok, hok⟩ : ∃ ok, netOk n = ok := ⟨_, rfl⟩
  have Hok := Lib.hid hok
  obtain ⟨fl, hfl⟩ : ∃ fl, flB tt s = fl := ⟨_, rfl⟩
  have Hfl := Lib.hid hfl
  clear hok hfl
  go_enter Try.func22, Try.ntmps22
  go_wp2_with fail
  generalize (((w.alloc (.cells #[.int .i64 n.next, .slice A m c] 29)).alloc (.cells #[.int .i64 0, .slice none 0 0] 29)).alloc (.cells #[.int .i64 n.next, .int .i64 tt, .string s] 43)) = W0 at *
  refine (netOk_s _ n _ B (by exact hr0.keep (keepE' hW0 hB)) (by omega) (by rw [Hl.out]; omega)).mono ?_
  rw [Hok.out]
  rintro e w1 ⟨rfl, hE1⟩
  have hX1 := hW0.trans hE1
  have hz10 := hE1.size
  replace x := x.ext hE1
  replace y := y.ext hE1
  replace f := f.ext hE1
  have hlx := x.lt
  have hly := y.lt
  have hlf := f.lt
  clear hE1 hW0
  obtain ⟨x_p0, x_f0⟩ := x.at 0 _ rfl
  obtain ⟨x_p1, x_f1⟩ := x.at 1 _ rfl
  obtain ⟨y_p0, y_f0⟩ := y.at 0 _ rfl
  obtain ⟨y_p1, y_f1⟩ := y.at 1 _ rfl
  obtain ⟨f_p0, f_f0⟩ := f.at 0 _ rfl
  obtain ⟨f_p1, f_f1⟩ := f.at 1 _ rfl
  obtain ⟨f_p2, f_f2⟩ := f.at 2 _ rfl
  cases ok with
  | false =>
    have hf : Hid (netSend n tt s = (zeroN, 1)) := by show _ = _; exact netSend_bad Hok.out
    go_wp2
    rw [hf.out]
    exact bodyPost_ret (v := .tuple #[.agg #[.int .i64 0, .slice none 0 0], .int .i64 1]) (by simp [results, Try.results22, go_sem, y_p0, y_p1]) rfl ⟨_, rfl, ⟨_, rfl, OwnS.nil _⟩, by repeat' (first | with_reducible exact Ext.refl _ | with_reducible assumption | with_reducible refine Ext.set ?_ ?_ _ _ | with_reducible refine Ext.alloc ?_ _ | with_reducible refine Ext.drew ?_ | with_reducible refine Ext.drewN ?_ _ | with_reducible refine Ext.trans ?_ (by with_reducible assumption) | omega | (simp; done) | (simp; omega))⟩
  | true =>
    obtain ⟨h1, h2, h3⟩ := netOk_parts Hok.out
    rw [Hl.out] at h3
    go_wp2_with fail
    refine (l5Flight_any ⟨n.next, tt, s⟩ _).mono ?_
    rw [show flB (FlightD.to (⟨n.next, tt, s⟩ : FlightD)) (⟨n.next, tt, s⟩ : FlightD).bytes = fl from Hfl.out]
    rintro e w2 ⟨rfl, hE2⟩
    have hX2 := hX1.trans hE2
    have hz2' := hE2.size
    clear x_p0 x_f0 x_p1 x_f1 y_p0 y_f0 y_p1 y_f1 f_p0 f_f0 f_p1 f_f1 f_p2 f_f2
    replace x := x.ext hE2
    replace y := y.ext hE2
    replace f := f.ext hE2
    obtain ⟨x_p0, x_f0⟩ := x.at 0 _ rfl
    obtain ⟨x_p1, x_f1⟩ := x.at 1 _ rfl
    obtain ⟨y_p0, y_f0⟩ := y.at 0 _ rfl
    obtain ⟨y_p1, y_f1⟩ := y.at 1 _ rfl
    obtain ⟨f_p0, f_f0⟩ := f.at 0 _ rfl
    obtain ⟨f_p1, f_f1⟩ := f.at 1 _ rfl
    obtain ⟨f_p2, f_f2⟩ := f.at 2 _ rfl
    clear hE2
    cases fl with
    | false =>
      have hf : Hid (netSend n tt s = (zeroN, 1)) := by show _ = _; exact netSend_not Hfl.out
      go_wp2
      rw [hf.out]
      exact bodyPost_ret (v := .tuple #[.agg #[.int .i64 0, .slice none 0 0], .int .i64 1]) (by simp [results, Try.results22, go_sem, y_p0, y_p1]) rfl ⟨_, rfl, ⟨_, rfl, OwnS.nil _⟩, by repeat' (first | with_reducible exact Ext.refl _ | with_reducible assumption | with_reducible refine Ext.set ?_ ?_ _ _ | with_reducible refine Ext.alloc ?_ _ | with_reducible refine Ext.drew ?_ | with_reducible refine Ext.drewN ?_ _ | with_reducible refine Ext.trans ?_ (by with_reducible assumption) | omega | (simp; done) | (simp; omega))⟩
    | true =>
      have hf0 : Hid (netSend n tt s = addNet n tt s) := by show _ = _; exact netSend_in Hok.out Hfl.out
      go_wp2_with fail
      refine (l5Copy_s _ n _ B (by exact hr0.keep (keepE' hX2 hB)) (by omega) (by rw [Hl.out]; omega)).mono ?_
      rintro e w3 ⟨v3, rfl, o3, hE3⟩
      obtain ⟨u3, rfl, k3⟩ := o3
      obtain ⟨A3, m3, c3, hv3, hl3, ow3⟩ := k3
      subst hv3
      have hmm : m = m3 := by rw [← Hl.out]; exact hl3
      subst hmm
      clear hl3
      have hz3 := hE3.size
      have hX3 := hX2.trans hE3
      clear x_p0 x_f0 x_p1 x_f1 y_p0 y_f0 y_p1 y_f1 f_p0 f_f0 f_p1 f_f1 f_p2 f_f2
      replace x := x.ext hE3
      replace y := y.ext hE3
      replace f := f.ext hE3
      clear hE3
      have hW3 : Ext w3 (w3.alloc (.cells #[.int .i64 n.next, .slice A3 m c3] 29)) := by repeat' (first | with_reducible exact Ext.refl _ | with_reducible assumption | with_reducible refine Ext.set ?_ ?_ _ _ | with_reducible refine Ext.alloc ?_ _ | with_reducible refine Ext.drew ?_ | with_reducible refine Ext.drewN ?_ _ | with_reducible refine Ext.trans ?_ (by with_reducible assumption) | omega | (simp; done) | (simp; omega))
      have zW3 : w3.heap.size + 1 ≤ (w3.alloc (.cells #[.int .i64 n.next, .slice A3 m c3] 29)).heap.size := by simp
      have q : Blk (w3.alloc (.cells #[.int .i64 n.next, .slice A3 m c3] 29)) w3.heap.size 29 [.int .i64 n.next, .slice A3 m c3] := (Blk.new w3 #[.int .i64 n.next, .slice A3 m c3] 29 (by first | rfl | simp))
      replace x := x.ext hW3
      replace y := y.ext hW3
      replace f := f.ext hW3
      replace ow3 := hW3.own ow3 (Nat.le_refl _)
      replace hX3 := hX3.trans hW3
      have hlx := x.lt
      have hly := y.lt
      have hlf := f.lt
      have hlq := q.lt
      obtain ⟨x_p0, x_f0⟩ := x.at 0 _ rfl
      obtain ⟨x_p1, x_f1⟩ := x.at 1 _ rfl
      obtain ⟨y_p0, y_f0⟩ := y.at 0 _ rfl
      obtain ⟨y_p1, y_f1⟩ := y.at 1 _ rfl
      obtain ⟨f_p0, f_f0⟩ := f.at 0 _ rfl
      obtain ⟨f_p1, f_f1⟩ := f.at 1 _ rfl
      obtain ⟨f_p2, f_f2⟩ := f.at 2 _ rfl
      obtain ⟨q_p0, q_f0⟩ := q.at 0 _ rfl
      obtain ⟨q_p1, q_f1⟩ := q.at 1 _ rfl
      go_upto_region 5 with (fail)
      clear hW3
      generalize (w3.alloc (.cells #[.int .i64 n.next, .slice A3 m c3] 29)) = W3 at *
      by_cases h60 : m = 60
      · have e1 : ((m : Int) == 60) = true := by simp [h60]
        have e2 : (m == 60) = true := by simp [h60]
        have hf : Hid (netSend n tt s = (n, 3)) := by show _ = _; rw [hf0.out]; exact addNet_full (.inl (by rw [Hl.out]; exact h60))
        clear h60
        go_wp2
        rw [hf.out]
        exact bodyPost_ret (v := .tuple #[.agg #[.int .i64 n.next, .slice A3 m c3], .int .i64 3]) (by simp [results, Try.results22, go_sem, y_p0, y_p1]) rfl ⟨_, rfl, ⟨_, rfl, (O_FlightS.keep (OwnS.of ow3 Hl.out) (show Kp _ _ _ _ by repeat' (first | with_reducible exact Kp.refl _ _ _ | with_reducible assumption | with_reducible refine Kp.set ?_ ?_ _ _ | with_reducible refine Kp.alloc ?_ ?_ _ | with_reducible refine Kp.drew ?_ | with_reducible refine Kp.drewN ?_ _ | with_reducible refine Kp.ext ?_ ?_ (by with_reducible assumption) | with_reducible refine Kp.fr ?_ ?_ ?_ (by with_reducible assumption) | omega | (simp; done) | (simp; omega)))).wide (by omega) (by first | (simp; done) | (simp; omega))⟩, by repeat' (first | with_reducible exact Ext.refl _ | with_reducible assumption | with_reducible refine Ext.set ?_ ?_ _ _ | with_reducible refine Ext.alloc ?_ _ | with_reducible refine Ext.drew ?_ | with_reducible refine Ext.drewN ?_ _ | with_reducible refine Ext.trans ?_ (by with_reducible assumption) | omega | (simp; done) | (simp; omega))⟩
      · have e1 : ((m : Int) == 60) = false := by simp; omega
        have e2 : (m == 60) = false := by simp; omega
        by_cases hmax : n.next = 1000000000
        · have e3 : (n.next == 1000000000) = true := by simp [hmax]
          have hf : Hid (netSend n tt s = (n, 3)) := by show _ = _; rw [hf0.out]; exact addNet_full (.inr hmax)
          clear hmax
          go_wp2
          rw [hf.out]
          exact bodyPost_ret (v := .tuple #[.agg #[.int .i64 n.next, .slice A3 m c3], .int .i64 3]) (by simp [results, Try.results22, go_sem, y_p0, y_p1]) rfl ⟨_, rfl, ⟨_, rfl, (O_FlightS.keep (OwnS.of ow3 Hl.out) (show Kp _ _ _ _ by repeat' (first | with_reducible exact Kp.refl _ _ _ | with_reducible assumption | with_reducible refine Kp.set ?_ ?_ _ _ | with_reducible refine Kp.alloc ?_ ?_ _ | with_reducible refine Kp.drew ?_ | with_reducible refine Kp.drewN ?_ _ | with_reducible refine Kp.ext ?_ ?_ (by with_reducible assumption) | with_reducible refine Kp.fr ?_ ?_ ?_ (by with_reducible assumption) | omega | (simp; done) | (simp; omega)))).wide (by omega) (by first | (simp; done) | (simp; omega))⟩, by repeat' (first | with_reducible exact Ext.refl _ | with_reducible assumption | with_reducible refine Ext.set ?_ ?_ _ _ | with_reducible refine Ext.alloc ?_ _ | with_reducible refine Ext.drew ?_ | with_reducible refine Ext.drewN ?_ _ | with_reducible refine Ext.trans ?_ (by with_reducible assumption) | omega | (simp; done) | (simp; omega))⟩
        · have e3 : (n.next == 1000000000) = false := by simpa using hmax
          have hf : Hid (netSend n tt s = (⟨n.next + 1, n.list ++ [⟨n.next, tt, s⟩]⟩, 0)) := by show _ = _; rw [hf0.out]; exact addNet_in (by rw [Hl.out]; exact h60) hmax
          go_wp2_with (at_builtin; refine wpList_app _ rfl _ _ 27 rfl 43 i0 _ 3 32 Try.underlying27 hi0 hz0 hz1 hz2 rfl (by omega) w2.heap.size w3.heap.size (.slice A3 m c3) m _ rfl (((Ext.refl W3).alloc _).own ow3 (by omega)) (by simp; omega) (by first | omega | (simp; done) | (simp; omega)) (W3.heap.size + 1) (some ⟨W3.heap.size, 0, none⟩) 1 1 (eFlight (⟨n.next, tt, s⟩ : FlightD)) rfl (own_made W3 #[.int .i64 n.next, .int .i64 tt, .string s] 1 43 3 (by unfold maxLen; omega) rfl).rd.2.2.2 (fun u hu => oneCell_Flight [(⟨n.next, tt, s⟩ : FlightD)] u (by simpa using hu)) (by unfold maxLen; omega) (by omega) ?_)
          intro A6 c6 w6 o6 hg6
          have hFr : Fr _ _ _ w6 := Fr.of_grown hg6 (fun g h => ow3.lt g h)
          have hX6 : Ext w w6 := (hX3.alloc _).grown hg6 (fun g h => by have := (ow3.lt g h).1; omega)
          have hz6 := hg6.size
          simp only [World.size_alloc] at hz6
          clear x_p0 x_f0 x_p1 x_f1 y_p0 y_f0 y_p1 y_f1 f_p0 f_f0 f_p1 f_f1 f_p2 f_f2 q_p0 q_f0 q_p1 q_f1
          replace q := (q.alloc (.cells #[.int .i64 n.next, .int .i64 tt, .string s] 43)).fr hFr (.inr (by omega))
          replace y := (y.alloc (.cells #[.int .i64 n.next, .int .i64 tt, .string s] 43)).fr hFr (.inl (by omega))
          have k6 : O_FlightS ((w6.setCell ⟨w3.heap.size, 1, none⟩ (.slice A6 (m + 1) c6))) _ _ _ _ := OwnS.dodge (OwnS.of (l := n.list ++ [(⟨n.next, tt, s⟩ : FlightD)]) (by rw [List.flatMap_append]; simpa using o6) (by rw [List.length_append, Hl.out]; rfl)) q.bt (by decide) 1 (.slice A6 (m + 1) c6)
          replace k6 := OwnS.dodge k6 (q.bt.set _ 1 (.slice A6 (m + 1) c6)) (by decide) 0 (.int .i64 (n.next + 1))
          have q1 : ¬ (w.heap.size + 1 = w3.heap.size) := by omega
          have q2 : ¬ (w3.heap.size = w.heap.size + 1) := by omega
          clear o6 hg6 hFr hmax h60 ow3
          obtain ⟨y_p0, y_f0⟩ := y.at 0 _ rfl
          obtain ⟨y_p1, y_f1⟩ := y.at 1 _ rfl
          obtain ⟨q_p0, q_f0⟩ := q.at 0 _ rfl
          obtain ⟨q_p1, q_f1⟩ := q.at 1 _ rfl
          go_wp2
          rw [hf.out]
          exact bodyPost_ret (v := .tuple #[.agg #[.int .i64 (n.next + 1), .slice A6 (m + 1) c6], .int .i64 0]) (by simp [results, Try.results22, go_sem, y_p0, y_p1]) rfl ⟨_, rfl, ⟨_, rfl, (O_FlightS.keep k6 (show Kp _ _ _ _ by repeat' (first | with_reducible exact Kp.refl _ _ _ | with_reducible assumption | with_reducible refine Kp.set ?_ ?_ _ _ | with_reducible refine Kp.alloc ?_ ?_ _ | with_reducible refine Kp.drew ?_ | with_reducible refine Kp.drewN ?_ _ | with_reducible refine Kp.ext ?_ ?_ (by with_reducible assumption) | with_reducible refine Kp.fr ?_ ?_ ?_ (by with_reducible assumption) | omega | (simp; done) | (simp; omega)))).wide (by omega) (by first | (simp; done) | (simp; omega))⟩, by repeat' (first | with_reducible exact Ext.refl _ | with_reducible assumption | with_reducible refine Ext.set ?_ ?_ _ _ | with_reducible refine Ext.alloc ?_ _ | with_reducible refine Ext.drew ?_ | with_reducible refine Ext.drewN ?_ _ | with_reducible refine Ext.trans ?_ (by with_reducible assumption) | omega | (simp; done) | (simp; omega))⟩

end Go.Proofs.Ytllljddojncemaa
