/-
  Replicas that hold nothing: ReplicaOk and NewReplica on both sides, compared, marked, held.
-/
import Derived.Test.YtbfbdhjeoknjkaaLogNum
import Derived.Test.YtbfbdhjeoknjkaaBlk
import Derived.Deep.DeepCutAuto
import Derived.IntWalk
namespace Go.Proofs.Ytbfbdhjeoknjkaa
open Go.RowKit

set_option maxRecDepth 100000 in
set_option maxHeartbeats 8000000 in
theorem l6Log_s (v : Value) (l : LogD) (n : Int) (w : World) (B : Nat) (hr : R_Log w B v l) (hB : B ≤ w.heap.size) :
    Calls Try.prog 73 #[v, .int .i64 n] w fun e w' => e = .returned (.bool (hasNum l n)) ∧ Ext w w' := by
  have hr0 := hr
  obtain ⟨u, s, t, rfl, hu, hs, ht⟩ := hr
  obtain ⟨A0, n0, c0, hv0, -⟩ := id hu
  obtain ⟨A1, n1, c1, hv1, -⟩ := id hs
  obtain ⟨A2, n2, c2, hv2, hl2, hnc2, hcm2, hrd⟩ := ht
  subst hv0 hv1 hv2
  have Hl2 := Lib.hid hl2
  clear hl2 hu hs
  have hX0 : Ext w (w.alloc (.cells #[.int .i64 l.base, .slice A0 n0 c0, .slice A1 n1 c1, .slice A2 n2 c2] 42)) := by repeat' (first | with_reducible exact Ext.refl _ | with_reducible assumption | with_reducible refine Ext.set ?_ ?_ _ _ | with_reducible refine Ext.alloc ?_ _ | with_reducible refine Ext.drew ?_ | with_reducible refine Ext.drewN ?_ _ | with_reducible refine Ext.trans ?_ (by with_reducible assumption) | omega | (simp; done) | (simp; omega))
  have x00 : Bx (w.alloc (.cells #[.int .i64 l.base, .slice A0 n0 c0, .slice A1 n1 c1, .slice A2 n2 c2] 42)) w.heap.size 0 (.int .i64 l.base) := (Bx.new w #[.int .i64 l.base, .slice A0 n0 c0, .slice A1 n1 c1, .slice A2 n2 c2] 42 0 (.int .i64 l.base) rfl rfl)
  have x01 : Bx (w.alloc (.cells #[.int .i64 l.base, .slice A0 n0 c0, .slice A1 n1 c1, .slice A2 n2 c2] 42)) w.heap.size 1 (.slice A0 n0 c0) := (Bx.new w #[.int .i64 l.base, .slice A0 n0 c0, .slice A1 n1 c1, .slice A2 n2 c2] 42 1 (.slice A0 n0 c0) rfl rfl)
  have x02 : Bx (w.alloc (.cells #[.int .i64 l.base, .slice A0 n0 c0, .slice A1 n1 c1, .slice A2 n2 c2] 42)) w.heap.size 2 (.slice A1 n1 c1) := (Bx.new w #[.int .i64 l.base, .slice A0 n0 c0, .slice A1 n1 c1, .slice A2 n2 c2] 42 2 (.slice A1 n1 c1) rfl rfl)
  have x03 : Bx (w.alloc (.cells #[.int .i64 l.base, .slice A0 n0 c0, .slice A1 n1 c1, .slice A2 n2 c2] 42)) w.heap.size 3 (.slice A2 n2 c2) := (Bx.new w #[.int .i64 l.base, .slice A0 n0 c0, .slice A1 n1 c1, .slice A2 n2 c2] 42 3 (.slice A2 n2 c2) rfl rfl)
  have zz0 : (w.alloc (.cells #[.int .i64 l.base, .slice A0 n0 c0, .slice A1 n1 c1, .slice A2 n2 c2] 42)).heap.size = w.heap.size + 1 := by simp
  obtain ⟨ok, hok⟩ : ∃ ok, logOk l = ok := ⟨_, rfl⟩
  have Hok := Lib.hid hok
  clear hok
  go_enter Try.func73, Try.ntmps73
  go_wp2_with fail
  generalize (w.alloc (.cells #[.int .i64 l.base, .slice A0 n0 c0, .slice A1 n1 c1, .slice A2 n2 c2] 42)) = W0 at *
  obtain ⟨p00, f00⟩ := id x00
  obtain ⟨p01, f01⟩ := id x01
  obtain ⟨p02, f02⟩ := id x02
  obtain ⟨p03, f03⟩ := id x03
  cases ok with
  | false =>
    have hf := Lib.hid (hasNum_no (n := n) Hok.out)
    (first | (go_region_with (first
        | (go_at_call 25; refine (logOk_s _ l _ B (by exact hr0.keep (keepE' (by first | exact hX0 | exact hX0.drew | exact hX0.drewN _) hB)) (by first | omega | (simp; omega))).mono ?_; rw [Hok.out]; rintro e1 w1 ⟨rfl, hE1⟩; have hk1 : Ext W0 w1 := (by first | exact hE1 | exact ((Ext.refl _).drew).trans hE1 | exact ((Ext.refl _).drewN _).trans hE1); have hz1 := hk1.size; have hX1 := hX0.trans hk1; replace x00 := Bx.ext x00 hk1; replace x01 := Bx.ext x01 hk1; replace x02 := Bx.ext x02 hk1; replace x03 := Bx.ext x03 hk1; obtain ⟨p00, f00⟩ := id x00; obtain ⟨p01, f01⟩ := id x01; obtain ⟨p02, f02⟩ := id x02; obtain ⟨p03, f03⟩ := id x03))) | fail)
    all_goals go_wp2
    all_goals go_ret
    all_goals exact ⟨ret_bool hf.out.symm, by repeat' (first | with_reducible exact Ext.refl _ | with_reducible assumption | with_reducible refine Ext.set ?_ ?_ _ _ | with_reducible refine Ext.alloc ?_ _ | with_reducible refine Ext.drew ?_ | with_reducible refine Ext.drewN ?_ _ | with_reducible refine Ext.trans ?_ (by with_reducible assumption) | omega | (simp; done) | (simp; omega))⟩
  | true =>
    have hf := Lib.hid (hasNum_in (n := n) Hok.out)
    have hf2 : Hid (hasNum l n = inB n l.base (l.base + n2)) := by show _ = _; rw [hf.out, Hl2.out]
    have hg := logOk_iff.1 Hok.out
    have h1 := hg.base
    have h2 := hg.many
    have h3 := hg.last
    rw [Hl2.out] at h2 h3
    clear hg hf
    have hle : Hid (logEnd l = l.base + n2) := by show _ = _; rw [logEnd_ok Hok.out, Hl2.out]
    (first | (go_region_with (first
        | (go_at_call 72; refine (l1In_any _ _ _ _).mono ?_; rintro e3 w3 ⟨rfl, rfl⟩)
        | (go_at_call 116; refine (logEnd_s _ l _ B (by exact hr0.keep (keepE' (by first | exact hX1 | exact hX1.drew | exact hX1.drewN _) hB)) (by first | omega | (simp; omega))).mono ?_; rw [hle.out]; rintro e2 w2 ⟨rfl, hE2⟩; have hk2 : Ext w1 w2 := (by first | exact hE2 | exact ((Ext.refl _).drew).trans hE2 | exact ((Ext.refl _).drewN _).trans hE2); have hz2 := hk2.size; have hX2 := hX1.trans hk2; clear p00 f00 p01 f01 p02 f02 p03 f03; replace x00 := Bx.ext x00 hk2; replace x01 := Bx.ext x01 hk2; replace x02 := Bx.ext x02 hk2; replace x03 := Bx.ext x03 hk2; obtain ⟨p00, f00⟩ := id x00; obtain ⟨p01, f01⟩ := id x01; obtain ⟨p02, f02⟩ := id x02; obtain ⟨p03, f03⟩ := id x03)
        | (go_at_call 25; refine (logOk_s _ l _ B (by exact hr0.keep (keepE' (by first | exact hX0 | exact hX0.drew | exact hX0.drewN _) hB)) (by first | omega | (simp; omega))).mono ?_; rw [Hok.out]; rintro e1 w1 ⟨rfl, hE1⟩; have hk1 : Ext W0 w1 := (by first | exact hE1 | exact ((Ext.refl _).drew).trans hE1 | exact ((Ext.refl _).drewN _).trans hE1); have hz1 := hk1.size; have hX1 := hX0.trans hk1; replace x00 := Bx.ext x00 hk1; replace x01 := Bx.ext x01 hk1; replace x02 := Bx.ext x02 hk1; replace x03 := Bx.ext x03 hk1; obtain ⟨p00, f00⟩ := id x00; obtain ⟨p01, f01⟩ := id x01; obtain ⟨p02, f02⟩ := id x02; obtain ⟨p03, f03⟩ := id x03))) | fail)
    all_goals go_wp2
    all_goals go_ret
    all_goals exact ⟨ret_bool hf2.out.symm, by repeat' (first | with_reducible exact Ext.refl _ | with_reducible assumption | with_reducible refine Ext.set ?_ ?_ _ _ | with_reducible refine Ext.alloc ?_ _ | with_reducible refine Ext.drew ?_ | with_reducible refine Ext.drewN ?_ _ | with_reducible refine Ext.trans ?_ (by with_reducible assumption) | omega | (simp; done) | (simp; omega))⟩

def zeroL : LogD := ⟨0, ⟨[], []⟩, []⟩
/-- A new replica: who, of how many, its mode. -/
def repV (t : Int × Int × Int) : Value := .agg #[.int .i64 t.1, .int .i64 t.2.1, .int .i64 t.2.2, .int .i64 0, .int .i64 0, .int .i64 0, .int .i64 0, .slice none 0 0, .slice none 0 0, .slice none 0 0, .slice none 0 0, .int .i64 0, .int .i64 0]
def newRep (me of : Int) : Int × Int × Int := if ofB of && inB me 0 (of - 1) then (me, of, 1) else (0, 0, 0)
theorem R_zeroL (w : World) (B : Nat) : R_Log w B (.agg #[.int .i64 0, .slice none 0 0, .slice none 0 0, .slice none 0 0]) zeroL := ⟨_, _, _, rfl, RdS.nil, RdS.nil, RdS.nil⟩
theorem O_zeroL (w : World) (lo hi : Nat) : O_Log w lo hi (.agg #[.int .i64 0, .slice none 0 0, .slice none 0 0, .slice none 0 0]) zeroL := ⟨_, _, _, rfl, OwnS.nil _, OwnS.nil _, OwnS.nil _⟩
theorem zeroL_num : hasNum zeroL 0 = true := by rfl
theorem Fr.ext0 {a b : World} (h : Fr 0 0 a b) : Ext a b := ⟨h.os, h.tape, h.output, h.size, fun k hk => h.block k hk (.inr (Nat.zero_le _))⟩


theorem indexNil (f : Value) (w : World) : Calls Try.prog 119 #[.slice none 0 0, f] w fun e w' => e = .returned (.int .i64 (-1)) ∧ w = w' := by
  go_enter Try.func119, Try.ntmps119
  go_wp2
  go_loopw [8] (fun iv wr => iv = .int .i64 0 ∧ wr = w) (fun _ _ => 0)
  case atStart => exact ⟨rfl, rfl⟩
  case round =>
    obtain ⟨rfl, rfl⟩ := hrel
    go_wp2
    go_ret
    exact ⟨rfl, rfl⟩
theorem containsNil (f : Value) (w : World) : Calls Try.prog 80 #[.slice none 0 0, f] w fun e w' => e = .returned (.bool false) ∧ w = w' := by
  go_enter Try.func80, Try.ntmps80
  go_wp2_with fail
  refine (indexNil _ _).mono ?_
  rintro e w1 ⟨rfl, rfl⟩
  go_wp2
  go_ret
  exact ⟨rfl, rfl⟩

set_option maxRecDepth 100000 in
set_option maxHeartbeats 4000000 in
theorem newOk_i (me of : Int) (w : World) :
    Calls Try.prog 35 #[.agg #[.int .i64 me, .int .i64 of, .int .i64 1, .int .i64 0, .int .i64 0, .int .i64 0, .int .i64 0, .slice none 0 0, .slice none 0 0, .slice none 0 0, .slice none 0 0, .int .i64 0, .int .i64 0]] w fun e w' => e = .returned (.bool (ofB of && inB me 0 (of - 1))) ∧ Ext w w' := by
  have hw0 : wholeB 0 = true := rfl
  have hW0 : Ext w (w.alloc (.cells #[.int .i64 me, .int .i64 of, .int .i64 1, .int .i64 0, .int .i64 0, .int .i64 0, .int .i64 0, .slice none 0 0, .slice none 0 0, .slice none 0 0, .slice none 0 0, .int .i64 0, .int .i64 0] 71)) := by repeat' (first | with_reducible exact Ext.refl _ | with_reducible assumption | with_reducible refine Ext.set ?_ ?_ _ _ | with_reducible refine Ext.alloc ?_ _ | with_reducible refine Ext.drew ?_ | with_reducible refine Ext.drewN ?_ _ | with_reducible refine Ext.trans ?_ (by with_reducible assumption) | omega | (simp; done) | (simp; omega))
  have zW0 : w.heap.size + 1 ≤ (w.alloc (.cells #[.int .i64 me, .int .i64 of, .int .i64 1, .int .i64 0, .int .i64 0, .int .i64 0, .int .i64 0, .slice none 0 0, .slice none 0 0, .slice none 0 0, .slice none 0 0, .int .i64 0, .int .i64 0] 71)).heap.size := by simp
  have x : Blk (w.alloc (.cells #[.int .i64 me, .int .i64 of, .int .i64 1, .int .i64 0, .int .i64 0, .int .i64 0, .int .i64 0, .slice none 0 0, .slice none 0 0, .slice none 0 0, .slice none 0 0, .int .i64 0, .int .i64 0] 71)) w.heap.size 71 [.int .i64 me, .int .i64 of, .int .i64 1, .int .i64 0, .int .i64 0, .int .i64 0, .int .i64 0, .slice none 0 0, .slice none 0 0, .slice none 0 0, .slice none 0 0, .int .i64 0, .int .i64 0] := (Blk.new w #[.int .i64 me, .int .i64 of, .int .i64 1, .int .i64 0, .int .i64 0, .int .i64 0, .int .i64 0, .slice none 0 0, .slice none 0 0, .slice none 0 0, .slice none 0 0, .int .i64 0, .int .i64 0] 71 (by first | rfl | simp))
  have hlx := x.lt
  cases h1 : ofB of with
  | false =>
    obtain ⟨x_p0, x_f0⟩ := x.at 0 _ rfl
    obtain ⟨x_p1, x_f1⟩ := x.at 1 _ rfl
    obtain ⟨x_p2, x_f2⟩ := x.at 2 _ rfl
    obtain ⟨x_p3, x_f3⟩ := x.at 3 _ rfl
    obtain ⟨x_p4, x_f4⟩ := x.at 4 _ rfl
    obtain ⟨x_p5, x_f5⟩ := x.at 5 _ rfl
    obtain ⟨x_p6, x_f6⟩ := x.at 6 _ rfl
    obtain ⟨x_p7, x_f7⟩ := x.at 7 _ rfl
    obtain ⟨x_p8, x_f8⟩ := x.at 8 _ rfl
    obtain ⟨x_p9, x_f9⟩ := x.at 9 _ rfl
    obtain ⟨x_p10, x_f10⟩ := x.at 10 _ rfl
    obtain ⟨x_p11, x_f11⟩ := x.at 11 _ rfl
    obtain ⟨x_p12, x_f12⟩ := x.at 12 _ rfl
    go_enter Try.func35, Try.ntmps35
    go_wp2_with (first | (go_at_call 76; refine (isOf_any _ _).mono ?_; rintro e w9 ⟨rfl, rfl⟩) | (go_at_call 77; refine (from_any _ _ _ _).mono ?_; rintro e w9 ⟨rfl, rfl⟩) | (go_at_call 78; refine (isWhole_any _ _).mono ?_; rintro e w9 ⟨rfl, rfl⟩))
    go_ret
    exact ⟨rfl, by repeat' (first | with_reducible exact Ext.refl _ | with_reducible assumption | with_reducible refine Ext.set ?_ ?_ _ _ | with_reducible refine Ext.alloc ?_ _ | with_reducible refine Ext.drew ?_ | with_reducible refine Ext.drewN ?_ _ | with_reducible refine Ext.trans ?_ (by with_reducible assumption) | omega | (simp; done) | (simp; omega))⟩
  | true =>
    have hof := (ofB_iff _).1 h1
    have hwr : IntKind.i64.wrap (of - 1) = of - 1 := IntWalk.i64_in _ (by omega)
    obtain ⟨bb, hbb⟩ : ∃ bb, inB me 0 (of - 1) = bb := ⟨_, rfl⟩
    rw [hbb]
    clear hof
    cases bb with
    | false =>
      obtain ⟨x_p0, x_f0⟩ := x.at 0 _ rfl
      obtain ⟨x_p1, x_f1⟩ := x.at 1 _ rfl
      obtain ⟨x_p2, x_f2⟩ := x.at 2 _ rfl
      obtain ⟨x_p3, x_f3⟩ := x.at 3 _ rfl
      obtain ⟨x_p4, x_f4⟩ := x.at 4 _ rfl
      obtain ⟨x_p5, x_f5⟩ := x.at 5 _ rfl
      obtain ⟨x_p6, x_f6⟩ := x.at 6 _ rfl
      obtain ⟨x_p7, x_f7⟩ := x.at 7 _ rfl
      obtain ⟨x_p8, x_f8⟩ := x.at 8 _ rfl
      obtain ⟨x_p9, x_f9⟩ := x.at 9 _ rfl
      obtain ⟨x_p10, x_f10⟩ := x.at 10 _ rfl
      obtain ⟨x_p11, x_f11⟩ := x.at 11 _ rfl
      obtain ⟨x_p12, x_f12⟩ := x.at 12 _ rfl
      go_enter Try.func35, Try.ntmps35
      go_wp2_with (first | (go_at_call 76; refine (isOf_any _ _).mono ?_; rintro e w9 ⟨rfl, rfl⟩) | (go_at_call 77; refine (from_any _ _ _ _).mono ?_; rintro e w9 ⟨rfl, rfl⟩) | (go_at_call 78; refine (isWhole_any _ _).mono ?_; rintro e w9 ⟨rfl, rfl⟩))
      go_ret
      exact ⟨rfl, by repeat' (first | with_reducible exact Ext.refl _ | with_reducible assumption | with_reducible refine Ext.set ?_ ?_ _ _ | with_reducible refine Ext.alloc ?_ _ | with_reducible refine Ext.drew ?_ | with_reducible refine Ext.drewN ?_ _ | with_reducible refine Ext.trans ?_ (by with_reducible assumption) | omega | (simp; done) | (simp; omega))⟩
    | true =>
      obtain ⟨x_p0, x_f0⟩ := x.at 0 _ rfl
      obtain ⟨x_p1, x_f1⟩ := x.at 1 _ rfl
      obtain ⟨x_p2, x_f2⟩ := x.at 2 _ rfl
      obtain ⟨x_p3, x_f3⟩ := x.at 3 _ rfl
      obtain ⟨x_p4, x_f4⟩ := x.at 4 _ rfl
      obtain ⟨x_p5, x_f5⟩ := x.at 5 _ rfl
      obtain ⟨x_p6, x_f6⟩ := x.at 6 _ rfl
      obtain ⟨x_p7, x_f7⟩ := x.at 7 _ rfl
      obtain ⟨x_p8, x_f8⟩ := x.at 8 _ rfl
      obtain ⟨x_p9, x_f9⟩ := x.at 9 _ rfl
      obtain ⟨x_p10, x_f10⟩ := x.at 10 _ rfl
      obtain ⟨x_p11, x_f11⟩ := x.at 11 _ rfl
      obtain ⟨x_p12, x_f12⟩ := x.at 12 _ rfl
      go_enter Try.func35, Try.ntmps35
      go_wp2_with (first | (go_at_call 76; refine (isOf_any _ _).mono ?_; rintro e w9 ⟨rfl, rfl⟩) | (go_at_call 77; refine (from_any _ _ _ _).mono ?_; rintro e w9 ⟨rfl, rfl⟩) | (go_at_call 78; refine (isWhole_any _ _).mono ?_; rintro e w9 ⟨rfl, rfl⟩))
      generalize (w.alloc (.cells #[.int .i64 me, .int .i64 of, .int .i64 1, .int .i64 0, .int .i64 0, .int .i64 0, .int .i64 0, .slice none 0 0, .slice none 0 0, .slice none 0 0, .slice none 0 0, .int .i64 0, .int .i64 0] 71)) = W0 at *
      refine (hasNumber_i _ zeroL 0 _ 0 (R_zeroL _ _) (Nat.zero_le _)).mono ?_
      rw [zeroL_num]
      rintro e w1 ⟨rfl, hE1⟩
      have hX1 := hW0.trans hE1
      clear x_p0 x_f0 x_p1 x_f1 x_p2 x_f2 x_p3 x_f3 x_p4 x_f4 x_p5 x_f5 x_p6 x_f6 x_p7 x_f7 x_p8 x_f8 x_p9 x_f9 x_p10 x_f10 x_p11 x_f11 x_p12 x_f12
      replace x := x.ext hE1
      obtain ⟨x_p0, x_f0⟩ := x.at 0 _ rfl
      obtain ⟨x_p1, x_f1⟩ := x.at 1 _ rfl
      obtain ⟨x_p2, x_f2⟩ := x.at 2 _ rfl
      obtain ⟨x_p3, x_f3⟩ := x.at 3 _ rfl
      obtain ⟨x_p4, x_f4⟩ := x.at 4 _ rfl
      obtain ⟨x_p5, x_f5⟩ := x.at 5 _ rfl
      obtain ⟨x_p6, x_f6⟩ := x.at 6 _ rfl
      obtain ⟨x_p7, x_f7⟩ := x.at 7 _ rfl
      obtain ⟨x_p8, x_f8⟩ := x.at 8 _ rfl
      obtain ⟨x_p9, x_f9⟩ := x.at 9 _ rfl
      obtain ⟨x_p10, x_f10⟩ := x.at 10 _ rfl
      obtain ⟨x_p11, x_f11⟩ := x.at 11 _ rfl
      obtain ⟨x_p12, x_f12⟩ := x.at 12 _ rfl
      clear hE1
      go_wp2_with fail
      refine (containsNil _ _).mono ?_
      rintro e w2 ⟨rfl, rfl⟩
      go_wp2
      go_ret
      exact ⟨rfl, by repeat' (first | with_reducible exact Ext.refl _ | with_reducible assumption | with_reducible refine Ext.set ?_ ?_ _ _ | with_reducible refine Ext.alloc ?_ _ | with_reducible refine Ext.drew ?_ | with_reducible refine Ext.drewN ?_ _ | with_reducible refine Ext.trans ?_ (by with_reducible assumption) | omega | (simp; done) | (simp; omega))⟩

set_option maxRecDepth 100000 in
set_option maxHeartbeats 4000000 in
theorem newReplica_i (me of : Int) (w : World) :
    Calls Try.prog 38 #[.int .i64 me, .int .i64 of] w fun e w' => e = .returned (repV (newRep me of)) ∧ Ext w w' := by
  have hW0 : Ext w ((w.alloc (.cells #[.int .i64 0, .int .i64 0, .int .i64 0, .int .i64 0, .int .i64 0, .int .i64 0, .int .i64 0, .slice none 0 0, .slice none 0 0, .slice none 0 0, .slice none 0 0, .int .i64 0, .int .i64 0] 71)).alloc (.cells #[.int .i64 me, .int .i64 of, .int .i64 1, .int .i64 0, .int .i64 0, .int .i64 0, .int .i64 0, .slice none 0 0, .slice none 0 0, .slice none 0 0, .slice none 0 0, .int .i64 0, .int .i64 0] 71)) := by repeat' (first | with_reducible exact Ext.refl _ | with_reducible assumption | with_reducible refine Ext.set ?_ ?_ _ _ | with_reducible refine Ext.alloc ?_ _ | with_reducible refine Ext.drew ?_ | with_reducible refine Ext.drewN ?_ _ | with_reducible refine Ext.trans ?_ (by with_reducible assumption) | omega | (simp; done) | (simp; omega))
  have zW0 : w.heap.size + 2 ≤ ((w.alloc (.cells #[.int .i64 0, .int .i64 0, .int .i64 0, .int .i64 0, .int .i64 0, .int .i64 0, .int .i64 0, .slice none 0 0, .slice none 0 0, .slice none 0 0, .slice none 0 0, .int .i64 0, .int .i64 0] 71)).alloc (.cells #[.int .i64 me, .int .i64 of, .int .i64 1, .int .i64 0, .int .i64 0, .int .i64 0, .int .i64 0, .slice none 0 0, .slice none 0 0, .slice none 0 0, .slice none 0 0, .int .i64 0, .int .i64 0] 71)).heap.size := by simp
  have p : Blk ((w.alloc (.cells #[.int .i64 0, .int .i64 0, .int .i64 0, .int .i64 0, .int .i64 0, .int .i64 0, .int .i64 0, .slice none 0 0, .slice none 0 0, .slice none 0 0, .slice none 0 0, .int .i64 0, .int .i64 0] 71)).alloc (.cells #[.int .i64 me, .int .i64 of, .int .i64 1, .int .i64 0, .int .i64 0, .int .i64 0, .int .i64 0, .slice none 0 0, .slice none 0 0, .slice none 0 0, .slice none 0 0, .int .i64 0, .int .i64 0] 71)) w.heap.size 71 [.int .i64 0, .int .i64 0, .int .i64 0, .int .i64 0, .int .i64 0, .int .i64 0, .int .i64 0, .slice none 0 0, .slice none 0 0, .slice none 0 0, .slice none 0 0, .int .i64 0, .int .i64 0] := ((Blk.new w #[.int .i64 0, .int .i64 0, .int .i64 0, .int .i64 0, .int .i64 0, .int .i64 0, .int .i64 0, .slice none 0 0, .slice none 0 0, .slice none 0 0, .slice none 0 0, .int .i64 0, .int .i64 0] 71 (by first | rfl | simp)).alloc (.cells #[.int .i64 me, .int .i64 of, .int .i64 1, .int .i64 0, .int .i64 0, .int .i64 0, .int .i64 0, .slice none 0 0, .slice none 0 0, .slice none 0 0, .slice none 0 0, .int .i64 0, .int .i64 0] 71))
  have q : Blk ((w.alloc (.cells #[.int .i64 0, .int .i64 0, .int .i64 0, .int .i64 0, .int .i64 0, .int .i64 0, .int .i64 0, .slice none 0 0, .slice none 0 0, .slice none 0 0, .slice none 0 0, .int .i64 0, .int .i64 0] 71)).alloc (.cells #[.int .i64 me, .int .i64 of, .int .i64 1, .int .i64 0, .int .i64 0, .int .i64 0, .int .i64 0, .slice none 0 0, .slice none 0 0, .slice none 0 0, .slice none 0 0, .int .i64 0, .int .i64 0] 71)) (w.heap.size + 1) 71 [.int .i64 me, .int .i64 of, .int .i64 1, .int .i64 0, .int .i64 0, .int .i64 0, .int .i64 0, .slice none 0 0, .slice none 0 0, .slice none 0 0, .slice none 0 0, .int .i64 0, .int .i64 0] := (Blk.new (w.alloc (.cells #[.int .i64 0, .int .i64 0, .int .i64 0, .int .i64 0, .int .i64 0, .int .i64 0, .int .i64 0, .slice none 0 0, .slice none 0 0, .slice none 0 0, .slice none 0 0, .int .i64 0, .int .i64 0] 71)) #[.int .i64 me, .int .i64 of, .int .i64 1, .int .i64 0, .int .i64 0, .int .i64 0, .int .i64 0, .slice none 0 0, .slice none 0 0, .slice none 0 0, .slice none 0 0, .int .i64 0, .int .i64 0] 71 (by first | rfl | simp))
  go_enter Try.func38, Try.ntmps38
  go_upto_region 2 with (fail)
  generalize ((w.alloc (.cells #[.int .i64 0, .int .i64 0, .int .i64 0, .int .i64 0, .int .i64 0, .int .i64 0, .int .i64 0, .slice none 0 0, .slice none 0 0, .slice none 0 0, .slice none 0 0, .int .i64 0, .int .i64 0] 71)).alloc (.cells #[.int .i64 me, .int .i64 of, .int .i64 1, .int .i64 0, .int .i64 0, .int .i64 0, .int .i64 0, .slice none 0 0, .slice none 0 0, .slice none 0 0, .slice none 0 0, .int .i64 0, .int .i64 0] 71)) = W0 at *
  have hlp := p.lt
  have hlq := q.lt
  obtain ⟨p_p0, p_f0⟩ := p.at 0 _ rfl
  obtain ⟨p_p1, p_f1⟩ := p.at 1 _ rfl
  obtain ⟨p_p2, p_f2⟩ := p.at 2 _ rfl
  obtain ⟨p_p3, p_f3⟩ := p.at 3 _ rfl
  obtain ⟨p_p4, p_f4⟩ := p.at 4 _ rfl
  obtain ⟨p_p5, p_f5⟩ := p.at 5 _ rfl
  obtain ⟨p_p6, p_f6⟩ := p.at 6 _ rfl
  obtain ⟨p_p7, p_f7⟩ := p.at 7 _ rfl
  obtain ⟨p_p8, p_f8⟩ := p.at 8 _ rfl
  obtain ⟨p_p9, p_f9⟩ := p.at 9 _ rfl
  obtain ⟨p_p10, p_f10⟩ := p.at 10 _ rfl
  obtain ⟨p_p11, p_f11⟩ := p.at 11 _ rfl
  obtain ⟨p_p12, p_f12⟩ := p.at 12 _ rfl
  obtain ⟨q_p0, q_f0⟩ := q.at 0 _ rfl
  obtain ⟨q_p1, q_f1⟩ := q.at 1 _ rfl
  obtain ⟨q_p2, q_f2⟩ := q.at 2 _ rfl
  obtain ⟨q_p3, q_f3⟩ := q.at 3 _ rfl
  obtain ⟨q_p4, q_f4⟩ := q.at 4 _ rfl
  obtain ⟨q_p5, q_f5⟩ := q.at 5 _ rfl
  obtain ⟨q_p6, q_f6⟩ := q.at 6 _ rfl
  obtain ⟨q_p7, q_f7⟩ := q.at 7 _ rfl
  obtain ⟨q_p8, q_f8⟩ := q.at 8 _ rfl
  obtain ⟨q_p9, q_f9⟩ := q.at 9 _ rfl
  obtain ⟨q_p10, q_f10⟩ := q.at 10 _ rfl
  obtain ⟨q_p11, q_f11⟩ := q.at 11 _ rfl
  obtain ⟨q_p12, q_f12⟩ := q.at 12 _ rfl
  go_wp2_with fail
  refine (newOk_i me of _).mono ?_
  rintro e w1 ⟨rfl, hE1⟩
  have hX1 := hW0.trans hE1
  clear p_p0 p_f0 p_p1 p_f1 p_p2 p_f2 p_p3 p_f3 p_p4 p_f4 p_p5 p_f5 p_p6 p_f6 p_p7 p_f7 p_p8 p_f8 p_p9 p_f9 p_p10 p_f10 p_p11 p_f11 p_p12 p_f12 q_p0 q_f0 q_p1 q_f1 q_p2 q_f2 q_p3 q_f3 q_p4 q_f4 q_p5 q_f5 q_p6 q_f6 q_p7 q_f7 q_p8 q_f8 q_p9 q_f9 q_p10 q_f10 q_p11 q_f11 q_p12 q_f12
  replace p := p.ext hE1
  replace q := q.ext hE1
  obtain ⟨p_p0, p_f0⟩ := p.at 0 _ rfl
  obtain ⟨p_p1, p_f1⟩ := p.at 1 _ rfl
  obtain ⟨p_p2, p_f2⟩ := p.at 2 _ rfl
  obtain ⟨p_p3, p_f3⟩ := p.at 3 _ rfl
  obtain ⟨p_p4, p_f4⟩ := p.at 4 _ rfl
  obtain ⟨p_p5, p_f5⟩ := p.at 5 _ rfl
  obtain ⟨p_p6, p_f6⟩ := p.at 6 _ rfl
  obtain ⟨p_p7, p_f7⟩ := p.at 7 _ rfl
  obtain ⟨p_p8, p_f8⟩ := p.at 8 _ rfl
  obtain ⟨p_p9, p_f9⟩ := p.at 9 _ rfl
  obtain ⟨p_p10, p_f10⟩ := p.at 10 _ rfl
  obtain ⟨p_p11, p_f11⟩ := p.at 11 _ rfl
  obtain ⟨p_p12, p_f12⟩ := p.at 12 _ rfl
  obtain ⟨q_p0, q_f0⟩ := q.at 0 _ rfl
  obtain ⟨q_p1, q_f1⟩ := q.at 1 _ rfl
  obtain ⟨q_p2, q_f2⟩ := q.at 2 _ rfl
  obtain ⟨q_p3, q_f3⟩ := q.at 3 _ rfl
  obtain ⟨q_p4, q_f4⟩ := q.at 4 _ rfl
  obtain ⟨q_p5, q_f5⟩ := q.at 5 _ rfl
  obtain ⟨q_p6, q_f6⟩ := q.at 6 _ rfl
  obtain ⟨q_p7, q_f7⟩ := q.at 7 _ rfl
  obtain ⟨q_p8, q_f8⟩ := q.at 8 _ rfl
  obtain ⟨q_p9, q_f9⟩ := q.at 9 _ rfl
  obtain ⟨q_p10, q_f10⟩ := q.at 10 _ rfl
  obtain ⟨q_p11, q_f11⟩ := q.at 11 _ rfl
  obtain ⟨q_p12, q_f12⟩ := q.at 12 _ rfl
  have hz1 := hE1.size
  clear hE1 hW0
  cases hb : ofB of && inB me 0 (of - 1) with
  | false =>
    have hn : newRep me of = (0, 0, 0) := by unfold newRep; rw [hb]; rfl
    go_wp2
    rw [hn]
    exact bodyPost_ret (v := .agg #[.int .i64 0, .int .i64 0, .int .i64 0, .int .i64 0, .int .i64 0, .int .i64 0, .int .i64 0, .slice none 0 0, .slice none 0 0, .slice none 0 0, .slice none 0 0, .int .i64 0, .int .i64 0]) (by simp [results, Try.results38, go_sem, p_p0, p_p1, p_p2, p_p3, p_p4, p_p5, p_p6, p_p7, p_p8, p_p9, p_p10, p_p11, p_p12]) rfl ⟨rfl, by repeat' (first | with_reducible exact Ext.refl _ | with_reducible assumption | with_reducible refine Ext.set ?_ ?_ _ _ | with_reducible refine Ext.alloc ?_ _ | with_reducible refine Ext.drew ?_ | with_reducible refine Ext.drewN ?_ _ | with_reducible refine Ext.trans ?_ (by with_reducible assumption) | omega | (simp; done) | (simp; omega))⟩
  | true =>
    have hn : newRep me of = (me, of, 1) := by unfold newRep; rw [hb]; rfl
    go_wp2
    rw [hn]
    exact bodyPost_ret (v := .agg #[.int .i64 me, .int .i64 of, .int .i64 1, .int .i64 0, .int .i64 0, .int .i64 0, .int .i64 0, .slice none 0 0, .slice none 0 0, .slice none 0 0, .slice none 0 0, .int .i64 0, .int .i64 0]) (by simp [results, Try.results38, go_sem, p_p0, p_p1, p_p2, p_p3, p_p4, p_p5, p_p6, p_p7, p_p8, p_p9, p_p10, p_p11, p_p12]) rfl ⟨rfl, by repeat' (first | with_reducible exact Ext.refl _ | with_reducible assumption | with_reducible refine Ext.set ?_ ?_ _ _ | with_reducible refine Ext.alloc ?_ _ | with_reducible refine Ext.drew ?_ | with_reducible refine Ext.drewN ?_ _ | with_reducible refine Ext.trans ?_ (by with_reducible assumption) | omega | (simp; done) | (simp; omega))⟩

set_option maxRecDepth 100000 in
set_option maxHeartbeats 4000000 in
theorem newOk_s (me of : Int) (w : World) :
    Calls Try.prog 33 #[.agg #[.int .i64 me, .int .i64 of, .int .i64 1, .int .i64 0, .int .i64 0, .int .i64 0, .int .i64 0, .slice none 0 0, .slice none 0 0, .slice none 0 0, .slice none 0 0, .int .i64 0, .int .i64 0]] w fun e w' => e = .returned (.bool (ofB of && inB me 0 (of - 1))) ∧ Ext w w' := by
  have hw0 : wholeB 0 = true := rfl
  have hW0 : Ext w (w.alloc (.cells #[.int .i64 me, .int .i64 of, .int .i64 1, .int .i64 0, .int .i64 0, .int .i64 0, .int .i64 0, .slice none 0 0, .slice none 0 0, .slice none 0 0, .slice none 0 0, .int .i64 0, .int .i64 0] 71)) := by repeat' (first | with_reducible exact Ext.refl _ | with_reducible assumption | with_reducible refine Ext.set ?_ ?_ _ _ | with_reducible refine Ext.alloc ?_ _ | with_reducible refine Ext.drew ?_ | with_reducible refine Ext.drewN ?_ _ | with_reducible refine Ext.trans ?_ (by with_reducible assumption) | omega | (simp; done) | (simp; omega))
  have zW0 : w.heap.size + 1 ≤ (w.alloc (.cells #[.int .i64 me, .int .i64 of, .int .i64 1, .int .i64 0, .int .i64 0, .int .i64 0, .int .i64 0, .slice none 0 0, .slice none 0 0, .slice none 0 0, .slice none 0 0, .int .i64 0, .int .i64 0] 71)).heap.size := by simp
  have x : Blk (w.alloc (.cells #[.int .i64 me, .int .i64 of, .int .i64 1, .int .i64 0, .int .i64 0, .int .i64 0, .int .i64 0, .slice none 0 0, .slice none 0 0, .slice none 0 0, .slice none 0 0, .int .i64 0, .int .i64 0] 71)) w.heap.size 71 [.int .i64 me, .int .i64 of, .int .i64 1, .int .i64 0, .int .i64 0, .int .i64 0, .int .i64 0, .slice none 0 0, .slice none 0 0, .slice none 0 0, .slice none 0 0, .int .i64 0, .int .i64 0] := (Blk.new w #[.int .i64 me, .int .i64 of, .int .i64 1, .int .i64 0, .int .i64 0, .int .i64 0, .int .i64 0, .slice none 0 0, .slice none 0 0, .slice none 0 0, .slice none 0 0, .int .i64 0, .int .i64 0] 71 (by first | rfl | simp))
  have hlx := x.lt
  cases h1 : ofB of with
  | false =>
    obtain ⟨x_p0, x_f0⟩ := x.at 0 _ rfl
    obtain ⟨x_p1, x_f1⟩ := x.at 1 _ rfl
    obtain ⟨x_p2, x_f2⟩ := x.at 2 _ rfl
    obtain ⟨x_p3, x_f3⟩ := x.at 3 _ rfl
    obtain ⟨x_p4, x_f4⟩ := x.at 4 _ rfl
    obtain ⟨x_p5, x_f5⟩ := x.at 5 _ rfl
    obtain ⟨x_p6, x_f6⟩ := x.at 6 _ rfl
    obtain ⟨x_p7, x_f7⟩ := x.at 7 _ rfl
    obtain ⟨x_p8, x_f8⟩ := x.at 8 _ rfl
    obtain ⟨x_p9, x_f9⟩ := x.at 9 _ rfl
    obtain ⟨x_p10, x_f10⟩ := x.at 10 _ rfl
    obtain ⟨x_p11, x_f11⟩ := x.at 11 _ rfl
    obtain ⟨x_p12, x_f12⟩ := x.at 12 _ rfl
    go_enter Try.func33, Try.ntmps33
    go_wp2_with (first | (go_at_call 71; refine (l6Of_any _ _).mono ?_; rintro e w9 ⟨rfl, rfl⟩) | (go_at_call 72; refine (l1In_any _ _ _ _).mono ?_; rintro e w9 ⟨rfl, rfl⟩) | (go_at_call 59; refine (l1Whole_any _ _).mono ?_; rintro e w9 ⟨rfl, rfl⟩))
    go_ret
    exact ⟨rfl, by repeat' (first | with_reducible exact Ext.refl _ | with_reducible assumption | with_reducible refine Ext.set ?_ ?_ _ _ | with_reducible refine Ext.alloc ?_ _ | with_reducible refine Ext.drew ?_ | with_reducible refine Ext.drewN ?_ _ | with_reducible refine Ext.trans ?_ (by with_reducible assumption) | omega | (simp; done) | (simp; omega))⟩
  | true =>
    have hof := (ofB_iff _).1 h1
    have hwr : IntKind.i64.wrap (of - 1) = of - 1 := IntWalk.i64_in _ (by omega)
    obtain ⟨bb, hbb⟩ : ∃ bb, inB me 0 (of - 1) = bb := ⟨_, rfl⟩
    rw [hbb]
    clear hof
    cases bb with
    | false =>
      obtain ⟨x_p0, x_f0⟩ := x.at 0 _ rfl
      obtain ⟨x_p1, x_f1⟩ := x.at 1 _ rfl
      obtain ⟨x_p2, x_f2⟩ := x.at 2 _ rfl
      obtain ⟨x_p3, x_f3⟩ := x.at 3 _ rfl
      obtain ⟨x_p4, x_f4⟩ := x.at 4 _ rfl
      obtain ⟨x_p5, x_f5⟩ := x.at 5 _ rfl
      obtain ⟨x_p6, x_f6⟩ := x.at 6 _ rfl
      obtain ⟨x_p7, x_f7⟩ := x.at 7 _ rfl
      obtain ⟨x_p8, x_f8⟩ := x.at 8 _ rfl
      obtain ⟨x_p9, x_f9⟩ := x.at 9 _ rfl
      obtain ⟨x_p10, x_f10⟩ := x.at 10 _ rfl
      obtain ⟨x_p11, x_f11⟩ := x.at 11 _ rfl
      obtain ⟨x_p12, x_f12⟩ := x.at 12 _ rfl
      go_enter Try.func33, Try.ntmps33
      go_wp2_with (first | (go_at_call 71; refine (l6Of_any _ _).mono ?_; rintro e w9 ⟨rfl, rfl⟩) | (go_at_call 72; refine (l1In_any _ _ _ _).mono ?_; rintro e w9 ⟨rfl, rfl⟩) | (go_at_call 59; refine (l1Whole_any _ _).mono ?_; rintro e w9 ⟨rfl, rfl⟩))
      go_ret
      exact ⟨rfl, by repeat' (first | with_reducible exact Ext.refl _ | with_reducible assumption | with_reducible refine Ext.set ?_ ?_ _ _ | with_reducible refine Ext.alloc ?_ _ | with_reducible refine Ext.drew ?_ | with_reducible refine Ext.drewN ?_ _ | with_reducible refine Ext.trans ?_ (by with_reducible assumption) | omega | (simp; done) | (simp; omega))⟩
    | true =>
      obtain ⟨x_p0, x_f0⟩ := x.at 0 _ rfl
      obtain ⟨x_p1, x_f1⟩ := x.at 1 _ rfl
      obtain ⟨x_p2, x_f2⟩ := x.at 2 _ rfl
      obtain ⟨x_p3, x_f3⟩ := x.at 3 _ rfl
      obtain ⟨x_p4, x_f4⟩ := x.at 4 _ rfl
      obtain ⟨x_p5, x_f5⟩ := x.at 5 _ rfl
      obtain ⟨x_p6, x_f6⟩ := x.at 6 _ rfl
      obtain ⟨x_p7, x_f7⟩ := x.at 7 _ rfl
      obtain ⟨x_p8, x_f8⟩ := x.at 8 _ rfl
      obtain ⟨x_p9, x_f9⟩ := x.at 9 _ rfl
      obtain ⟨x_p10, x_f10⟩ := x.at 10 _ rfl
      obtain ⟨x_p11, x_f11⟩ := x.at 11 _ rfl
      obtain ⟨x_p12, x_f12⟩ := x.at 12 _ rfl
      go_enter Try.func33, Try.ntmps33
      go_wp2_with (first | (go_at_call 71; refine (l6Of_any _ _).mono ?_; rintro e w9 ⟨rfl, rfl⟩) | (go_at_call 72; refine (l1In_any _ _ _ _).mono ?_; rintro e w9 ⟨rfl, rfl⟩) | (go_at_call 59; refine (l1Whole_any _ _).mono ?_; rintro e w9 ⟨rfl, rfl⟩))
      generalize (w.alloc (.cells #[.int .i64 me, .int .i64 of, .int .i64 1, .int .i64 0, .int .i64 0, .int .i64 0, .int .i64 0, .slice none 0 0, .slice none 0 0, .slice none 0 0, .slice none 0 0, .int .i64 0, .int .i64 0] 71)) = W0 at *
      refine (l6Log_s _ zeroL 0 _ 0 (R_zeroL _ _) (Nat.zero_le _)).mono ?_
      rw [zeroL_num]
      rintro e w1 ⟨rfl, hE1⟩
      have hX1 := hW0.trans hE1
      clear x_p0 x_f0 x_p1 x_f1 x_p2 x_f2 x_p3 x_f3 x_p4 x_f4 x_p5 x_f5 x_p6 x_f6 x_p7 x_f7 x_p8 x_f8 x_p9 x_f9 x_p10 x_f10 x_p11 x_f11 x_p12 x_f12
      replace x := x.ext hE1
      obtain ⟨x_p0, x_f0⟩ := x.at 0 _ rfl
      obtain ⟨x_p1, x_f1⟩ := x.at 1 _ rfl
      obtain ⟨x_p2, x_f2⟩ := x.at 2 _ rfl
      obtain ⟨x_p3, x_f3⟩ := x.at 3 _ rfl
      obtain ⟨x_p4, x_f4⟩ := x.at 4 _ rfl
      obtain ⟨x_p5, x_f5⟩ := x.at 5 _ rfl
      obtain ⟨x_p6, x_f6⟩ := x.at 6 _ rfl
      obtain ⟨x_p7, x_f7⟩ := x.at 7 _ rfl
      obtain ⟨x_p8, x_f8⟩ := x.at 8 _ rfl
      obtain ⟨x_p9, x_f9⟩ := x.at 9 _ rfl
      obtain ⟨x_p10, x_f10⟩ := x.at 10 _ rfl
      obtain ⟨x_p11, x_f11⟩ := x.at 11 _ rfl
      obtain ⟨x_p12, x_f12⟩ := x.at 12 _ rfl
      clear hE1
      go_wp2_with fail
      go_loopw [3] (fun iv wr => iv = .int .i64 0 ∧ wr = w1) (fun _ _ => 0)
      case atStart => exact ⟨rfl, rfl⟩
      case round =>
        obtain ⟨rfl, rfl⟩ := hrel
        go_wp2
        go_ret
        exact ⟨rfl, by repeat' (first | with_reducible exact Ext.refl _ | with_reducible assumption | with_reducible refine Ext.set ?_ ?_ _ _ | with_reducible refine Ext.alloc ?_ _ | with_reducible refine Ext.drew ?_ | with_reducible refine Ext.drewN ?_ _ | with_reducible refine Ext.trans ?_ (by with_reducible assumption) | omega | (simp; done) | (simp; omega))⟩

set_option maxRecDepth 100000 in
set_option maxHeartbeats 4000000 in
theorem newReplica_s (me of : Int) (w : World) :
    Calls Try.prog 37 #[.int .i64 me, .int .i64 of] w fun e w' => e = .returned (repV (newRep me of)) ∧ Ext w w' := by
  have hW0 : Ext w ((w.alloc (.cells #[.int .i64 0, .int .i64 0, .int .i64 0, .int .i64 0, .int .i64 0, .int .i64 0, .int .i64 0, .slice none 0 0, .slice none 0 0, .slice none 0 0, .slice none 0 0, .int .i64 0, .int .i64 0] 71)).alloc (.cells #[.int .i64 me, .int .i64 of, .int .i64 1, .int .i64 0, .int .i64 0, .int .i64 0, .int .i64 0, .slice none 0 0, .slice none 0 0, .slice none 0 0, .slice none 0 0, .int .i64 0, .int .i64 0] 71)) := by repeat' (first | with_reducible exact Ext.refl _ | with_reducible assumption | with_reducible refine Ext.set ?_ ?_ _ _ | with_reducible refine Ext.alloc ?_ _ | with_reducible refine Ext.drew ?_ | with_reducible refine Ext.drewN ?_ _ | with_reducible refine Ext.trans ?_ (by with_reducible assumption) | omega | (simp; done) | (simp; omega))
  have zW0 : w.heap.size + 2 ≤ ((w.alloc (.cells #[.int .i64 0, .int .i64 0, .int .i64 0, .int .i64 0, .int .i64 0, .int .i64 0, .int .i64 0, .slice none 0 0, .slice none 0 0, .slice none 0 0, .slice none 0 0, .int .i64 0, .int .i64 0] 71)).alloc (.cells #[.int .i64 me, .int .i64 of, .int .i64 1, .int .i64 0, .int .i64 0, .int .i64 0, .int .i64 0, .slice none 0 0, .slice none 0 0, .slice none 0 0, .slice none 0 0, .int .i64 0, .int .i64 0] 71)).heap.size := by simp
  have p : Blk ((w.alloc (.cells #[.int .i64 0, .int .i64 0, .int .i64 0, .int .i64 0, .int .i64 0, .int .i64 0, .int .i64 0, .slice none 0 0, .slice none 0 0, .slice none 0 0, .slice none 0 0, .int .i64 0, .int .i64 0] 71)).alloc (.cells #[.int .i64 me, .int .i64 of, .int .i64 1, .int .i64 0, .int .i64 0, .int .i64 0, .int .i64 0, .slice none 0 0, .slice none 0 0, .slice none 0 0, .slice none 0 0, .int .i64 0, .int .i64 0] 71)) w.heap.size 71 [.int .i64 0, .int .i64 0, .int .i64 0, .int .i64 0, .int .i64 0, .int .i64 0, .int .i64 0, .slice none 0 0, .slice none 0 0, .slice none 0 0, .slice none 0 0, .int .i64 0, .int .i64 0] := ((Blk.new w #[.int .i64 0, .int .i64 0, .int .i64 0, .int .i64 0, .int .i64 0, .int .i64 0, .int .i64 0, .slice none 0 0, .slice none 0 0, .slice none 0 0, .slice none 0 0, .int .i64 0, .int .i64 0] 71 (by first | rfl | simp)).alloc (.cells #[.int .i64 me, .int .i64 of, .int .i64 1, .int .i64 0, .int .i64 0, .int .i64 0, .int .i64 0, .slice none 0 0, .slice none 0 0, .slice none 0 0, .slice none 0 0, .int .i64 0, .int .i64 0] 71))
  have q : Blk ((w.alloc (.cells #[.int .i64 0, .int .i64 0, .int .i64 0, .int .i64 0, .int .i64 0, .int .i64 0, .int .i64 0, .slice none 0 0, .slice none 0 0, .slice none 0 0, .slice none 0 0, .int .i64 0, .int .i64 0] 71)).alloc (.cells #[.int .i64 me, .int .i64 of, .int .i64 1, .int .i64 0, .int .i64 0, .int .i64 0, .int .i64 0, .slice none 0 0, .slice none 0 0, .slice none 0 0, .slice none 0 0, .int .i64 0, .int .i64 0] 71)) (w.heap.size + 1) 71 [.int .i64 me, .int .i64 of, .int .i64 1, .int .i64 0, .int .i64 0, .int .i64 0, .int .i64 0, .slice none 0 0, .slice none 0 0, .slice none 0 0, .slice none 0 0, .int .i64 0, .int .i64 0] := (Blk.new (w.alloc (.cells #[.int .i64 0, .int .i64 0, .int .i64 0, .int .i64 0, .int .i64 0, .int .i64 0, .int .i64 0, .slice none 0 0, .slice none 0 0, .slice none 0 0, .slice none 0 0, .int .i64 0, .int .i64 0] 71)) #[.int .i64 me, .int .i64 of, .int .i64 1, .int .i64 0, .int .i64 0, .int .i64 0, .int .i64 0, .slice none 0 0, .slice none 0 0, .slice none 0 0, .slice none 0 0, .int .i64 0, .int .i64 0] 71 (by first | rfl | simp))
  go_enter Try.func37, Try.ntmps37
  go_upto_region 2 with (fail)
  generalize ((w.alloc (.cells #[.int .i64 0, .int .i64 0, .int .i64 0, .int .i64 0, .int .i64 0, .int .i64 0, .int .i64 0, .slice none 0 0, .slice none 0 0, .slice none 0 0, .slice none 0 0, .int .i64 0, .int .i64 0] 71)).alloc (.cells #[.int .i64 me, .int .i64 of, .int .i64 1, .int .i64 0, .int .i64 0, .int .i64 0, .int .i64 0, .slice none 0 0, .slice none 0 0, .slice none 0 0, .slice none 0 0, .int .i64 0, .int .i64 0] 71)) = W0 at *
  have hlp := p.lt
  have hlq := q.lt
  obtain ⟨p_p0, p_f0⟩ := p.at 0 _ rfl
  obtain ⟨p_p1, p_f1⟩ := p.at 1 _ rfl
  obtain ⟨p_p2, p_f2⟩ := p.at 2 _ rfl
  obtain ⟨p_p3, p_f3⟩ := p.at 3 _ rfl
  obtain ⟨p_p4, p_f4⟩ := p.at 4 _ rfl
  obtain ⟨p_p5, p_f5⟩ := p.at 5 _ rfl
  obtain ⟨p_p6, p_f6⟩ := p.at 6 _ rfl
  obtain ⟨p_p7, p_f7⟩ := p.at 7 _ rfl
  obtain ⟨p_p8, p_f8⟩ := p.at 8 _ rfl
  obtain ⟨p_p9, p_f9⟩ := p.at 9 _ rfl
  obtain ⟨p_p10, p_f10⟩ := p.at 10 _ rfl
  obtain ⟨p_p11, p_f11⟩ := p.at 11 _ rfl
  obtain ⟨p_p12, p_f12⟩ := p.at 12 _ rfl
  obtain ⟨q_p0, q_f0⟩ := q.at 0 _ rfl
  obtain ⟨q_p1, q_f1⟩ := q.at 1 _ rfl
  obtain ⟨q_p2, q_f2⟩ := q.at 2 _ rfl
  obtain ⟨q_p3, q_f3⟩ := q.at 3 _ rfl
  obtain ⟨q_p4, q_f4⟩ := q.at 4 _ rfl
  obtain ⟨q_p5, q_f5⟩ := q.at 5 _ rfl
  obtain ⟨q_p6, q_f6⟩ := q.at 6 _ rfl
  obtain ⟨q_p7, q_f7⟩ := q.at 7 _ rfl
  obtain ⟨q_p8, q_f8⟩ := q.at 8 _ rfl
  obtain ⟨q_p9, q_f9⟩ := q.at 9 _ rfl
  obtain ⟨q_p10, q_f10⟩ := q.at 10 _ rfl
  obtain ⟨q_p11, q_f11⟩ := q.at 11 _ rfl
  obtain ⟨q_p12, q_f12⟩ := q.at 12 _ rfl
  go_wp2_with fail
  refine (newOk_s me of _).mono ?_
  rintro e w1 ⟨rfl, hE1⟩
  have hX1 := hW0.trans hE1
  clear p_p0 p_f0 p_p1 p_f1 p_p2 p_f2 p_p3 p_f3 p_p4 p_f4 p_p5 p_f5 p_p6 p_f6 p_p7 p_f7 p_p8 p_f8 p_p9 p_f9 p_p10 p_f10 p_p11 p_f11 p_p12 p_f12 q_p0 q_f0 q_p1 q_f1 q_p2 q_f2 q_p3 q_f3 q_p4 q_f4 q_p5 q_f5 q_p6 q_f6 q_p7 q_f7 q_p8 q_f8 q_p9 q_f9 q_p10 q_f10 q_p11 q_f11 q_p12 q_f12
  replace p := p.ext hE1
  replace q := q.ext hE1
  obtain ⟨p_p0, p_f0⟩ := p.at 0 _ rfl
  obtain ⟨p_p1, p_f1⟩ := p.at 1 _ rfl
  obtain ⟨p_p2, p_f2⟩ := p.at 2 _ rfl
  obtain ⟨p_p3, p_f3⟩ := p.at 3 _ rfl
  obtain ⟨p_p4, p_f4⟩ := p.at 4 _ rfl
  obtain ⟨p_p5, p_f5⟩ := p.at 5 _ rfl
  obtain ⟨p_p6, p_f6⟩ := p.at 6 _ rfl
  obtain ⟨p_p7, p_f7⟩ := p.at 7 _ rfl
  obtain ⟨p_p8, p_f8⟩ := p.at 8 _ rfl
  obtain ⟨p_p9, p_f9⟩ := p.at 9 _ rfl
  obtain ⟨p_p10, p_f10⟩ := p.at 10 _ rfl
  obtain ⟨p_p11, p_f11⟩ := p.at 11 _ rfl
  obtain ⟨p_p12, p_f12⟩ := p.at 12 _ rfl
  obtain ⟨q_p0, q_f0⟩ := q.at 0 _ rfl
  obtain ⟨q_p1, q_f1⟩ := q.at 1 _ rfl
  obtain ⟨q_p2, q_f2⟩ := q.at 2 _ rfl
  obtain ⟨q_p3, q_f3⟩ := q.at 3 _ rfl
  obtain ⟨q_p4, q_f4⟩ := q.at 4 _ rfl
  obtain ⟨q_p5, q_f5⟩ := q.at 5 _ rfl
  obtain ⟨q_p6, q_f6⟩ := q.at 6 _ rfl
  obtain ⟨q_p7, q_f7⟩ := q.at 7 _ rfl
  obtain ⟨q_p8, q_f8⟩ := q.at 8 _ rfl
  obtain ⟨q_p9, q_f9⟩ := q.at 9 _ rfl
  obtain ⟨q_p10, q_f10⟩ := q.at 10 _ rfl
  obtain ⟨q_p11, q_f11⟩ := q.at 11 _ rfl
  obtain ⟨q_p12, q_f12⟩ := q.at 12 _ rfl
  have hz1 := hE1.size
  clear hE1 hW0
  cases hb : ofB of && inB me 0 (of - 1) with
  | false =>
    have hn : newRep me of = (0, 0, 0) := by unfold newRep; rw [hb]; rfl
    go_wp2
    rw [hn]
    exact bodyPost_ret (v := .agg #[.int .i64 0, .int .i64 0, .int .i64 0, .int .i64 0, .int .i64 0, .int .i64 0, .int .i64 0, .slice none 0 0, .slice none 0 0, .slice none 0 0, .slice none 0 0, .int .i64 0, .int .i64 0]) (by simp [results, Try.results37, go_sem, p_p0, p_p1, p_p2, p_p3, p_p4, p_p5, p_p6, p_p7, p_p8, p_p9, p_p10, p_p11, p_p12]) rfl ⟨rfl, by repeat' (first | with_reducible exact Ext.refl _ | with_reducible assumption | with_reducible refine Ext.set ?_ ?_ _ _ | with_reducible refine Ext.alloc ?_ _ | with_reducible refine Ext.drew ?_ | with_reducible refine Ext.drewN ?_ _ | with_reducible refine Ext.trans ?_ (by with_reducible assumption) | omega | (simp; done) | (simp; omega))⟩
  | true =>
    have hn : newRep me of = (me, of, 1) := by unfold newRep; rw [hb]; rfl
    go_wp2
    rw [hn]
    exact bodyPost_ret (v := .agg #[.int .i64 me, .int .i64 of, .int .i64 1, .int .i64 0, .int .i64 0, .int .i64 0, .int .i64 0, .slice none 0 0, .slice none 0 0, .slice none 0 0, .slice none 0 0, .int .i64 0, .int .i64 0]) (by simp [results, Try.results37, go_sem, p_p0, p_p1, p_p2, p_p3, p_p4, p_p5, p_p6, p_p7, p_p8, p_p9, p_p10, p_p11, p_p12]) rfl ⟨rfl, by repeat' (first | with_reducible exact Ext.refl _ | with_reducible assumption | with_reducible refine Ext.set ?_ ?_ _ _ | with_reducible refine Ext.alloc ?_ _ | with_reducible refine Ext.drew ?_ | with_reducible refine Ext.drewN ?_ _ | with_reducible refine Ext.trans ?_ (by with_reducible assumption) | omega | (simp; done) | (simp; omega))⟩

theorem eqVoteS_nil (w : World) : Calls Try.prog 84 #[.slice none 0 0, .slice none 0 0] w fun e w' => e = .returned (.bool true) ∧ w = w' := by
  go_enter Try.func84, Try.ntmps84
  go_wp2
  go_loopw [5] (fun iv wr => iv = .int .i64 0 ∧ wr = w) (fun _ _ => 0)
  case atStart => exact ⟨rfl, rfl⟩
  obtain ⟨rfl, rfl⟩ := hrel
  go_wp2
  go_ret
  exact ⟨rfl, rfl⟩

theorem markVoteS_nil (k : Int) (w : World) : Calls Try.prog 85 #[.slice none 0 0, .int .i64 k] w fun e w' => e = .returned (.int .i64 k) ∧ w = w' := by
  go_enter Try.func85, Try.ntmps85
  go_wp2
  go_loopw [1, 5] (fun kv iv wr => kv = .int .i64 k ∧ iv = .int .i64 0 ∧ wr = w) (fun _ _ _ => 0)
  case atStart => exact ⟨rfl, rfl, rfl⟩
  obtain ⟨rfl, rfl, rfl⟩ := hrel
  go_wp2
  go_ret
  exact ⟨rfl, rfl⟩

theorem heldVoteS_nil (k : Int) (w : World) : Calls Try.prog 86 #[.slice none 0 0, .int .i64 k] w fun e w' => e = .returned (.int .i64 k) ∧ w = w' := by
  go_enter Try.func86, Try.ntmps86
  go_wp2
  go_loopw [1, 5] (fun kv iv wr => kv = .int .i64 k ∧ iv = .int .i64 0 ∧ wr = w) (fun _ _ _ => 0)
  case atStart => exact ⟨rfl, rfl, rfl⟩
  obtain ⟨rfl, rfl, rfl⟩ := hrel
  go_wp2
  go_ret
  exact ⟨rfl, rfl⟩

set_option maxRecDepth 100000 in
set_option maxHeartbeats 4000000 in
theorem eqReplica_z (a b c : Int) (w : World) : Calls Try.prog 36 #[.agg #[.int .i64 a, .int .i64 b, .int .i64 c, .int .i64 0, .int .i64 0, .int .i64 0, .int .i64 0, .slice none 0 0, .slice none 0 0, .slice none 0 0, .slice none 0 0, .int .i64 0, .int .i64 0], .agg #[.int .i64 a, .int .i64 b, .int .i64 c, .int .i64 0, .int .i64 0, .int .i64 0, .int .i64 0, .slice none 0 0, .slice none 0 0, .slice none 0 0, .slice none 0 0, .int .i64 0, .int .i64 0]] w fun e w' => e = .returned (.bool true) ∧ Ext w w' := by
  have hW0 : Ext w ((w.alloc (.cells #[.int .i64 a, .int .i64 b, .int .i64 c, .int .i64 0, .int .i64 0, .int .i64 0, .int .i64 0, .slice none 0 0, .slice none 0 0, .slice none 0 0, .slice none 0 0, .int .i64 0, .int .i64 0] 71)).alloc (.cells #[.int .i64 a, .int .i64 b, .int .i64 c, .int .i64 0, .int .i64 0, .int .i64 0, .int .i64 0, .slice none 0 0, .slice none 0 0, .slice none 0 0, .slice none 0 0, .int .i64 0, .int .i64 0] 71)) := by repeat' (first | with_reducible exact Ext.refl _ | with_reducible assumption | with_reducible refine Ext.set ?_ ?_ _ _ | with_reducible refine Ext.alloc ?_ _ | with_reducible refine Ext.drew ?_ | with_reducible refine Ext.drewN ?_ _ | with_reducible refine Ext.trans ?_ (by with_reducible assumption) | omega | (simp; done) | (simp; omega))
  have zW0 : w.heap.size + 2 ≤ ((w.alloc (.cells #[.int .i64 a, .int .i64 b, .int .i64 c, .int .i64 0, .int .i64 0, .int .i64 0, .int .i64 0, .slice none 0 0, .slice none 0 0, .slice none 0 0, .slice none 0 0, .int .i64 0, .int .i64 0] 71)).alloc (.cells #[.int .i64 a, .int .i64 b, .int .i64 c, .int .i64 0, .int .i64 0, .int .i64 0, .int .i64 0, .slice none 0 0, .slice none 0 0, .slice none 0 0, .slice none 0 0, .int .i64 0, .int .i64 0] 71)).heap.size := by simp
  have x : Blk ((w.alloc (.cells #[.int .i64 a, .int .i64 b, .int .i64 c, .int .i64 0, .int .i64 0, .int .i64 0, .int .i64 0, .slice none 0 0, .slice none 0 0, .slice none 0 0, .slice none 0 0, .int .i64 0, .int .i64 0] 71)).alloc (.cells #[.int .i64 a, .int .i64 b, .int .i64 c, .int .i64 0, .int .i64 0, .int .i64 0, .int .i64 0, .slice none 0 0, .slice none 0 0, .slice none 0 0, .slice none 0 0, .int .i64 0, .int .i64 0] 71)) w.heap.size 71 [.int .i64 a, .int .i64 b, .int .i64 c, .int .i64 0, .int .i64 0, .int .i64 0, .int .i64 0, .slice none 0 0, .slice none 0 0, .slice none 0 0, .slice none 0 0, .int .i64 0, .int .i64 0] := ((Blk.new w #[.int .i64 a, .int .i64 b, .int .i64 c, .int .i64 0, .int .i64 0, .int .i64 0, .int .i64 0, .slice none 0 0, .slice none 0 0, .slice none 0 0, .slice none 0 0, .int .i64 0, .int .i64 0] 71 (by first | rfl | simp)).alloc (.cells #[.int .i64 a, .int .i64 b, .int .i64 c, .int .i64 0, .int .i64 0, .int .i64 0, .int .i64 0, .slice none 0 0, .slice none 0 0, .slice none 0 0, .slice none 0 0, .int .i64 0, .int .i64 0] 71))
  have y : Blk ((w.alloc (.cells #[.int .i64 a, .int .i64 b, .int .i64 c, .int .i64 0, .int .i64 0, .int .i64 0, .int .i64 0, .slice none 0 0, .slice none 0 0, .slice none 0 0, .slice none 0 0, .int .i64 0, .int .i64 0] 71)).alloc (.cells #[.int .i64 a, .int .i64 b, .int .i64 c, .int .i64 0, .int .i64 0, .int .i64 0, .int .i64 0, .slice none 0 0, .slice none 0 0, .slice none 0 0, .slice none 0 0, .int .i64 0, .int .i64 0] 71)) (w.heap.size + 1) 71 [.int .i64 a, .int .i64 b, .int .i64 c, .int .i64 0, .int .i64 0, .int .i64 0, .int .i64 0, .slice none 0 0, .slice none 0 0, .slice none 0 0, .slice none 0 0, .int .i64 0, .int .i64 0] := (Blk.new (w.alloc (.cells #[.int .i64 a, .int .i64 b, .int .i64 c, .int .i64 0, .int .i64 0, .int .i64 0, .int .i64 0, .slice none 0 0, .slice none 0 0, .slice none 0 0, .slice none 0 0, .int .i64 0, .int .i64 0] 71)) #[.int .i64 a, .int .i64 b, .int .i64 c, .int .i64 0, .int .i64 0, .int .i64 0, .int .i64 0, .slice none 0 0, .slice none 0 0, .slice none 0 0, .slice none 0 0, .int .i64 0, .int .i64 0] 71 (by first | rfl | simp))
  go_enter Try.func36, Try.ntmps36
  go_upto_region 1 with (fail)
  generalize ((w.alloc (.cells #[.int .i64 a, .int .i64 b, .int .i64 c, .int .i64 0, .int .i64 0, .int .i64 0, .int .i64 0, .slice none 0 0, .slice none 0 0, .slice none 0 0, .slice none 0 0, .int .i64 0, .int .i64 0] 71)).alloc (.cells #[.int .i64 a, .int .i64 b, .int .i64 c, .int .i64 0, .int .i64 0, .int .i64 0, .int .i64 0, .slice none 0 0, .slice none 0 0, .slice none 0 0, .slice none 0 0, .int .i64 0, .int .i64 0] 71)) = W0 at *
  obtain ⟨x_p0, x_f0⟩ := x.at 0 _ rfl
  obtain ⟨x_p1, x_f1⟩ := x.at 1 _ rfl
  obtain ⟨x_p2, x_f2⟩ := x.at 2 _ rfl
  obtain ⟨x_p3, x_f3⟩ := x.at 3 _ rfl
  obtain ⟨x_p4, x_f4⟩ := x.at 4 _ rfl
  obtain ⟨x_p5, x_f5⟩ := x.at 5 _ rfl
  obtain ⟨x_p6, x_f6⟩ := x.at 6 _ rfl
  obtain ⟨x_p7, x_f7⟩ := x.at 7 _ rfl
  obtain ⟨x_p8, x_f8⟩ := x.at 8 _ rfl
  obtain ⟨x_p9, x_f9⟩ := x.at 9 _ rfl
  obtain ⟨x_p10, x_f10⟩ := x.at 10 _ rfl
  obtain ⟨x_p11, x_f11⟩ := x.at 11 _ rfl
  obtain ⟨x_p12, x_f12⟩ := x.at 12 _ rfl
  obtain ⟨y_p0, y_f0⟩ := y.at 0 _ rfl
  obtain ⟨y_p1, y_f1⟩ := y.at 1 _ rfl
  obtain ⟨y_p2, y_f2⟩ := y.at 2 _ rfl
  obtain ⟨y_p3, y_f3⟩ := y.at 3 _ rfl
  obtain ⟨y_p4, y_f4⟩ := y.at 4 _ rfl
  obtain ⟨y_p5, y_f5⟩ := y.at 5 _ rfl
  obtain ⟨y_p6, y_f6⟩ := y.at 6 _ rfl
  obtain ⟨y_p7, y_f7⟩ := y.at 7 _ rfl
  obtain ⟨y_p8, y_f8⟩ := y.at 8 _ rfl
  obtain ⟨y_p9, y_f9⟩ := y.at 9 _ rfl
  obtain ⟨y_p10, y_f10⟩ := y.at 10 _ rfl
  obtain ⟨y_p11, y_f11⟩ := y.at 11 _ rfl
  obtain ⟨y_p12, y_f12⟩ := y.at 12 _ rfl
  go_wp2_with fail
  refine (eqLog_v _ _ zeroL zeroL _ 0 0 (R_zeroL _ _) (Nat.zero_le _) (R_zeroL _ _) (Nat.zero_le _)).mono ?_
  rintro e w1 ⟨rfl, hE1⟩
  have hX1 := hW0.trans hE1
  clear x_p0 x_f0 x_p1 x_f1 x_p2 x_f2 x_p3 x_f3 x_p4 x_f4 x_p5 x_f5 x_p6 x_f6 x_p7 x_f7 x_p8 x_f8 x_p9 x_f9 x_p10 x_f10 x_p11 x_f11 x_p12 x_f12 y_p0 y_f0 y_p1 y_f1 y_p2 y_f2 y_p3 y_f3 y_p4 y_f4 y_p5 y_f5 y_p6 y_f6 y_p7 y_f7 y_p8 y_f8 y_p9 y_f9 y_p10 y_f10 y_p11 y_f11 y_p12 y_f12
  replace x := x.ext hE1
  replace y := y.ext hE1
  obtain ⟨x_p0, x_f0⟩ := x.at 0 _ rfl
  obtain ⟨x_p1, x_f1⟩ := x.at 1 _ rfl
  obtain ⟨x_p2, x_f2⟩ := x.at 2 _ rfl
  obtain ⟨x_p3, x_f3⟩ := x.at 3 _ rfl
  obtain ⟨x_p4, x_f4⟩ := x.at 4 _ rfl
  obtain ⟨x_p5, x_f5⟩ := x.at 5 _ rfl
  obtain ⟨x_p6, x_f6⟩ := x.at 6 _ rfl
  obtain ⟨x_p7, x_f7⟩ := x.at 7 _ rfl
  obtain ⟨x_p8, x_f8⟩ := x.at 8 _ rfl
  obtain ⟨x_p9, x_f9⟩ := x.at 9 _ rfl
  obtain ⟨x_p10, x_f10⟩ := x.at 10 _ rfl
  obtain ⟨x_p11, x_f11⟩ := x.at 11 _ rfl
  obtain ⟨x_p12, x_f12⟩ := x.at 12 _ rfl
  obtain ⟨y_p0, y_f0⟩ := y.at 0 _ rfl
  obtain ⟨y_p1, y_f1⟩ := y.at 1 _ rfl
  obtain ⟨y_p2, y_f2⟩ := y.at 2 _ rfl
  obtain ⟨y_p3, y_f3⟩ := y.at 3 _ rfl
  obtain ⟨y_p4, y_f4⟩ := y.at 4 _ rfl
  obtain ⟨y_p5, y_f5⟩ := y.at 5 _ rfl
  obtain ⟨y_p6, y_f6⟩ := y.at 6 _ rfl
  obtain ⟨y_p7, y_f7⟩ := y.at 7 _ rfl
  obtain ⟨y_p8, y_f8⟩ := y.at 8 _ rfl
  obtain ⟨y_p9, y_f9⟩ := y.at 9 _ rfl
  obtain ⟨y_p10, y_f10⟩ := y.at 10 _ rfl
  obtain ⟨y_p11, y_f11⟩ := y.at 11 _ rfl
  obtain ⟨y_p12, y_f12⟩ := y.at 12 _ rfl
  clear hE1 hW0
  rw [decide_eq_true (rfl : zeroL = zeroL)]
  go_wp2_with fail
  refine (eqVoteS_nil _).mono ?_
  rintro e w2 ⟨rfl, rfl⟩
  go_wp2
  go_ret
  exact ⟨rfl, by repeat' (first | with_reducible exact Ext.refl _ | with_reducible assumption | with_reducible refine Ext.set ?_ ?_ _ _ | with_reducible refine Ext.alloc ?_ _ | with_reducible refine Ext.drew ?_ | with_reducible refine Ext.drewN ?_ _ | with_reducible refine Ext.trans ?_ (by with_reducible assumption) | omega | (simp; done) | (simp; omega))⟩

set_option maxRecDepth 100000 in
set_option maxHeartbeats 4000000 in
theorem markReplica_z (a b c k : Int) (w : World) (h0 : 0 ≤ k) (h1 : k ≤ 1000) : Calls Try.prog 39 #[.agg #[.int .i64 a, .int .i64 b, .int .i64 c, .int .i64 0, .int .i64 0, .int .i64 0, .int .i64 0, .slice none 0 0, .slice none 0 0, .slice none 0 0, .slice none 0 0, .int .i64 0, .int .i64 0], .int .i64 k] w fun e w' => e = .returned (.int .i64 k) ∧ Ext w w' := by
  have hnk : k + (NK_Log zeroL : Nat) = k := by simp [NK_Log, NK_Image, NK_CellS, NK_SeatS, NK_EntryS, zeroL]
  have hd : decide (k < 0) = false := by simp; omega
  have hW0 : Ext w (w.alloc (.cells #[.int .i64 a, .int .i64 b, .int .i64 c, .int .i64 0, .int .i64 0, .int .i64 0, .int .i64 0, .slice none 0 0, .slice none 0 0, .slice none 0 0, .slice none 0 0, .int .i64 0, .int .i64 0] 71)) := by repeat' (first | with_reducible exact Ext.refl _ | with_reducible assumption | with_reducible refine Ext.set ?_ ?_ _ _ | with_reducible refine Ext.alloc ?_ _ | with_reducible refine Ext.drew ?_ | with_reducible refine Ext.drewN ?_ _ | with_reducible refine Ext.trans ?_ (by with_reducible assumption) | omega | (simp; done) | (simp; omega))
  have zW0 : w.heap.size + 1 ≤ (w.alloc (.cells #[.int .i64 a, .int .i64 b, .int .i64 c, .int .i64 0, .int .i64 0, .int .i64 0, .int .i64 0, .slice none 0 0, .slice none 0 0, .slice none 0 0, .slice none 0 0, .int .i64 0, .int .i64 0] 71)).heap.size := by simp
  have x : Blk (w.alloc (.cells #[.int .i64 a, .int .i64 b, .int .i64 c, .int .i64 0, .int .i64 0, .int .i64 0, .int .i64 0, .slice none 0 0, .slice none 0 0, .slice none 0 0, .slice none 0 0, .int .i64 0, .int .i64 0] 71)) w.heap.size 71 [.int .i64 a, .int .i64 b, .int .i64 c, .int .i64 0, .int .i64 0, .int .i64 0, .int .i64 0, .slice none 0 0, .slice none 0 0, .slice none 0 0, .slice none 0 0, .int .i64 0, .int .i64 0] := (Blk.new w #[.int .i64 a, .int .i64 b, .int .i64 c, .int .i64 0, .int .i64 0, .int .i64 0, .int .i64 0, .slice none 0 0, .slice none 0 0, .slice none 0 0, .slice none 0 0, .int .i64 0, .int .i64 0] 71 (by first | rfl | simp))
  go_enter Try.func39, Try.ntmps39
  go_upto_region 1 with (fail)
  generalize (w.alloc (.cells #[.int .i64 a, .int .i64 b, .int .i64 c, .int .i64 0, .int .i64 0, .int .i64 0, .int .i64 0, .slice none 0 0, .slice none 0 0, .slice none 0 0, .slice none 0 0, .int .i64 0, .int .i64 0] 71)) = W0 at *
  obtain ⟨x_p0, x_f0⟩ := x.at 0 _ rfl
  obtain ⟨x_p1, x_f1⟩ := x.at 1 _ rfl
  obtain ⟨x_p2, x_f2⟩ := x.at 2 _ rfl
  obtain ⟨x_p3, x_f3⟩ := x.at 3 _ rfl
  obtain ⟨x_p4, x_f4⟩ := x.at 4 _ rfl
  obtain ⟨x_p5, x_f5⟩ := x.at 5 _ rfl
  obtain ⟨x_p6, x_f6⟩ := x.at 6 _ rfl
  obtain ⟨x_p7, x_f7⟩ := x.at 7 _ rfl
  obtain ⟨x_p8, x_f8⟩ := x.at 8 _ rfl
  obtain ⟨x_p9, x_f9⟩ := x.at 9 _ rfl
  obtain ⟨x_p10, x_f10⟩ := x.at 10 _ rfl
  obtain ⟨x_p11, x_f11⟩ := x.at 11 _ rfl
  obtain ⟨x_p12, x_f12⟩ := x.at 12 _ rfl
  go_wp2_with fail
  refine (markLog_v _ zeroL k 0 0 _ (O_zeroL _ _ _) (Nat.zero_le _) h0 (by omega)).mono ?_
  rw [hnk]
  rintro e w1 ⟨rfl, -, hF1⟩
  have hE1 := hF1.ext0
  clear hF1
  have hX1 := hW0.trans hE1
  clear x_p0 x_f0 x_p1 x_f1 x_p2 x_f2 x_p3 x_f3 x_p4 x_f4 x_p5 x_f5 x_p6 x_f6 x_p7 x_f7 x_p8 x_f8 x_p9 x_f9 x_p10 x_f10 x_p11 x_f11 x_p12 x_f12
  replace x := x.ext hE1
  obtain ⟨x_p0, x_f0⟩ := x.at 0 _ rfl
  obtain ⟨x_p1, x_f1⟩ := x.at 1 _ rfl
  obtain ⟨x_p2, x_f2⟩ := x.at 2 _ rfl
  obtain ⟨x_p3, x_f3⟩ := x.at 3 _ rfl
  obtain ⟨x_p4, x_f4⟩ := x.at 4 _ rfl
  obtain ⟨x_p5, x_f5⟩ := x.at 5 _ rfl
  obtain ⟨x_p6, x_f6⟩ := x.at 6 _ rfl
  obtain ⟨x_p7, x_f7⟩ := x.at 7 _ rfl
  obtain ⟨x_p8, x_f8⟩ := x.at 8 _ rfl
  obtain ⟨x_p9, x_f9⟩ := x.at 9 _ rfl
  obtain ⟨x_p10, x_f10⟩ := x.at 10 _ rfl
  obtain ⟨x_p11, x_f11⟩ := x.at 11 _ rfl
  obtain ⟨x_p12, x_f12⟩ := x.at 12 _ rfl
  clear hE1 hW0
  go_wp2_with fail
  refine (markVoteS_nil _ _).mono ?_
  rintro e w2 ⟨rfl, rfl⟩
  go_wp2
  go_ret
  exact ⟨rfl, by repeat' (first | with_reducible exact Ext.refl _ | with_reducible assumption | with_reducible refine Ext.set ?_ ?_ _ _ | with_reducible refine Ext.alloc ?_ _ | with_reducible refine Ext.drew ?_ | with_reducible refine Ext.drewN ?_ _ | with_reducible refine Ext.trans ?_ (by with_reducible assumption) | omega | (simp; done) | (simp; omega))⟩

set_option maxRecDepth 100000 in
set_option maxHeartbeats 4000000 in
theorem heldReplica_z (a b c k : Int) (w : World) (h0 : 0 ≤ k) (h1 : k ≤ 1000) : Calls Try.prog 40 #[.agg #[.int .i64 a, .int .i64 b, .int .i64 c, .int .i64 0, .int .i64 0, .int .i64 0, .int .i64 0, .slice none 0 0, .slice none 0 0, .slice none 0 0, .slice none 0 0, .int .i64 0, .int .i64 0], .int .i64 k] w fun e w' => e = .returned (.int .i64 k) ∧ Ext w w' := by
  have hnk : k + (NK_Log zeroL : Nat) = k := by simp [NK_Log, NK_Image, NK_CellS, NK_SeatS, NK_EntryS, zeroL]
  have hd : decide (k < 0) = false := by simp; omega
  have hW0 : Ext w (w.alloc (.cells #[.int .i64 a, .int .i64 b, .int .i64 c, .int .i64 0, .int .i64 0, .int .i64 0, .int .i64 0, .slice none 0 0, .slice none 0 0, .slice none 0 0, .slice none 0 0, .int .i64 0, .int .i64 0] 71)) := by repeat' (first | with_reducible exact Ext.refl _ | with_reducible assumption | with_reducible refine Ext.set ?_ ?_ _ _ | with_reducible refine Ext.alloc ?_ _ | with_reducible refine Ext.drew ?_ | with_reducible refine Ext.drewN ?_ _ | with_reducible refine Ext.trans ?_ (by with_reducible assumption) | omega | (simp; done) | (simp; omega))
  have zW0 : w.heap.size + 1 ≤ (w.alloc (.cells #[.int .i64 a, .int .i64 b, .int .i64 c, .int .i64 0, .int .i64 0, .int .i64 0, .int .i64 0, .slice none 0 0, .slice none 0 0, .slice none 0 0, .slice none 0 0, .int .i64 0, .int .i64 0] 71)).heap.size := by simp
  have x : Blk (w.alloc (.cells #[.int .i64 a, .int .i64 b, .int .i64 c, .int .i64 0, .int .i64 0, .int .i64 0, .int .i64 0, .slice none 0 0, .slice none 0 0, .slice none 0 0, .slice none 0 0, .int .i64 0, .int .i64 0] 71)) w.heap.size 71 [.int .i64 a, .int .i64 b, .int .i64 c, .int .i64 0, .int .i64 0, .int .i64 0, .int .i64 0, .slice none 0 0, .slice none 0 0, .slice none 0 0, .slice none 0 0, .int .i64 0, .int .i64 0] := (Blk.new w #[.int .i64 a, .int .i64 b, .int .i64 c, .int .i64 0, .int .i64 0, .int .i64 0, .int .i64 0, .slice none 0 0, .slice none 0 0, .slice none 0 0, .slice none 0 0, .int .i64 0, .int .i64 0] 71 (by first | rfl | simp))
  go_enter Try.func40, Try.ntmps40
  go_upto_region 1 with (fail)
  generalize (w.alloc (.cells #[.int .i64 a, .int .i64 b, .int .i64 c, .int .i64 0, .int .i64 0, .int .i64 0, .int .i64 0, .slice none 0 0, .slice none 0 0, .slice none 0 0, .slice none 0 0, .int .i64 0, .int .i64 0] 71)) = W0 at *
  obtain ⟨x_p0, x_f0⟩ := x.at 0 _ rfl
  obtain ⟨x_p1, x_f1⟩ := x.at 1 _ rfl
  obtain ⟨x_p2, x_f2⟩ := x.at 2 _ rfl
  obtain ⟨x_p3, x_f3⟩ := x.at 3 _ rfl
  obtain ⟨x_p4, x_f4⟩ := x.at 4 _ rfl
  obtain ⟨x_p5, x_f5⟩ := x.at 5 _ rfl
  obtain ⟨x_p6, x_f6⟩ := x.at 6 _ rfl
  obtain ⟨x_p7, x_f7⟩ := x.at 7 _ rfl
  obtain ⟨x_p8, x_f8⟩ := x.at 8 _ rfl
  obtain ⟨x_p9, x_f9⟩ := x.at 9 _ rfl
  obtain ⟨x_p10, x_f10⟩ := x.at 10 _ rfl
  obtain ⟨x_p11, x_f11⟩ := x.at 11 _ rfl
  obtain ⟨x_p12, x_f12⟩ := x.at 12 _ rfl
  go_wp2_with fail
  refine (heldLog_v _ zeroL k 0 _ (by exact R_zeroL _ _) (Nat.zero_le _) h0 (by omega)).mono ?_
  rw [hnk]
  rintro e w1 ⟨rfl, hE1⟩
  have hX1 := hW0.trans hE1
  clear x_p0 x_f0 x_p1 x_f1 x_p2 x_f2 x_p3 x_f3 x_p4 x_f4 x_p5 x_f5 x_p6 x_f6 x_p7 x_f7 x_p8 x_f8 x_p9 x_f9 x_p10 x_f10 x_p11 x_f11 x_p12 x_f12
  replace x := x.ext hE1
  obtain ⟨x_p0, x_f0⟩ := x.at 0 _ rfl
  obtain ⟨x_p1, x_f1⟩ := x.at 1 _ rfl
  obtain ⟨x_p2, x_f2⟩ := x.at 2 _ rfl
  obtain ⟨x_p3, x_f3⟩ := x.at 3 _ rfl
  obtain ⟨x_p4, x_f4⟩ := x.at 4 _ rfl
  obtain ⟨x_p5, x_f5⟩ := x.at 5 _ rfl
  obtain ⟨x_p6, x_f6⟩ := x.at 6 _ rfl
  obtain ⟨x_p7, x_f7⟩ := x.at 7 _ rfl
  obtain ⟨x_p8, x_f8⟩ := x.at 8 _ rfl
  obtain ⟨x_p9, x_f9⟩ := x.at 9 _ rfl
  obtain ⟨x_p10, x_f10⟩ := x.at 10 _ rfl
  obtain ⟨x_p11, x_f11⟩ := x.at 11 _ rfl
  obtain ⟨x_p12, x_f12⟩ := x.at 12 _ rfl
  clear hE1 hW0
  go_wp2_with fail
  refine (heldVoteS_nil _ _).mono ?_
  rintro e w2 ⟨rfl, rfl⟩
  go_wp2
  go_ret
  exact ⟨rfl, by repeat' (first | with_reducible exact Ext.refl _ | with_reducible assumption | with_reducible refine Ext.set ?_ ?_ _ _ | with_reducible refine Ext.alloc ?_ _ | with_reducible refine Ext.drew ?_ | with_reducible refine Ext.drewN ?_ _ | with_reducible refine Ext.trans ?_ (by with_reducible assumption) | omega | (simp; done) | (simp; omega))⟩

end Go.Proofs.Ytbfbdhjeoknjkaa
