/-
  A replica that is well formed, on both sides.
-/
import Derived.Test.YtbfbdhjeoknjkaaVoteOk
import Derived.Test.YtbfbdhjeoknjkaaReplica
import Derived.Test.YtbfbdhjeoknjkaaSameLog
namespace Go.Proofs.Ytbfbdhjeoknjkaa
open Go.RowKit

def modeB (m : ReplicaD) : Bool :=
  if m.mode = 1 then m.view == m.normal && m.view == m.cell
  else if m.mode = 2 then decide (m.normal ≤ m.view) && m.view == m.cell
  else if m.mode = 0 then m.view == 0 && (m.normal == 0 && (m.commit == 0 && (decide (m.log = zeroL) && decide (m.votes.length = 0))))
  else if m.mode = 3 then m.view == 0 && (m.normal == 0 && (m.commit == 0 && decide (m.log = zeroL)))
  else false
def repB (m : ReplicaD) : Bool := ofB m.of && (inB m.me 0 (m.of - 1) && (wholeB m.view && (wholeB m.normal && (wholeB m.cell && (wholeB m.nonce && (hasNum m.log m.commit && (decide (m.votes.length ≤ 20) && (m.votes.all (voteB m.of) && modeB m))))))))
set_option maxRecDepth 100000 in
set_option maxHeartbeats 2000000 in
theorem isLogZero_i (v : Value) (l : LogD) (w : World) (B : Nat) (h : R_Log w B v l) (hB : B ≤ w.heap.size) :
    Calls Try.prog 83 #[v] w fun e w' => e = .returned (.bool (decide (l = zeroL))) ∧ Ext w w' := by
  have h0 := h
  obtain ⟨u, s, t, rfl, hu, hs, ht⟩ := h
  obtain ⟨A0, n0, c0, hv0, -⟩ := id hu
  obtain ⟨A1, n1, c1, hv1, -⟩ := id hs
  obtain ⟨A2, n2, c2, hv2, -⟩ := id ht
  subst hv0 hv1 hv2
  clear hu hs ht
  have hW0 : Ext w (w.alloc (.cells #[.int .i64 l.base, .slice A0 n0 c0, .slice A1 n1 c1, .slice A2 n2 c2] 42)) := by repeat' (first | with_reducible exact Ext.refl _ | with_reducible assumption | with_reducible refine Ext.set ?_ ?_ _ _ | with_reducible refine Ext.alloc ?_ _ | with_reducible refine Ext.drew ?_ | with_reducible refine Ext.drewN ?_ _ | with_reducible refine Ext.trans ?_ (by with_reducible assumption) | omega | (simp; done) | (simp; omega))
  have zW0 : w.heap.size + 1 ≤ (w.alloc (.cells #[.int .i64 l.base, .slice A0 n0 c0, .slice A1 n1 c1, .slice A2 n2 c2] 42)).heap.size := by simp
  have x : Blk (w.alloc (.cells #[.int .i64 l.base, .slice A0 n0 c0, .slice A1 n1 c1, .slice A2 n2 c2] 42)) w.heap.size 42 [.int .i64 l.base, .slice A0 n0 c0, .slice A1 n1 c1, .slice A2 n2 c2] := (Blk.new w #[.int .i64 l.base, .slice A0 n0 c0, .slice A1 n1 c1, .slice A2 n2 c2] 42 (by first | rfl | simp))
  go_enter Try.func83, Try.ntmps83
  go_upto_region 1 with (fail)
  generalize (w.alloc (.cells #[.int .i64 l.base, .slice A0 n0 c0, .slice A1 n1 c1, .slice A2 n2 c2] 42)) = W0 at *
  obtain ⟨x_p0, x_f0⟩ := x.at 0 _ rfl
  obtain ⟨x_p1, x_f1⟩ := x.at 1 _ rfl
  obtain ⟨x_p2, x_f2⟩ := x.at 2 _ rfl
  obtain ⟨x_p3, x_f3⟩ := x.at 3 _ rfl
  go_wp2_with fail
  refine (sameLog_i _ _ l zeroL _ B 0 (by exact h0.keep (keepE' hW0 hB)) (by have := hW0.size; omega) (R_zeroL _ _) (Nat.zero_le _)).mono ?_
  rintro e w1 ⟨rfl, hE1⟩
  have hX1 := hW0.trans hE1
  go_wp2
  go_ret
  exact ⟨rfl, hX1⟩
set_option maxRecDepth 100000 in
set_option maxHeartbeats 2000000 in
theorem voteBad_any (v : Value) (m : VoteD) (g : Nat) (of : Int) (w : World) (B : Nat) (h : R_Vote w B v m) (hB : B ≤ w.heap.size) (hof : ofB of = true) (hc : w.cell? ⟨g, 1, none⟩ = some (.int .i64 of)) (hg : g < w.heap.size) :
    Calls Try.prog 81 #[v, .pointer (some ⟨g, 0, none⟩)] w fun e w' => e = .returned (.bool (!voteB of m)) ∧ Ext w w' := by
  obtain ⟨u0, s0, t0, rfl, h0u, h0s, h0t⟩ := id h
  obtain ⟨A0, n0, c0, hv0, -⟩ := id h0u
  obtain ⟨A1, n1, c1, hv1, -⟩ := id h0s
  obtain ⟨A2, n2, c2, hv2, -⟩ := id h0t
  subst hv0 hv1 hv2
  have hl0 : R_Log w B (.agg #[.int .i64 m.log.base, .slice A0 n0 c0, .slice A1 n1 c1, .slice A2 n2 c2]) m.log := ⟨_, _, _, rfl, h0u, h0s, h0t⟩
  clear h0u h0s h0t
  clear hl0
  have hW0 : Ext w (w.alloc (.cells #[.int .i64 m.kind, .int .i64 m.frm, .int .i64 m.view, .int .i64 m.normal, .int .i64 m.op, .int .i64 m.commit, .int .i64 m.log.base, .slice A0 n0 c0, .slice A1 n1 c1, .slice A2 n2 c2] 119)) := by repeat' (first | with_reducible exact Ext.refl _ | with_reducible assumption | with_reducible refine Ext.set ?_ ?_ _ _ | with_reducible refine Ext.alloc ?_ _ | with_reducible refine Ext.drew ?_ | with_reducible refine Ext.drewN ?_ _ | with_reducible refine Ext.trans ?_ (by with_reducible assumption) | omega | (simp; done) | (simp; omega))
  have zW0 : w.heap.size + 1 ≤ (w.alloc (.cells #[.int .i64 m.kind, .int .i64 m.frm, .int .i64 m.view, .int .i64 m.normal, .int .i64 m.op, .int .i64 m.commit, .int .i64 m.log.base, .slice A0 n0 c0, .slice A1 n1 c1, .slice A2 n2 c2] 119)).heap.size := by simp
  have x : Blk (w.alloc (.cells #[.int .i64 m.kind, .int .i64 m.frm, .int .i64 m.view, .int .i64 m.normal, .int .i64 m.op, .int .i64 m.commit, .int .i64 m.log.base, .slice A0 n0 c0, .slice A1 n1 c1, .slice A2 n2 c2] 119)) w.heap.size 119 [.int .i64 m.kind, .int .i64 m.frm, .int .i64 m.view, .int .i64 m.normal, .int .i64 m.op, .int .i64 m.commit, .int .i64 m.log.base, .slice A0 n0 c0, .slice A1 n1 c1, .slice A2 n2 c2] := (Blk.new w #[.int .i64 m.kind, .int .i64 m.frm, .int .i64 m.view, .int .i64 m.normal, .int .i64 m.op, .int .i64 m.commit, .int .i64 m.log.base, .slice A0 n0 c0, .slice A1 n1 c1, .slice A2 n2 c2] 119 (by first | rfl | simp))
  go_enter Try.func81, Try.ntmps81
  go_upto_region 1 with (fail)
  generalize (w.alloc (.cells #[.int .i64 m.kind, .int .i64 m.frm, .int .i64 m.view, .int .i64 m.normal, .int .i64 m.op, .int .i64 m.commit, .int .i64 m.log.base, .slice A0 n0 c0, .slice A1 n1 c1, .slice A2 n2 c2] 119)) = W0 at *
  have hc1 := hW0.cellAt hc
  obtain ⟨x_p0, x_f0⟩ := x.at 0 _ rfl
  obtain ⟨x_p1, x_f1⟩ := x.at 1 _ rfl
  obtain ⟨x_p2, x_f2⟩ := x.at 2 _ rfl
  obtain ⟨x_p3, x_f3⟩ := x.at 3 _ rfl
  obtain ⟨x_p4, x_f4⟩ := x.at 4 _ rfl
  obtain ⟨x_p5, x_f5⟩ := x.at 5 _ rfl
  obtain ⟨x_p6, x_f6⟩ := x.at 6 _ rfl
  obtain ⟨x_p7, x_f7⟩ := x.at 7 _ rfl
  obtain ⟨x_p8, x_f8⟩ := x.at 8 _ rfl
  obtain ⟨x_p9, x_f9⟩ := x.at 9 _ rfl
  go_wp2_with fail
  refine (voteOk_i _ m of _ B (by exact h.keep (keepE' hW0 hB)) (by have := hW0.size; omega) hof).mono ?_
  rintro e w1 ⟨rfl, hE1⟩
  have hX1 := hW0.trans hE1
  go_wp2
  go_ret
  exact ⟨rfl, hX1⟩
set_option maxRecDepth 100000 in
set_option maxHeartbeats 2000000 in
theorem indexVote_any (A : Option Addr) (n c : Nat) (l : List VoteE) (g : Nat) (of : Int) (w : World) (B : Nat) (hr : Rd w B 10 A n (l.flatMap eV)) (hl : l.length = n) (hgd : ∀ x ∈ l, x.Good w B) (hB : B ≤ w.heap.size) (hn : n ≤ 2097152) (hof : ofB of = true) (hc : w.cell? ⟨g, 1, none⟩ = some (.int .i64 of)) (hg : g < w.heap.size) :
    Calls Try.prog 119 #[.slice A n c, .func (.func 81) #[] #[.pointer (some ⟨g, 0, none⟩)]] w fun e w' => ∃ j : Int, e = .returned (.int .i64 j) ∧ (decide (0 ≤ j) = !l.all fun y => voteB of y.d) ∧ -1 ≤ j ∧ Ext w w' := by
  have Hl := Lib.hid hl
  have Hg := Lib.hid hgd
  clear hl hgd
  go_enter Try.func119, Try.ntmps119
  go_wp2
  go_loopw [8] (fun iv wr => ∃ k : Nat, k ≤ n ∧ iv = .int .i64 k ∧ Hid (((l.take k).all fun y => voteB of y.d) = true) ∧ Ext w wr) (fun iv _ => n - (intOf iv).toNat)
  case atStart => exact ⟨0, by omega, rfl, by simp [Hid], by repeat' (first | with_reducible exact Ext.refl _ | with_reducible assumption | with_reducible refine Ext.set ?_ ?_ _ _ | with_reducible refine Ext.alloc ?_ _ | with_reducible refine Ext.drew ?_ | with_reducible refine Ext.drewN ?_ _ | with_reducible refine Ext.trans ?_ (by with_reducible assumption) | omega | (simp; done) | (simp; omega))⟩
  case round =>
    obtain ⟨k, hk, rfl, hok, hext⟩ := hrel
    have hsz := hext.size
    by_cases hlt : k < n
    · obtain ⟨b, off, x, A0, n0, c0, A1, n1, c1, A2, n2, c2, rfl, _, hx1, hR, hc20, hc21, hc22, hc23, hc24, hc25, hc26, hc27, hc28, hc29⟩ := votes_at (hext.rd hr hB) Hl.out (fun x hx => (Hg.out x hx).keep (keepE' hext hB)) hlt
      have Hx := Lib.hid hx1
      have hlt' : (k : Int) < (n : Int) := by omega
      clear hx1
      go_wp2_with fail
      refine (voteBad_any _ x.d g of _ B hR (by omega) hof (by exact hext.cellAt hc) (by omega)).mono ?_
      rintro e w1 ⟨rfl, hE1⟩
      obtain ⟨vb, hvb⟩ : ∃ b, voteB of x.d = b := ⟨_, rfl⟩
      rw [hvb]
      cases vb with
      | false =>
        have hres : Hid ((l.all fun y => voteB of y.d) = false) := by
          show _ = _
          rw [List.all_eq_false]
          exact ⟨x, List.mem_of_getElem? Hx.out, by simp [hvb]⟩
        clear hvb
        go_wp2
        go_ret
        exact ⟨k, rfl, by rw [hres.out]; simp, by omega, by repeat' (first | with_reducible exact Ext.refl _ | with_reducible assumption | with_reducible refine Ext.set ?_ ?_ _ _ | with_reducible refine Ext.alloc ?_ _ | with_reducible refine Ext.drew ?_ | with_reducible refine Ext.drewN ?_ _ | with_reducible refine Ext.trans ?_ (by with_reducible assumption) | omega | (simp; done) | (simp; omega))⟩
      | true =>
        have hok' : Hid (((l.take (k + 1)).all fun y => voteB of y.d) = true) := by
          show _ = _
          rw [take_snoc Hx.out, List.all_append, hok.out]
          simp [hvb]
        clear hvb
        go_wp2
        go_roundw
        case rel => exact ⟨k + 1, by omega, by go_num, hok', by repeat' (first | with_reducible exact Ext.refl _ | with_reducible assumption | with_reducible refine Ext.set ?_ ?_ _ _ | with_reducible refine Ext.alloc ?_ _ | with_reducible refine Ext.drew ?_ | with_reducible refine Ext.drewN ?_ _ | with_reducible refine Ext.trans ?_ (by with_reducible assumption) | omega | (simp; done) | (simp; omega))⟩
        case measure => simp [intOf]; omega
    · obtain rfl : n = k := by omega
      have h := hok.out
      rw [List.take_of_length_le (by rw [Hl.out]; omega)] at h
      have H := Lib.hid h
      clear h
      go_wp2
      go_ret
      exact ⟨-1, rfl, by rw [H.out]; rfl, by omega, hext⟩
theorem badVote_any (A : Option Addr) (n c : Nat) (l : List VoteE) (g : Nat) (of : Int) (w : World) (B : Nat) (hr : Rd w B 10 A n (l.flatMap eV)) (hl : l.length = n) (hgd : ∀ x ∈ l, x.Good w B) (hB : B ≤ w.heap.size) (hn : n ≤ 2097152) (hof : ofB of = true) (hc : w.cell? ⟨g, 1, none⟩ = some (.int .i64 of)) (hg : g < w.heap.size) :
    Calls Try.prog 80 #[.slice A n c, .func (.func 81) #[] #[.pointer (some ⟨g, 0, none⟩)]] w fun e w' => e = .returned (.bool (!l.all fun y => voteB of y.d)) ∧ Ext w w' := by
  go_enter Try.func80, Try.ntmps80
  go_wp2_with fail
  refine (indexVote_any A n c l g of _ B hr hl hgd hB hn hof hc hg).mono ?_
  rintro e w1 ⟨j, rfl, hi, hi1, hE1⟩
  go_wp2
  go_ret
  exact ⟨by first | rfl | exact ret_bool hi, hE1⟩

set_option maxRecDepth 100000 in
set_option maxHeartbeats 16000000 in
theorem replicaOk_i (v : Value) (m : ReplicaD) (w : World) (B : Nat) (h : R_Replica w B v m) (hB : B ≤ w.heap.size) :
    Calls Try.prog 35 #[v] w fun e w' => e = .returned (.bool (repB m)) ∧ Ext w w' := by
  obtain ⟨u0, s0, t0, q0, rfl, h0u, h0s, h0t, h0q⟩ := h
  obtain ⟨A0, n0, c0, hv0, -⟩ := id h0u
  obtain ⟨A1, n1, c1, hv1, -⟩ := id h0s
  obtain ⟨A2, n2, c2, hv2, -⟩ := id h0t
  subst hv0 hv1 hv2
  have hl0 : R_Log w B (.agg #[.int .i64 m.log.base, .slice A0 n0 c0, .slice A1 n1 c1, .slice A2 n2 c2]) m.log := ⟨_, _, _, rfl, h0u, h0s, h0t⟩
  clear h0u h0s h0t
  obtain ⟨ss, hss, ⟨V0, r0, d0, rfl, hrl, hd0, hd1, hr⟩, hgd⟩ := h0q
  have hvl : m.votes.length = r0 := by rw [hss, List.length_map, hrl]
  have hall : m.votes.all (voteB m.of) = ss.all fun y => voteB m.of y.d := by rw [hss, List.all_map]; rfl
  have Hr := Lib.hid hrl
  have Hg := Lib.hid hgd
  clear hss hrl hgd
  have hW0 : Ext w (w.alloc (.cells #[.int .i64 m.me, .int .i64 m.of, .int .i64 m.mode, .int .i64 m.view, .int .i64 m.normal, .int .i64 m.commit, .int .i64 m.log.base, .slice A0 n0 c0, .slice A1 n1 c1, .slice A2 n2 c2, .slice V0 r0 d0, .int .i64 m.cell, .int .i64 m.nonce] 71)) := by repeat' (first | with_reducible exact Ext.refl _ | with_reducible assumption | with_reducible refine Ext.set ?_ ?_ _ _ | with_reducible refine Ext.alloc ?_ _ | with_reducible refine Ext.drew ?_ | with_reducible refine Ext.drewN ?_ _ | with_reducible refine Ext.trans ?_ (by with_reducible assumption) | omega | (simp; done) | (simp; omega))
  have zW0 : w.heap.size + 1 ≤ (w.alloc (.cells #[.int .i64 m.me, .int .i64 m.of, .int .i64 m.mode, .int .i64 m.view, .int .i64 m.normal, .int .i64 m.commit, .int .i64 m.log.base, .slice A0 n0 c0, .slice A1 n1 c1, .slice A2 n2 c2, .slice V0 r0 d0, .int .i64 m.cell, .int .i64 m.nonce] 71)).heap.size := by simp
  have x : Blk (w.alloc (.cells #[.int .i64 m.me, .int .i64 m.of, .int .i64 m.mode, .int .i64 m.view, .int .i64 m.normal, .int .i64 m.commit, .int .i64 m.log.base, .slice A0 n0 c0, .slice A1 n1 c1, .slice A2 n2 c2, .slice V0 r0 d0, .int .i64 m.cell, .int .i64 m.nonce] 71)) w.heap.size 71 [.int .i64 m.me, .int .i64 m.of, .int .i64 m.mode, .int .i64 m.view, .int .i64 m.normal, .int .i64 m.commit, .int .i64 m.log.base, .slice A0 n0 c0, .slice A1 n1 c1, .slice A2 n2 c2, .slice V0 r0 d0, .int .i64 m.cell, .int .i64 m.nonce] := (Blk.new w #[.int .i64 m.me, .int .i64 m.of, .int .i64 m.mode, .int .i64 m.view, .int .i64 m.normal, .int .i64 m.commit, .int .i64 m.log.base, .slice A0 n0 c0, .slice A1 n1 c1, .slice A2 n2 c2, .slice V0 r0 d0, .int .i64 m.cell, .int .i64 m.nonce] 71 (by first | rfl | simp))
  unfold repB
  rw [hvl, hall]
  clear hall
  obtain ⟨b0, hb0⟩ : ∃ b, ofB m.of = b := ⟨_, rfl⟩
  rw [hb0]
  cases b0 with
  | false =>
    clear Hr Hg hr hvl hd0 hd1
    go_enter Try.func35, Try.ntmps35
    go_upto_region 1 with (fail)
    generalize (w.alloc (.cells #[.int .i64 m.me, .int .i64 m.of, .int .i64 m.mode, .int .i64 m.view, .int .i64 m.normal, .int .i64 m.commit, .int .i64 m.log.base, .slice A0 n0 c0, .slice A1 n1 c1, .slice A2 n2 c2, .slice V0 r0 d0, .int .i64 m.cell, .int .i64 m.nonce] 71)) = W0 at *
    obtain ⟨x_p0, x_f0⟩ := x.at 0 _ rfl
    obtain ⟨x_p1, x_f1⟩ := x.at 1 _ rfl
    obtain ⟨x_p2, x_f2⟩ := x.at 2 _ rfl
    obtain ⟨x_p3, x_f3⟩ := x.at 3 _ rfl
    obtain ⟨x_p4, x_f4⟩ := x.at 4 _ rfl
    obtain ⟨x_p5, x_f5⟩ := x.at 5 _ rfl
    obtain ⟨x_p6, x_f6⟩ := x.at 6 _ rfl
    obtain ⟨x_p7, x_f7⟩ := x.at 7 _ rfl
    obtain ⟨x_p8, x_f8⟩ := x.at 8 _ rfl
    obtain ⟨x_p9, x_f9⟩ := x.at 9 _ rfl
    obtain ⟨x_p10, x_f10⟩ := x.at 10 _ rfl
    obtain ⟨x_p11, x_f11⟩ := x.at 11 _ rfl
    obtain ⟨x_p12, x_f12⟩ := x.at 12 _ rfl
    go_wp2_with (first | (go_at_call 76; refine (isOf_any _ _).mono ?_; rintro e w9 ⟨rfl, rfl⟩) | (go_at_call 77; refine (from_any _ _ _ _).mono ?_; rintro e w9 ⟨rfl, rfl⟩) | (go_at_call 78; refine (isWhole_any _ _).mono ?_; rintro e w9 ⟨rfl, rfl⟩))
    go_ret
    exact ⟨rfl, by repeat' (first | with_reducible exact Ext.refl _ | with_reducible assumption | with_reducible refine Ext.set ?_ ?_ _ _ | with_reducible refine Ext.alloc ?_ _ | with_reducible refine Ext.drew ?_ | with_reducible refine Ext.drewN ?_ _ | with_reducible refine Ext.trans ?_ (by with_reducible assumption) | omega | (simp; done) | (simp; omega))⟩
  | true =>
    have hof := (ofB_iff _).1 hb0
    have hwr : IntKind.i64.wrap (m.of - 1) = m.of - 1 := IntWalk.i64_in _ (by omega)
    clear hof
    obtain ⟨b1, hb1⟩ : ∃ b, inB m.me 0 (m.of - 1) = b := ⟨_, rfl⟩
    rw [hb1]
    cases b1 with
    | false =>
      clear Hr Hg hr hvl hd0 hd1
      go_enter Try.func35, Try.ntmps35
      go_upto_region 1 with (fail)
      generalize (w.alloc (.cells #[.int .i64 m.me, .int .i64 m.of, .int .i64 m.mode, .int .i64 m.view, .int .i64 m.normal, .int .i64 m.commit, .int .i64 m.log.base, .slice A0 n0 c0, .slice A1 n1 c1, .slice A2 n2 c2, .slice V0 r0 d0, .int .i64 m.cell, .int .i64 m.nonce] 71)) = W0 at *
      obtain ⟨x_p0, x_f0⟩ := x.at 0 _ rfl
      obtain ⟨x_p1, x_f1⟩ := x.at 1 _ rfl
      obtain ⟨x_p2, x_f2⟩ := x.at 2 _ rfl
      obtain ⟨x_p3, x_f3⟩ := x.at 3 _ rfl
      obtain ⟨x_p4, x_f4⟩ := x.at 4 _ rfl
      obtain ⟨x_p5, x_f5⟩ := x.at 5 _ rfl
      obtain ⟨x_p6, x_f6⟩ := x.at 6 _ rfl
      obtain ⟨x_p7, x_f7⟩ := x.at 7 _ rfl
      obtain ⟨x_p8, x_f8⟩ := x.at 8 _ rfl
      obtain ⟨x_p9, x_f9⟩ := x.at 9 _ rfl
      obtain ⟨x_p10, x_f10⟩ := x.at 10 _ rfl
      obtain ⟨x_p11, x_f11⟩ := x.at 11 _ rfl
      obtain ⟨x_p12, x_f12⟩ := x.at 12 _ rfl
      go_wp2_with (first | (go_at_call 76; refine (isOf_any _ _).mono ?_; rintro e w9 ⟨rfl, rfl⟩) | (go_at_call 77; refine (from_any _ _ _ _).mono ?_; rintro e w9 ⟨rfl, rfl⟩) | (go_at_call 78; refine (isWhole_any _ _).mono ?_; rintro e w9 ⟨rfl, rfl⟩))
      go_ret
      exact ⟨rfl, by repeat' (first | with_reducible exact Ext.refl _ | with_reducible assumption | with_reducible refine Ext.set ?_ ?_ _ _ | with_reducible refine Ext.alloc ?_ _ | with_reducible refine Ext.drew ?_ | with_reducible refine Ext.drewN ?_ _ | with_reducible refine Ext.trans ?_ (by with_reducible assumption) | omega | (simp; done) | (simp; omega))⟩
    | true =>
      obtain ⟨b2, hb2⟩ : ∃ b, wholeB m.view = b := ⟨_, rfl⟩
      rw [hb2]
      cases b2 with
      | false =>
        clear Hr Hg hr hvl hd0 hd1
        go_enter Try.func35, Try.ntmps35
        go_upto_region 1 with (fail)
        generalize (w.alloc (.cells #[.int .i64 m.me, .int .i64 m.of, .int .i64 m.mode, .int .i64 m.view, .int .i64 m.normal, .int .i64 m.commit, .int .i64 m.log.base, .slice A0 n0 c0, .slice A1 n1 c1, .slice A2 n2 c2, .slice V0 r0 d0, .int .i64 m.cell, .int .i64 m.nonce] 71)) = W0 at *
        obtain ⟨x_p0, x_f0⟩ := x.at 0 _ rfl
        obtain ⟨x_p1, x_f1⟩ := x.at 1 _ rfl
        obtain ⟨x_p2, x_f2⟩ := x.at 2 _ rfl
        obtain ⟨x_p3, x_f3⟩ := x.at 3 _ rfl
        obtain ⟨x_p4, x_f4⟩ := x.at 4 _ rfl
        obtain ⟨x_p5, x_f5⟩ := x.at 5 _ rfl
        obtain ⟨x_p6, x_f6⟩ := x.at 6 _ rfl
        obtain ⟨x_p7, x_f7⟩ := x.at 7 _ rfl
        obtain ⟨x_p8, x_f8⟩ := x.at 8 _ rfl
        obtain ⟨x_p9, x_f9⟩ := x.at 9 _ rfl
        obtain ⟨x_p10, x_f10⟩ := x.at 10 _ rfl
        obtain ⟨x_p11, x_f11⟩ := x.at 11 _ rfl
        obtain ⟨x_p12, x_f12⟩ := x.at 12 _ rfl
        go_wp2_with (first | (go_at_call 76; refine (isOf_any _ _).mono ?_; rintro e w9 ⟨rfl, rfl⟩) | (go_at_call 77; refine (from_any _ _ _ _).mono ?_; rintro e w9 ⟨rfl, rfl⟩) | (go_at_call 78; refine (isWhole_any _ _).mono ?_; rintro e w9 ⟨rfl, rfl⟩))
        go_ret
        exact ⟨rfl, by repeat' (first | with_reducible exact Ext.refl _ | with_reducible assumption | with_reducible refine Ext.set ?_ ?_ _ _ | with_reducible refine Ext.alloc ?_ _ | with_reducible refine Ext.drew ?_ | with_reducible refine Ext.drewN ?_ _ | with_reducible refine Ext.trans ?_ (by with_reducible assumption) | omega | (simp; done) | (simp; omega))⟩
      | true =>
        obtain ⟨b3, hb3⟩ : ∃ b, wholeB m.normal = b := ⟨_, rfl⟩
        rw [hb3]
        cases b3 with
        | false =>
          clear Hr Hg hr hvl hd0 hd1
          go_enter Try.func35, Try.ntmps35
          go_upto_region 1 with (fail)
          generalize (w.alloc (.cells #[.int .i64 m.me, .int .i64 m.of, .int .i64 m.mode, .int .i64 m.view, .int .i64 m.normal, .int .i64 m.commit, .int .i64 m.log.base, .slice A0 n0 c0, .slice A1 n1 c1, .slice A2 n2 c2, .slice V0 r0 d0, .int .i64 m.cell, .int .i64 m.nonce] 71)) = W0 at *
          obtain ⟨x_p0, x_f0⟩ := x.at 0 _ rfl
          obtain ⟨x_p1, x_f1⟩ := x.at 1 _ rfl
          obtain ⟨x_p2, x_f2⟩ := x.at 2 _ rfl
          obtain ⟨x_p3, x_f3⟩ := x.at 3 _ rfl
          obtain ⟨x_p4, x_f4⟩ := x.at 4 _ rfl
          obtain ⟨x_p5, x_f5⟩ := x.at 5 _ rfl
          obtain ⟨x_p6, x_f6⟩ := x.at 6 _ rfl
          obtain ⟨x_p7, x_f7⟩ := x.at 7 _ rfl
          obtain ⟨x_p8, x_f8⟩ := x.at 8 _ rfl
          obtain ⟨x_p9, x_f9⟩ := x.at 9 _ rfl
          obtain ⟨x_p10, x_f10⟩ := x.at 10 _ rfl
          obtain ⟨x_p11, x_f11⟩ := x.at 11 _ rfl
          obtain ⟨x_p12, x_f12⟩ := x.at 12 _ rfl
          go_wp2_with (first | (go_at_call 76; refine (isOf_any _ _).mono ?_; rintro e w9 ⟨rfl, rfl⟩) | (go_at_call 77; refine (from_any _ _ _ _).mono ?_; rintro e w9 ⟨rfl, rfl⟩) | (go_at_call 78; refine (isWhole_any _ _).mono ?_; rintro e w9 ⟨rfl, rfl⟩))
          go_ret
          exact ⟨rfl, by repeat' (first | with_reducible exact Ext.refl _ | with_reducible assumption | with_reducible refine Ext.set ?_ ?_ _ _ | with_reducible refine Ext.alloc ?_ _ | with_reducible refine Ext.drew ?_ | with_reducible refine Ext.drewN ?_ _ | with_reducible refine Ext.trans ?_ (by with_reducible assumption) | omega | (simp; done) | (simp; omega))⟩
        | true =>
          obtain ⟨b4, hb4⟩ : ∃ b, wholeB m.cell = b := ⟨_, rfl⟩
          rw [hb4]
          cases b4 with
          | false =>
            clear Hr Hg hr hvl hd0 hd1
            go_enter Try.func35, Try.ntmps35
            go_upto_region 1 with (fail)
            generalize (w.alloc (.cells #[.int .i64 m.me, .int .i64 m.of, .int .i64 m.mode, .int .i64 m.view, .int .i64 m.normal, .int .i64 m.commit, .int .i64 m.log.base, .slice A0 n0 c0, .slice A1 n1 c1, .slice A2 n2 c2, .slice V0 r0 d0, .int .i64 m.cell, .int .i64 m.nonce] 71)) = W0 at *
            obtain ⟨x_p0, x_f0⟩ := x.at 0 _ rfl
            obtain ⟨x_p1, x_f1⟩ := x.at 1 _ rfl
            obtain ⟨x_p2, x_f2⟩ := x.at 2 _ rfl
            obtain ⟨x_p3, x_f3⟩ := x.at 3 _ rfl
            obtain ⟨x_p4, x_f4⟩ := x.at 4 _ rfl
            obtain ⟨x_p5, x_f5⟩ := x.at 5 _ rfl
            obtain ⟨x_p6, x_f6⟩ := x.at 6 _ rfl
            obtain ⟨x_p7, x_f7⟩ := x.at 7 _ rfl
            obtain ⟨x_p8, x_f8⟩ := x.at 8 _ rfl
            obtain ⟨x_p9, x_f9⟩ := x.at 9 _ rfl
            obtain ⟨x_p10, x_f10⟩ := x.at 10 _ rfl
            obtain ⟨x_p11, x_f11⟩ := x.at 11 _ rfl
            obtain ⟨x_p12, x_f12⟩ := x.at 12 _ rfl
            go_wp2_with (first | (go_at_call 76; refine (isOf_any _ _).mono ?_; rintro e w9 ⟨rfl, rfl⟩) | (go_at_call 77; refine (from_any _ _ _ _).mono ?_; rintro e w9 ⟨rfl, rfl⟩) | (go_at_call 78; refine (isWhole_any _ _).mono ?_; rintro e w9 ⟨rfl, rfl⟩))
            go_ret
            exact ⟨rfl, by repeat' (first | with_reducible exact Ext.refl _ | with_reducible assumption | with_reducible refine Ext.set ?_ ?_ _ _ | with_reducible refine Ext.alloc ?_ _ | with_reducible refine Ext.drew ?_ | with_reducible refine Ext.drewN ?_ _ | with_reducible refine Ext.trans ?_ (by with_reducible assumption) | omega | (simp; done) | (simp; omega))⟩
          | true =>
            obtain ⟨b5, hb5⟩ : ∃ b, wholeB m.nonce = b := ⟨_, rfl⟩
            rw [hb5]
            cases b5 with
            | false =>
              clear Hr Hg hr hvl hd0 hd1
              go_enter Try.func35, Try.ntmps35
              go_upto_region 1 with (fail)
              generalize (w.alloc (.cells #[.int .i64 m.me, .int .i64 m.of, .int .i64 m.mode, .int .i64 m.view, .int .i64 m.normal, .int .i64 m.commit, .int .i64 m.log.base, .slice A0 n0 c0, .slice A1 n1 c1, .slice A2 n2 c2, .slice V0 r0 d0, .int .i64 m.cell, .int .i64 m.nonce] 71)) = W0 at *
              obtain ⟨x_p0, x_f0⟩ := x.at 0 _ rfl
              obtain ⟨x_p1, x_f1⟩ := x.at 1 _ rfl
              obtain ⟨x_p2, x_f2⟩ := x.at 2 _ rfl
              obtain ⟨x_p3, x_f3⟩ := x.at 3 _ rfl
              obtain ⟨x_p4, x_f4⟩ := x.at 4 _ rfl
              obtain ⟨x_p5, x_f5⟩ := x.at 5 _ rfl
              obtain ⟨x_p6, x_f6⟩ := x.at 6 _ rfl
              obtain ⟨x_p7, x_f7⟩ := x.at 7 _ rfl
              obtain ⟨x_p8, x_f8⟩ := x.at 8 _ rfl
              obtain ⟨x_p9, x_f9⟩ := x.at 9 _ rfl
              obtain ⟨x_p10, x_f10⟩ := x.at 10 _ rfl
              obtain ⟨x_p11, x_f11⟩ := x.at 11 _ rfl
              obtain ⟨x_p12, x_f12⟩ := x.at 12 _ rfl
              go_wp2_with (first | (go_at_call 76; refine (isOf_any _ _).mono ?_; rintro e w9 ⟨rfl, rfl⟩) | (go_at_call 77; refine (from_any _ _ _ _).mono ?_; rintro e w9 ⟨rfl, rfl⟩) | (go_at_call 78; refine (isWhole_any _ _).mono ?_; rintro e w9 ⟨rfl, rfl⟩))
              go_ret
              exact ⟨rfl, by repeat' (first | with_reducible exact Ext.refl _ | with_reducible assumption | with_reducible refine Ext.set ?_ ?_ _ _ | with_reducible refine Ext.alloc ?_ _ | with_reducible refine Ext.drew ?_ | with_reducible refine Ext.drewN ?_ _ | with_reducible refine Ext.trans ?_ (by with_reducible assumption) | omega | (simp; done) | (simp; omega))⟩
            | true =>
              obtain ⟨res, hres⟩ : ∃ b, (hasNum m.log m.commit && (decide (r0 ≤ 20) && ((ss.all fun y => voteB m.of y.d) && modeB m))) = b := ⟨_, rfl⟩
              rw [hres]
              have Hres := Lib.hid hres
              clear hres
              go_enter Try.func35, Try.ntmps35
              go_upto_region 1 with (fail)
              generalize (w.alloc (.cells #[.int .i64 m.me, .int .i64 m.of, .int .i64 m.mode, .int .i64 m.view, .int .i64 m.normal, .int .i64 m.commit, .int .i64 m.log.base, .slice A0 n0 c0, .slice A1 n1 c1, .slice A2 n2 c2, .slice V0 r0 d0, .int .i64 m.cell, .int .i64 m.nonce] 71)) = W0 at *
              obtain ⟨x_p0, x_f0⟩ := x.at 0 _ rfl
              obtain ⟨x_p1, x_f1⟩ := x.at 1 _ rfl
              obtain ⟨x_p2, x_f2⟩ := x.at 2 _ rfl
              obtain ⟨x_p3, x_f3⟩ := x.at 3 _ rfl
              obtain ⟨x_p4, x_f4⟩ := x.at 4 _ rfl
              obtain ⟨x_p5, x_f5⟩ := x.at 5 _ rfl
              obtain ⟨x_p6, x_f6⟩ := x.at 6 _ rfl
              obtain ⟨x_p7, x_f7⟩ := x.at 7 _ rfl
              obtain ⟨x_p8, x_f8⟩ := x.at 8 _ rfl
              obtain ⟨x_p9, x_f9⟩ := x.at 9 _ rfl
              obtain ⟨x_p10, x_f10⟩ := x.at 10 _ rfl
              obtain ⟨x_p11, x_f11⟩ := x.at 11 _ rfl
              obtain ⟨x_p12, x_f12⟩ := x.at 12 _ rfl
              go_wp2_with (first | (go_at_call 76; refine (isOf_any _ _).mono ?_; rintro e w9 ⟨rfl, rfl⟩) | (go_at_call 77; refine (from_any _ _ _ _).mono ?_; rintro e w9 ⟨rfl, rfl⟩) | (go_at_call 78; refine (isWhole_any _ _).mono ?_; rintro e w9 ⟨rfl, rfl⟩))
              refine (hasNumber_i _ m.log m.commit _ B (by exact hl0.keep (keepE' hW0 hB)) (by have := hW0.size; omega)).mono ?_
              rintro e w1 ⟨rfl, hE1⟩
              clear x_p0 x_f0 x_p1 x_f1 x_p2 x_f2 x_p3 x_f3 x_p4 x_f4 x_p5 x_f5 x_p6 x_f6 x_p7 x_f7 x_p8 x_f8 x_p9 x_f9 x_p10 x_f10 x_p11 x_f11 x_p12 x_f12
              have Hb0 := Lib.hid hb0
              clear hb0 hb1 hb2 hb3 hb4 hb5 hwr
              replace x := x.ext hE1
              have hX1 := hW0.trans hE1
              have hz1 := hX1.size
              clear hE1 hW0
              obtain ⟨b6, hb6⟩ : ∃ b, (hasNum m.log m.commit) = b := ⟨_, rfl⟩
              have Hb6 := Lib.hid hb6
              try rw [hb6]
              clear hb6
              cases b6 with
              | false =>
                go_wp2
                go_ret
                exact ⟨ret_bool (by rw [← Hres.out, Hb6.out]; first | done | rfl), by first | exact hX1 | repeat' (first | with_reducible exact Ext.refl _ | with_reducible assumption | with_reducible refine Ext.set ?_ ?_ _ _ | with_reducible refine Ext.alloc ?_ _ | with_reducible refine Ext.drew ?_ | with_reducible refine Ext.drewN ?_ _ | with_reducible refine Ext.trans ?_ (by with_reducible assumption) | omega | (simp; done) | (simp; omega))⟩
              | true =>
                obtain ⟨x_p10, x_f10⟩ := x.at 10 _ rfl
                by_cases h20 : r0 ≤ 20
                rotate_left
                · have H20 := Lib.hid (decide_eq_false h20)
                  go_wp2
                  go_ret
                  exact ⟨ret_bool (by rw [← Hres.out, Hb6.out, H20.out]; first | done | rfl), by first | exact hX1 | repeat' (first | with_reducible exact Ext.refl _ | with_reducible assumption | with_reducible refine Ext.set ?_ ?_ _ _ | with_reducible refine Ext.alloc ?_ _ | with_reducible refine Ext.drew ?_ | with_reducible refine Ext.drewN ?_ _ | with_reducible refine Ext.trans ?_ (by with_reducible assumption) | omega | (simp; done) | (simp; omega))⟩
                have H20 := Lib.hid (decide_eq_true h20)
                obtain ⟨x_p1, x_f1⟩ := x.at 1 _ rfl
                go_wp2_with fail
                refine (badVote_any V0 r0 d0 ss w.heap.size m.of _ B (by exact hX1.rd hr hB) Hr.out (fun y hy => (Hg.out y hy).keep (keepE' hX1 hB)) (by omega) (by omega) Hb0.out x_p1 x.lt).mono ?_
                rintro e w2 ⟨rfl, hE2⟩
                clear x_p1 x_f1 x_p10 x_f10
                replace x := x.ext hE2
                have hX2 := hX1.trans hE2
                have hz2 := hX2.size
                clear hE2 hX1 hz1
                obtain ⟨b7, hb7⟩ : ∃ b, (ss.all fun y => voteB m.of y.d) = b := ⟨_, rfl⟩
                have H7 := Lib.hid hb7
                try rw [hb7]
                clear hb7
                cases b7 with
                | false =>
                  go_wp2
                  go_ret
                  exact ⟨ret_bool (by rw [← Hres.out, Hb6.out, H20.out, H7.out]; first | done | rfl), by first | exact hX2 | repeat' (first | with_reducible exact Ext.refl _ | with_reducible assumption | with_reducible refine Ext.set ?_ ?_ _ _ | with_reducible refine Ext.alloc ?_ _ | with_reducible refine Ext.drew ?_ | with_reducible refine Ext.drewN ?_ _ | with_reducible refine Ext.trans ?_ (by with_reducible assumption) | omega | (simp; done) | (simp; omega))⟩
                | true =>
                  clear Hr Hg hr hd0 hd1
                  by_cases em : m.mode = 1
                  · have hM : modeB m = ((m.view == m.normal) && (m.view == m.cell)) := by
                      unfold modeB
                      rw [em]
                      rfl
                    have HM := Lib.hid hM
                    rw [em] at x
                    clear hM em
                    obtain ⟨x_p2, x_f2⟩ := x.at 2 _ rfl
                    obtain ⟨x_p3, x_f3⟩ := x.at 3 _ rfl
                    obtain ⟨x_p4, x_f4⟩ := x.at 4 _ rfl
                    obtain ⟨x_p5, x_f5⟩ := x.at 5 _ rfl
                    obtain ⟨x_p6, x_f6⟩ := x.at 6 _ rfl
                    obtain ⟨x_p7, x_f7⟩ := x.at 7 _ rfl
                    obtain ⟨x_p8, x_f8⟩ := x.at 8 _ rfl
                    obtain ⟨x_p9, x_f9⟩ := x.at 9 _ rfl
                    obtain ⟨x_p10, x_f10⟩ := x.at 10 _ rfl
                    obtain ⟨x_p11, x_f11⟩ := x.at 11 _ rfl
                    obtain ⟨x_p12, x_f12⟩ := x.at 12 _ rfl
                    obtain ⟨z5, hz5⟩ : ∃ b, (m.view == m.normal) = b := ⟨_, rfl⟩
                    have hM2 := HM.out
                    rw [hz5] at hM2
                    replace HM := Lib.hid hM2
                    clear hM2
                    cases z5 with
                    | false =>
                      go_wp2
                      go_ret
                      exact ⟨ret_bool (by rw [← Hres.out, Hb6.out, H20.out, H7.out, HM.out]; first | done | rfl), by first | exact hX2 | repeat' (first | with_reducible exact Ext.refl _ | with_reducible assumption | with_reducible refine Ext.set ?_ ?_ _ _ | with_reducible refine Ext.alloc ?_ _ | with_reducible refine Ext.drew ?_ | with_reducible refine Ext.drewN ?_ _ | with_reducible refine Ext.trans ?_ (by with_reducible assumption) | omega | (simp; done) | (simp; omega))⟩
                    | true =>
                      obtain ⟨z6, hz6⟩ : ∃ b, (m.view == m.cell) = b := ⟨_, rfl⟩
                      have hM2 := HM.out
                      rw [hz6] at hM2
                      replace HM := Lib.hid hM2
                      clear hM2
                      cases z6 with
                      | false =>
                        go_wp2
                        go_ret
                        exact ⟨ret_bool (by rw [← Hres.out, Hb6.out, H20.out, H7.out, HM.out]; first | done | rfl), by first | exact hX2 | repeat' (first | with_reducible exact Ext.refl _ | with_reducible assumption | with_reducible refine Ext.set ?_ ?_ _ _ | with_reducible refine Ext.alloc ?_ _ | with_reducible refine Ext.drew ?_ | with_reducible refine Ext.drewN ?_ _ | with_reducible refine Ext.trans ?_ (by with_reducible assumption) | omega | (simp; done) | (simp; omega))⟩
                      | true =>
                        go_wp2
                        go_ret
                        exact ⟨ret_bool (by rw [← Hres.out, Hb6.out, H20.out, H7.out, HM.out]; first | done | rfl), by first | exact hX2 | repeat' (first | with_reducible exact Ext.refl _ | with_reducible assumption | with_reducible refine Ext.set ?_ ?_ _ _ | with_reducible refine Ext.alloc ?_ _ | with_reducible refine Ext.drew ?_ | with_reducible refine Ext.drewN ?_ _ | with_reducible refine Ext.trans ?_ (by with_reducible assumption) | omega | (simp; done) | (simp; omega))⟩
                  have e1 : (m.mode == 1) = false := by simp [em]
                  have Em1 := Lib.hid em
                  clear em
                  by_cases em : m.mode = 2
                  · have hM : modeB m = (decide (m.normal ≤ m.view) && (m.view == m.cell)) := by
                      unfold modeB
                      rw [em]
                      rfl
                    have HM := Lib.hid hM
                    rw [em] at x
                    clear hM em
                    obtain ⟨x_p2, x_f2⟩ := x.at 2 _ rfl
                    obtain ⟨x_p3, x_f3⟩ := x.at 3 _ rfl
                    obtain ⟨x_p4, x_f4⟩ := x.at 4 _ rfl
                    obtain ⟨x_p5, x_f5⟩ := x.at 5 _ rfl
                    obtain ⟨x_p6, x_f6⟩ := x.at 6 _ rfl
                    obtain ⟨x_p7, x_f7⟩ := x.at 7 _ rfl
                    obtain ⟨x_p8, x_f8⟩ := x.at 8 _ rfl
                    obtain ⟨x_p9, x_f9⟩ := x.at 9 _ rfl
                    obtain ⟨x_p10, x_f10⟩ := x.at 10 _ rfl
                    obtain ⟨x_p11, x_f11⟩ := x.at 11 _ rfl
                    obtain ⟨x_p12, x_f12⟩ := x.at 12 _ rfl
                    obtain ⟨z5, hz5⟩ : ∃ b, (decide (m.normal ≤ m.view)) = b := ⟨_, rfl⟩
                    have hM2 := HM.out
                    rw [hz5] at hM2
                    replace HM := Lib.hid hM2
                    clear hM2
                    cases z5 with
                    | false =>
                      go_wp2
                      go_ret
                      exact ⟨ret_bool (by rw [← Hres.out, Hb6.out, H20.out, H7.out, HM.out]; first | done | rfl), by first | exact hX2 | repeat' (first | with_reducible exact Ext.refl _ | with_reducible assumption | with_reducible refine Ext.set ?_ ?_ _ _ | with_reducible refine Ext.alloc ?_ _ | with_reducible refine Ext.drew ?_ | with_reducible refine Ext.drewN ?_ _ | with_reducible refine Ext.trans ?_ (by with_reducible assumption) | omega | (simp; done) | (simp; omega))⟩
                    | true =>
                      obtain ⟨z6, hz6⟩ : ∃ b, (m.view == m.cell) = b := ⟨_, rfl⟩
                      have hM2 := HM.out
                      rw [hz6] at hM2
                      replace HM := Lib.hid hM2
                      clear hM2
                      cases z6 with
                      | false =>
                        go_wp2
                        go_ret
                        exact ⟨ret_bool (by rw [← Hres.out, Hb6.out, H20.out, H7.out, HM.out]; first | done | rfl), by first | exact hX2 | repeat' (first | with_reducible exact Ext.refl _ | with_reducible assumption | with_reducible refine Ext.set ?_ ?_ _ _ | with_reducible refine Ext.alloc ?_ _ | with_reducible refine Ext.drew ?_ | with_reducible refine Ext.drewN ?_ _ | with_reducible refine Ext.trans ?_ (by with_reducible assumption) | omega | (simp; done) | (simp; omega))⟩
                      | true =>
                        go_wp2
                        go_ret
                        exact ⟨ret_bool (by rw [← Hres.out, Hb6.out, H20.out, H7.out, HM.out]; first | done | rfl), by first | exact hX2 | repeat' (first | with_reducible exact Ext.refl _ | with_reducible assumption | with_reducible refine Ext.set ?_ ?_ _ _ | with_reducible refine Ext.alloc ?_ _ | with_reducible refine Ext.drew ?_ | with_reducible refine Ext.drewN ?_ _ | with_reducible refine Ext.trans ?_ (by with_reducible assumption) | omega | (simp; done) | (simp; omega))⟩
                  have e2 : (m.mode == 2) = false := by simp [em]
                  have Em2 := Lib.hid em
                  clear em
                  by_cases em : m.mode = 0
                  · have hM : modeB m = ((m.view == 0) && ((m.normal == 0) && ((m.commit == 0) && (decide (m.log = zeroL) && decide (r0 = 0))))) := by
                      unfold modeB
                      rw [em, hvl]
                      rfl
                    have HM := Lib.hid hM
                    rw [em] at x
                    clear hM em
                    obtain ⟨x_p2, x_f2⟩ := x.at 2 _ rfl
                    obtain ⟨x_p3, x_f3⟩ := x.at 3 _ rfl
                    obtain ⟨x_p4, x_f4⟩ := x.at 4 _ rfl
                    obtain ⟨x_p5, x_f5⟩ := x.at 5 _ rfl
                    obtain ⟨x_p6, x_f6⟩ := x.at 6 _ rfl
                    obtain ⟨x_p7, x_f7⟩ := x.at 7 _ rfl
                    obtain ⟨x_p8, x_f8⟩ := x.at 8 _ rfl
                    obtain ⟨x_p9, x_f9⟩ := x.at 9 _ rfl
                    obtain ⟨x_p10, x_f10⟩ := x.at 10 _ rfl
                    obtain ⟨x_p11, x_f11⟩ := x.at 11 _ rfl
                    obtain ⟨x_p12, x_f12⟩ := x.at 12 _ rfl
                    obtain ⟨z5, hz5⟩ : ∃ b, (m.view == 0) = b := ⟨_, rfl⟩
                    have hM2 := HM.out
                    rw [hz5] at hM2
                    replace HM := Lib.hid hM2
                    clear hM2
                    cases z5 with
                    | false =>
                      go_wp2
                      go_ret
                      exact ⟨ret_bool (by rw [← Hres.out, Hb6.out, H20.out, H7.out, HM.out]; first | done | rfl), by first | exact hX2 | repeat' (first | with_reducible exact Ext.refl _ | with_reducible assumption | with_reducible refine Ext.set ?_ ?_ _ _ | with_reducible refine Ext.alloc ?_ _ | with_reducible refine Ext.drew ?_ | with_reducible refine Ext.drewN ?_ _ | with_reducible refine Ext.trans ?_ (by with_reducible assumption) | omega | (simp; done) | (simp; omega))⟩
                    | true =>
                      obtain ⟨z6, hz6⟩ : ∃ b, (m.normal == 0) = b := ⟨_, rfl⟩
                      have hM2 := HM.out
                      rw [hz6] at hM2
                      replace HM := Lib.hid hM2
                      clear hM2
                      cases z6 with
                      | false =>
                        go_wp2
                        go_ret
                        exact ⟨ret_bool (by rw [← Hres.out, Hb6.out, H20.out, H7.out, HM.out]; first | done | rfl), by first | exact hX2 | repeat' (first | with_reducible exact Ext.refl _ | with_reducible assumption | with_reducible refine Ext.set ?_ ?_ _ _ | with_reducible refine Ext.alloc ?_ _ | with_reducible refine Ext.drew ?_ | with_reducible refine Ext.drewN ?_ _ | with_reducible refine Ext.trans ?_ (by with_reducible assumption) | omega | (simp; done) | (simp; omega))⟩
                      | true =>
                        obtain ⟨z7, hz7⟩ : ∃ b, (m.commit == 0) = b := ⟨_, rfl⟩
                        have hM2 := HM.out
                        rw [hz7] at hM2
                        replace HM := Lib.hid hM2
                        clear hM2
                        cases z7 with
                        | false =>
                          go_wp2
                          go_ret
                          exact ⟨ret_bool (by rw [← Hres.out, Hb6.out, H20.out, H7.out, HM.out]; first | done | rfl), by first | exact hX2 | repeat' (first | with_reducible exact Ext.refl _ | with_reducible assumption | with_reducible refine Ext.set ?_ ?_ _ _ | with_reducible refine Ext.alloc ?_ _ | with_reducible refine Ext.drew ?_ | with_reducible refine Ext.drewN ?_ _ | with_reducible refine Ext.trans ?_ (by with_reducible assumption) | omega | (simp; done) | (simp; omega))⟩
                        | true =>
                          go_wp2_with fail
                          refine (isLogZero_i _ m.log _ B (by exact hl0.keep (keepE' hX2 hB)) (by omega)).mono ?_
                          rintro e w5 ⟨rfl, hE5⟩
                          clear x_p2 x_f2 x_p3 x_f3 x_p4 x_f4 x_p5 x_f5 x_p6 x_f6 x_p7 x_f7 x_p8 x_f8 x_p9 x_f9 x_p10 x_f10 x_p11 x_f11 x_p12 x_f12
                          replace x := x.ext hE5
                          have hX5 := hX2.trans hE5
                          obtain ⟨x_p2, x_f2⟩ := x.at 2 _ rfl
                          obtain ⟨x_p10, x_f10⟩ := x.at 10 _ rfl
                          obtain ⟨b9, hb9⟩ : ∃ b, decide (m.log = zeroL) = b := ⟨_, rfl⟩
                          have hM2 := HM.out
                          rw [hb9] at hM2
                          replace HM := Lib.hid hM2
                          rw [hb9]
                          clear hM2 hb9
                          cases b9 with
                          | false =>
                            go_wp2
                            go_ret
                            exact ⟨ret_bool (by rw [← Hres.out, Hb6.out, H20.out, H7.out, HM.out]; first | done | rfl), by first | exact hX5 | repeat' (first | with_reducible exact Ext.refl _ | with_reducible assumption | with_reducible refine Ext.set ?_ ?_ _ _ | with_reducible refine Ext.alloc ?_ _ | with_reducible refine Ext.drew ?_ | with_reducible refine Ext.drewN ?_ _ | with_reducible refine Ext.trans ?_ (by with_reducible assumption) | omega | (simp; done) | (simp; omega))⟩
                          | true =>
                            by_cases hr0 : r0 = 0
                            rotate_left
                            · have hM2 := HM.out
                              rw [decide_eq_false hr0] at hM2
                              replace HM := Lib.hid hM2
                              have hr1 : ((r0 : Int) == 0) = false := by simp; omega
                              clear hM2
                              go_wp2
                              go_ret
                              exact ⟨ret_bool (by rw [← Hres.out, Hb6.out, H20.out, H7.out, HM.out]; first | done | rfl), by first | exact hX5 | repeat' (first | with_reducible exact Ext.refl _ | with_reducible assumption | with_reducible refine Ext.set ?_ ?_ _ _ | with_reducible refine Ext.alloc ?_ _ | with_reducible refine Ext.drew ?_ | with_reducible refine Ext.drewN ?_ _ | with_reducible refine Ext.trans ?_ (by with_reducible assumption) | omega | (simp; done) | (simp; omega))⟩
                            have hM2 := HM.out
                            rw [decide_eq_true hr0] at hM2
                            replace HM := Lib.hid hM2
                            have hr1 : ((r0 : Int) == 0) = true := by simp [hr0]
                            clear hM2 hr0
                            go_wp2
                            go_ret
                            exact ⟨ret_bool (by rw [← Hres.out, Hb6.out, H20.out, H7.out, HM.out]; first | done | rfl), by first | exact hX5 | repeat' (first | with_reducible exact Ext.refl _ | with_reducible assumption | with_reducible refine Ext.set ?_ ?_ _ _ | with_reducible refine Ext.alloc ?_ _ | with_reducible refine Ext.drew ?_ | with_reducible refine Ext.drewN ?_ _ | with_reducible refine Ext.trans ?_ (by with_reducible assumption) | omega | (simp; done) | (simp; omega))⟩
                  have e3 : (m.mode == 0) = false := by simp [em]
                  have Em0 := Lib.hid em
                  clear em
                  by_cases em : m.mode = 3
                  · have hM : modeB m = ((m.view == 0) && ((m.normal == 0) && ((m.commit == 0) && decide (m.log = zeroL)))) := by
                      unfold modeB
                      rw [em]
                      rfl
                    have HM := Lib.hid hM
                    rw [em] at x
                    clear hM em
                    obtain ⟨x_p2, x_f2⟩ := x.at 2 _ rfl
                    obtain ⟨x_p3, x_f3⟩ := x.at 3 _ rfl
                    obtain ⟨x_p4, x_f4⟩ := x.at 4 _ rfl
                    obtain ⟨x_p5, x_f5⟩ := x.at 5 _ rfl
                    obtain ⟨x_p6, x_f6⟩ := x.at 6 _ rfl
                    obtain ⟨x_p7, x_f7⟩ := x.at 7 _ rfl
                    obtain ⟨x_p8, x_f8⟩ := x.at 8 _ rfl
                    obtain ⟨x_p9, x_f9⟩ := x.at 9 _ rfl
                    obtain ⟨x_p10, x_f10⟩ := x.at 10 _ rfl
                    obtain ⟨x_p11, x_f11⟩ := x.at 11 _ rfl
                    obtain ⟨x_p12, x_f12⟩ := x.at 12 _ rfl
                    obtain ⟨z5, hz5⟩ : ∃ b, (m.view == 0) = b := ⟨_, rfl⟩
                    have hM2 := HM.out
                    rw [hz5] at hM2
                    replace HM := Lib.hid hM2
                    clear hM2
                    cases z5 with
                    | false =>
                      go_wp2
                      go_ret
                      exact ⟨ret_bool (by rw [← Hres.out, Hb6.out, H20.out, H7.out, HM.out]; first | done | rfl), by first | exact hX2 | repeat' (first | with_reducible exact Ext.refl _ | with_reducible assumption | with_reducible refine Ext.set ?_ ?_ _ _ | with_reducible refine Ext.alloc ?_ _ | with_reducible refine Ext.drew ?_ | with_reducible refine Ext.drewN ?_ _ | with_reducible refine Ext.trans ?_ (by with_reducible assumption) | omega | (simp; done) | (simp; omega))⟩
                    | true =>
                      obtain ⟨z6, hz6⟩ : ∃ b, (m.normal == 0) = b := ⟨_, rfl⟩
                      have hM2 := HM.out
                      rw [hz6] at hM2
                      replace HM := Lib.hid hM2
                      clear hM2
                      cases z6 with
                      | false =>
                        go_wp2
                        go_ret
                        exact ⟨ret_bool (by rw [← Hres.out, Hb6.out, H20.out, H7.out, HM.out]; first | done | rfl), by first | exact hX2 | repeat' (first | with_reducible exact Ext.refl _ | with_reducible assumption | with_reducible refine Ext.set ?_ ?_ _ _ | with_reducible refine Ext.alloc ?_ _ | with_reducible refine Ext.drew ?_ | with_reducible refine Ext.drewN ?_ _ | with_reducible refine Ext.trans ?_ (by with_reducible assumption) | omega | (simp; done) | (simp; omega))⟩
                      | true =>
                        obtain ⟨z7, hz7⟩ : ∃ b, (m.commit == 0) = b := ⟨_, rfl⟩
                        have hM2 := HM.out
                        rw [hz7] at hM2
                        replace HM := Lib.hid hM2
                        clear hM2
                        cases z7 with
                        | false =>
                          go_wp2
                          go_ret
                          exact ⟨ret_bool (by rw [← Hres.out, Hb6.out, H20.out, H7.out, HM.out]; first | done | rfl), by first | exact hX2 | repeat' (first | with_reducible exact Ext.refl _ | with_reducible assumption | with_reducible refine Ext.set ?_ ?_ _ _ | with_reducible refine Ext.alloc ?_ _ | with_reducible refine Ext.drew ?_ | with_reducible refine Ext.drewN ?_ _ | with_reducible refine Ext.trans ?_ (by with_reducible assumption) | omega | (simp; done) | (simp; omega))⟩
                        | true =>
                          go_wp2_with fail
                          refine (isLogZero_i _ m.log _ B (by exact hl0.keep (keepE' hX2 hB)) (by omega)).mono ?_
                          rintro e w5 ⟨rfl, hE5⟩
                          clear x_p2 x_f2 x_p3 x_f3 x_p4 x_f4 x_p5 x_f5 x_p6 x_f6 x_p7 x_f7 x_p8 x_f8 x_p9 x_f9 x_p10 x_f10 x_p11 x_f11 x_p12 x_f12
                          replace x := x.ext hE5
                          have hX5 := hX2.trans hE5
                          obtain ⟨x_p2, x_f2⟩ := x.at 2 _ rfl
                          obtain ⟨x_p10, x_f10⟩ := x.at 10 _ rfl
                          obtain ⟨b9, hb9⟩ : ∃ b, decide (m.log = zeroL) = b := ⟨_, rfl⟩
                          have hM2 := HM.out
                          rw [hb9] at hM2
                          replace HM := Lib.hid hM2
                          rw [hb9]
                          clear hM2 hb9
                          cases b9 with
                          | false =>
                            go_wp2
                            go_ret
                            exact ⟨ret_bool (by rw [← Hres.out, Hb6.out, H20.out, H7.out, HM.out]; first | done | rfl), by first | exact hX5 | repeat' (first | with_reducible exact Ext.refl _ | with_reducible assumption | with_reducible refine Ext.set ?_ ?_ _ _ | with_reducible refine Ext.alloc ?_ _ | with_reducible refine Ext.drew ?_ | with_reducible refine Ext.drewN ?_ _ | with_reducible refine Ext.trans ?_ (by with_reducible assumption) | omega | (simp; done) | (simp; omega))⟩
                          | true =>
                            go_wp2
                            go_ret
                            exact ⟨ret_bool (by rw [← Hres.out, Hb6.out, H20.out, H7.out, HM.out]; first | done | rfl), by first | exact hX5 | repeat' (first | with_reducible exact Ext.refl _ | with_reducible assumption | with_reducible refine Ext.set ?_ ?_ _ _ | with_reducible refine Ext.alloc ?_ _ | with_reducible refine Ext.drew ?_ | with_reducible refine Ext.drewN ?_ _ | with_reducible refine Ext.trans ?_ (by with_reducible assumption) | omega | (simp; done) | (simp; omega))⟩
                  have e4 : (m.mode == 3) = false := by simp [em]
                  have HM : Hid (modeB m = false) := by
                    show _ = _
                    unfold modeB
                    rw [if_neg Em1.out, if_neg Em2.out, if_neg Em0.out, if_neg em]
                  clear em
                  obtain ⟨x_p2, x_f2⟩ := x.at 2 _ rfl
                  obtain ⟨x_p3, x_f3⟩ := x.at 3 _ rfl
                  obtain ⟨x_p4, x_f4⟩ := x.at 4 _ rfl
                  obtain ⟨x_p5, x_f5⟩ := x.at 5 _ rfl
                  obtain ⟨x_p6, x_f6⟩ := x.at 6 _ rfl
                  obtain ⟨x_p7, x_f7⟩ := x.at 7 _ rfl
                  obtain ⟨x_p8, x_f8⟩ := x.at 8 _ rfl
                  obtain ⟨x_p9, x_f9⟩ := x.at 9 _ rfl
                  obtain ⟨x_p10, x_f10⟩ := x.at 10 _ rfl
                  obtain ⟨x_p11, x_f11⟩ := x.at 11 _ rfl
                  obtain ⟨x_p12, x_f12⟩ := x.at 12 _ rfl
                  go_wp2
                  go_ret
                  exact ⟨ret_bool (by rw [← Hres.out, Hb6.out, H20.out, H7.out, HM.out]; first | done | rfl), by first | exact hX2 | repeat' (first | with_reducible exact Ext.refl _ | with_reducible assumption | with_reducible refine Ext.set ?_ ?_ _ _ | with_reducible refine Ext.alloc ?_ _ | with_reducible refine Ext.drew ?_ | with_reducible refine Ext.drewN ?_ _ | with_reducible refine Ext.trans ?_ (by with_reducible assumption) | omega | (simp; done) | (simp; omega))⟩
set_option maxRecDepth 100000 in
set_option maxHeartbeats 16000000 in
theorem replicaOk_s (v : Value) (m : ReplicaD) (w : World) (B : Nat) (h : R_Replica w B v m) (hB : B ≤ w.heap.size) :
    Calls Try.prog 33 #[v] w fun e w' => e = .returned (.bool (repB m)) ∧ Ext w w' := by
  obtain ⟨u0, s0, t0, q0, rfl, h0u, h0s, h0t, h0q⟩ := h
  obtain ⟨A0, n0, c0, hv0, -⟩ := id h0u
  obtain ⟨A1, n1, c1, hv1, -⟩ := id h0s
  obtain ⟨A2, n2, c2, hv2, -⟩ := id h0t
  subst hv0 hv1 hv2
  have hl0 : R_Log w B (.agg #[.int .i64 m.log.base, .slice A0 n0 c0, .slice A1 n1 c1, .slice A2 n2 c2]) m.log := ⟨_, _, _, rfl, h0u, h0s, h0t⟩
  clear h0u h0s h0t
  obtain ⟨ss, hss, ⟨V0, r0, d0, rfl, hrl, hd0, hd1, hr⟩, hgd⟩ := h0q
  have hvl : m.votes.length = r0 := by rw [hss, List.length_map, hrl]
  have hall : m.votes.all (voteB m.of) = ss.all fun y => voteB m.of y.d := by rw [hss, List.all_map]; rfl
  have Hr := Lib.hid hrl
  have Hg := Lib.hid hgd
  clear hss hrl hgd
  have hW0 : Ext w (w.alloc (.cells #[.int .i64 m.me, .int .i64 m.of, .int .i64 m.mode, .int .i64 m.view, .int .i64 m.normal, .int .i64 m.commit, .int .i64 m.log.base, .slice A0 n0 c0, .slice A1 n1 c1, .slice A2 n2 c2, .slice V0 r0 d0, .int .i64 m.cell, .int .i64 m.nonce] 71)) := by repeat' (first | with_reducible exact Ext.refl _ | with_reducible assumption | with_reducible refine Ext.set ?_ ?_ _ _ | with_reducible refine Ext.alloc ?_ _ | with_reducible refine Ext.drew ?_ | with_reducible refine Ext.drewN ?_ _ | with_reducible refine Ext.trans ?_ (by with_reducible assumption) | omega | (simp; done) | (simp; omega))
  have zW0 : w.heap.size + 1 ≤ (w.alloc (.cells #[.int .i64 m.me, .int .i64 m.of, .int .i64 m.mode, .int .i64 m.view, .int .i64 m.normal, .int .i64 m.commit, .int .i64 m.log.base, .slice A0 n0 c0, .slice A1 n1 c1, .slice A2 n2 c2, .slice V0 r0 d0, .int .i64 m.cell, .int .i64 m.nonce] 71)).heap.size := by simp
  have x : Blk (w.alloc (.cells #[.int .i64 m.me, .int .i64 m.of, .int .i64 m.mode, .int .i64 m.view, .int .i64 m.normal, .int .i64 m.commit, .int .i64 m.log.base, .slice A0 n0 c0, .slice A1 n1 c1, .slice A2 n2 c2, .slice V0 r0 d0, .int .i64 m.cell, .int .i64 m.nonce] 71)) w.heap.size 71 [.int .i64 m.me, .int .i64 m.of, .int .i64 m.mode, .int .i64 m.view, .int .i64 m.normal, .int .i64 m.commit, .int .i64 m.log.base, .slice A0 n0 c0, .slice A1 n1 c1, .slice A2 n2 c2, .slice V0 r0 d0, .int .i64 m.cell, .int .i64 m.nonce] := (Blk.new w #[.int .i64 m.me, .int .i64 m.of, .int .i64 m.mode, .int .i64 m.view, .int .i64 m.normal, .int .i64 m.commit, .int .i64 m.log.base, .slice A0 n0 c0, .slice A1 n1 c1, .slice A2 n2 c2, .slice V0 r0 d0, .int .i64 m.cell, .int .i64 m.nonce] 71 (by first | rfl | simp))
  unfold repB
  rw [hvl, hall]
  clear hall
  obtain ⟨b0, hb0⟩ : ∃ b, ofB m.of = b := ⟨_, rfl⟩
  rw [hb0]
  cases b0 with
  | false =>
    clear Hr Hg hr hvl hd0 hd1
    go_enter Try.func33, Try.ntmps33
    go_upto_region 1 with (fail)
    generalize (w.alloc (.cells #[.int .i64 m.me, .int .i64 m.of, .int .i64 m.mode, .int .i64 m.view, .int .i64 m.normal, .int .i64 m.commit, .int .i64 m.log.base, .slice A0 n0 c0, .slice A1 n1 c1, .slice A2 n2 c2, .slice V0 r0 d0, .int .i64 m.cell, .int .i64 m.nonce] 71)) = W0 at *
    obtain ⟨x_p0, x_f0⟩ := x.at 0 _ rfl
    obtain ⟨x_p1, x_f1⟩ := x.at 1 _ rfl
    obtain ⟨x_p2, x_f2⟩ := x.at 2 _ rfl
    obtain ⟨x_p3, x_f3⟩ := x.at 3 _ rfl
    obtain ⟨x_p4, x_f4⟩ := x.at 4 _ rfl
    obtain ⟨x_p5, x_f5⟩ := x.at 5 _ rfl
    obtain ⟨x_p6, x_f6⟩ := x.at 6 _ rfl
    obtain ⟨x_p7, x_f7⟩ := x.at 7 _ rfl
    obtain ⟨x_p8, x_f8⟩ := x.at 8 _ rfl
    obtain ⟨x_p9, x_f9⟩ := x.at 9 _ rfl
    obtain ⟨x_p10, x_f10⟩ := x.at 10 _ rfl
    obtain ⟨x_p11, x_f11⟩ := x.at 11 _ rfl
    obtain ⟨x_p12, x_f12⟩ := x.at 12 _ rfl
    go_wp2_with (first | (go_at_call 71; refine (l6Of_any _ _).mono ?_; rintro e w9 ⟨rfl, rfl⟩) | (go_at_call 72; refine (l1In_any _ _ _ _).mono ?_; rintro e w9 ⟨rfl, rfl⟩) | (go_at_call 59; refine (l1Whole_any _ _).mono ?_; rintro e w9 ⟨rfl, rfl⟩))
    go_ret
    exact ⟨rfl, by repeat' (first | with_reducible exact Ext.refl _ | with_reducible assumption | with_reducible refine Ext.set ?_ ?_ _ _ | with_reducible refine Ext.alloc ?_ _ | with_reducible refine Ext.drew ?_ | with_reducible refine Ext.drewN ?_ _ | with_reducible refine Ext.trans ?_ (by with_reducible assumption) | omega | (simp; done) | (simp; omega))⟩
  | true =>
    have hof := (ofB_iff _).1 hb0
    have hwr : IntKind.i64.wrap (m.of - 1) = m.of - 1 := IntWalk.i64_in _ (by omega)
    clear hof
    obtain ⟨b1, hb1⟩ : ∃ b, inB m.me 0 (m.of - 1) = b := ⟨_, rfl⟩
    rw [hb1]
    cases b1 with
    | false =>
      clear Hr Hg hr hvl hd0 hd1
      go_enter Try.func33, Try.ntmps33
      go_upto_region 1 with (fail)
      generalize (w.alloc (.cells #[.int .i64 m.me, .int .i64 m.of, .int .i64 m.mode, .int .i64 m.view, .int .i64 m.normal, .int .i64 m.commit, .int .i64 m.log.base, .slice A0 n0 c0, .slice A1 n1 c1, .slice A2 n2 c2, .slice V0 r0 d0, .int .i64 m.cell, .int .i64 m.nonce] 71)) = W0 at *
      obtain ⟨x_p0, x_f0⟩ := x.at 0 _ rfl
      obtain ⟨x_p1, x_f1⟩ := x.at 1 _ rfl
      obtain ⟨x_p2, x_f2⟩ := x.at 2 _ rfl
      obtain ⟨x_p3, x_f3⟩ := x.at 3 _ rfl
      obtain ⟨x_p4, x_f4⟩ := x.at 4 _ rfl
      obtain ⟨x_p5, x_f5⟩ := x.at 5 _ rfl
      obtain ⟨x_p6, x_f6⟩ := x.at 6 _ rfl
      obtain ⟨x_p7, x_f7⟩ := x.at 7 _ rfl
      obtain ⟨x_p8, x_f8⟩ := x.at 8 _ rfl
      obtain ⟨x_p9, x_f9⟩ := x.at 9 _ rfl
      obtain ⟨x_p10, x_f10⟩ := x.at 10 _ rfl
      obtain ⟨x_p11, x_f11⟩ := x.at 11 _ rfl
      obtain ⟨x_p12, x_f12⟩ := x.at 12 _ rfl
      go_wp2_with (first | (go_at_call 71; refine (l6Of_any _ _).mono ?_; rintro e w9 ⟨rfl, rfl⟩) | (go_at_call 72; refine (l1In_any _ _ _ _).mono ?_; rintro e w9 ⟨rfl, rfl⟩) | (go_at_call 59; refine (l1Whole_any _ _).mono ?_; rintro e w9 ⟨rfl, rfl⟩))
      go_ret
      exact ⟨rfl, by repeat' (first | with_reducible exact Ext.refl _ | with_reducible assumption | with_reducible refine Ext.set ?_ ?_ _ _ | with_reducible refine Ext.alloc ?_ _ | with_reducible refine Ext.drew ?_ | with_reducible refine Ext.drewN ?_ _ | with_reducible refine Ext.trans ?_ (by with_reducible assumption) | omega | (simp; done) | (simp; omega))⟩
    | true =>
      obtain ⟨b2, hb2⟩ : ∃ b, wholeB m.view = b := ⟨_, rfl⟩
      rw [hb2]
      cases b2 with
      | false =>
        clear Hr Hg hr hvl hd0 hd1
        go_enter Try.func33, Try.ntmps33
        go_upto_region 1 with (fail)
        generalize (w.alloc (.cells #[.int .i64 m.me, .int .i64 m.of, .int .i64 m.mode, .int .i64 m.view, .int .i64 m.normal, .int .i64 m.commit, .int .i64 m.log.base, .slice A0 n0 c0, .slice A1 n1 c1, .slice A2 n2 c2, .slice V0 r0 d0, .int .i64 m.cell, .int .i64 m.nonce] 71)) = W0 at *
        obtain ⟨x_p0, x_f0⟩ := x.at 0 _ rfl
        obtain ⟨x_p1, x_f1⟩ := x.at 1 _ rfl
        obtain ⟨x_p2, x_f2⟩ := x.at 2 _ rfl
        obtain ⟨x_p3, x_f3⟩ := x.at 3 _ rfl
        obtain ⟨x_p4, x_f4⟩ := x.at 4 _ rfl
        obtain ⟨x_p5, x_f5⟩ := x.at 5 _ rfl
        obtain ⟨x_p6, x_f6⟩ := x.at 6 _ rfl
        obtain ⟨x_p7, x_f7⟩ := x.at 7 _ rfl
        obtain ⟨x_p8, x_f8⟩ := x.at 8 _ rfl
        obtain ⟨x_p9, x_f9⟩ := x.at 9 _ rfl
        obtain ⟨x_p10, x_f10⟩ := x.at 10 _ rfl
        obtain ⟨x_p11, x_f11⟩ := x.at 11 _ rfl
        obtain ⟨x_p12, x_f12⟩ := x.at 12 _ rfl
        go_wp2_with (first | (go_at_call 71; refine (l6Of_any _ _).mono ?_; rintro e w9 ⟨rfl, rfl⟩) | (go_at_call 72; refine (l1In_any _ _ _ _).mono ?_; rintro e w9 ⟨rfl, rfl⟩) | (go_at_call 59; refine (l1Whole_any _ _).mono ?_; rintro e w9 ⟨rfl, rfl⟩))
        go_ret
        exact ⟨rfl, by repeat' (first | with_reducible exact Ext.refl _ | with_reducible assumption | with_reducible refine Ext.set ?_ ?_ _ _ | with_reducible refine Ext.alloc ?_ _ | with_reducible refine Ext.drew ?_ | with_reducible refine Ext.drewN ?_ _ | with_reducible refine Ext.trans ?_ (by with_reducible assumption) | omega | (simp; done) | (simp; omega))⟩
      | true =>
        obtain ⟨b3, hb3⟩ : ∃ b, wholeB m.normal = b := ⟨_, rfl⟩
        rw [hb3]
        cases b3 with
        | false =>
          clear Hr Hg hr hvl hd0 hd1
          go_enter Try.func33, Try.ntmps33
          go_upto_region 1 with (fail)
          generalize (w.alloc (.cells #[.int .i64 m.me, .int .i64 m.of, .int .i64 m.mode, .int .i64 m.view, .int .i64 m.normal, .int .i64 m.commit, .int .i64 m.log.base, .slice A0 n0 c0, .slice A1 n1 c1, .slice A2 n2 c2, .slice V0 r0 d0, .int .i64 m.cell, .int .i64 m.nonce] 71)) = W0 at *
          obtain ⟨x_p0, x_f0⟩ := x.at 0 _ rfl
          obtain ⟨x_p1, x_f1⟩ := x.at 1 _ rfl
          obtain ⟨x_p2, x_f2⟩ := x.at 2 _ rfl
          obtain ⟨x_p3, x_f3⟩ := x.at 3 _ rfl
          obtain ⟨x_p4, x_f4⟩ := x.at 4 _ rfl
          obtain ⟨x_p5, x_f5⟩ := x.at 5 _ rfl
          obtain ⟨x_p6, x_f6⟩ := x.at 6 _ rfl
          obtain ⟨x_p7, x_f7⟩ := x.at 7 _ rfl
          obtain ⟨x_p8, x_f8⟩ := x.at 8 _ rfl
          obtain ⟨x_p9, x_f9⟩ := x.at 9 _ rfl
          obtain ⟨x_p10, x_f10⟩ := x.at 10 _ rfl
          obtain ⟨x_p11, x_f11⟩ := x.at 11 _ rfl
          obtain ⟨x_p12, x_f12⟩ := x.at 12 _ rfl
          go_wp2_with (first | (go_at_call 71; refine (l6Of_any _ _).mono ?_; rintro e w9 ⟨rfl, rfl⟩) | (go_at_call 72; refine (l1In_any _ _ _ _).mono ?_; rintro e w9 ⟨rfl, rfl⟩) | (go_at_call 59; refine (l1Whole_any _ _).mono ?_; rintro e w9 ⟨rfl, rfl⟩))
          go_ret
          exact ⟨rfl, by repeat' (first | with_reducible exact Ext.refl _ | with_reducible assumption | with_reducible refine Ext.set ?_ ?_ _ _ | with_reducible refine Ext.alloc ?_ _ | with_reducible refine Ext.drew ?_ | with_reducible refine Ext.drewN ?_ _ | with_reducible refine Ext.trans ?_ (by with_reducible assumption) | omega | (simp; done) | (simp; omega))⟩
        | true =>
          obtain ⟨b4, hb4⟩ : ∃ b, wholeB m.cell = b := ⟨_, rfl⟩
          rw [hb4]
          cases b4 with
          | false =>
            clear Hr Hg hr hvl hd0 hd1
            go_enter Try.func33, Try.ntmps33
            go_upto_region 1 with (fail)
            generalize (w.alloc (.cells #[.int .i64 m.me, .int .i64 m.of, .int .i64 m.mode, .int .i64 m.view, .int .i64 m.normal, .int .i64 m.commit, .int .i64 m.log.base, .slice A0 n0 c0, .slice A1 n1 c1, .slice A2 n2 c2, .slice V0 r0 d0, .int .i64 m.cell, .int .i64 m.nonce] 71)) = W0 at *
            obtain ⟨x_p0, x_f0⟩ := x.at 0 _ rfl
            obtain ⟨x_p1, x_f1⟩ := x.at 1 _ rfl
            obtain ⟨x_p2, x_f2⟩ := x.at 2 _ rfl
            obtain ⟨x_p3, x_f3⟩ := x.at 3 _ rfl
            obtain ⟨x_p4, x_f4⟩ := x.at 4 _ rfl
            obtain ⟨x_p5, x_f5⟩ := x.at 5 _ rfl
            obtain ⟨x_p6, x_f6⟩ := x.at 6 _ rfl
            obtain ⟨x_p7, x_f7⟩ := x.at 7 _ rfl
            obtain ⟨x_p8, x_f8⟩ := x.at 8 _ rfl
            obtain ⟨x_p9, x_f9⟩ := x.at 9 _ rfl
            obtain ⟨x_p10, x_f10⟩ := x.at 10 _ rfl
            obtain ⟨x_p11, x_f11⟩ := x.at 11 _ rfl
            obtain ⟨x_p12, x_f12⟩ := x.at 12 _ rfl
            go_wp2_with (first | (go_at_call 71; refine (l6Of_any _ _).mono ?_; rintro e w9 ⟨rfl, rfl⟩) | (go_at_call 72; refine (l1In_any _ _ _ _).mono ?_; rintro e w9 ⟨rfl, rfl⟩) | (go_at_call 59; refine (l1Whole_any _ _).mono ?_; rintro e w9 ⟨rfl, rfl⟩))
            go_ret
            exact ⟨rfl, by repeat' (first | with_reducible exact Ext.refl _ | with_reducible assumption | with_reducible refine Ext.set ?_ ?_ _ _ | with_reducible refine Ext.alloc ?_ _ | with_reducible refine Ext.drew ?_ | with_reducible refine Ext.drewN ?_ _ | with_reducible refine Ext.trans ?_ (by with_reducible assumption) | omega | (simp; done) | (simp; omega))⟩
          | true =>
            obtain ⟨b5, hb5⟩ : ∃ b, wholeB m.nonce = b := ⟨_, rfl⟩
            rw [hb5]
            cases b5 with
            | false =>
              clear Hr Hg hr hvl hd0 hd1
              go_enter Try.func33, Try.ntmps33
              go_upto_region 1 with (fail)
              generalize (w.alloc (.cells #[.int .i64 m.me, .int .i64 m.of, .int .i64 m.mode, .int .i64 m.view, .int .i64 m.normal, .int .i64 m.commit, .int .i64 m.log.base, .slice A0 n0 c0, .slice A1 n1 c1, .slice A2 n2 c2, .slice V0 r0 d0, .int .i64 m.cell, .int .i64 m.nonce] 71)) = W0 at *
              obtain ⟨x_p0, x_f0⟩ := x.at 0 _ rfl
              obtain ⟨x_p1, x_f1⟩ := x.at 1 _ rfl
              obtain ⟨x_p2, x_f2⟩ := x.at 2 _ rfl
              obtain ⟨x_p3, x_f3⟩ := x.at 3 _ rfl
              obtain ⟨x_p4, x_f4⟩ := x.at 4 _ rfl
              obtain ⟨x_p5, x_f5⟩ := x.at 5 _ rfl
              obtain ⟨x_p6, x_f6⟩ := x.at 6 _ rfl
              obtain ⟨x_p7, x_f7⟩ := x.at 7 _ rfl
              obtain ⟨x_p8, x_f8⟩ := x.at 8 _ rfl
              obtain ⟨x_p9, x_f9⟩ := x.at 9 _ rfl
              obtain ⟨x_p10, x_f10⟩ := x.at 10 _ rfl
              obtain ⟨x_p11, x_f11⟩ := x.at 11 _ rfl
              obtain ⟨x_p12, x_f12⟩ := x.at 12 _ rfl
              go_wp2_with (first | (go_at_call 71; refine (l6Of_any _ _).mono ?_; rintro e w9 ⟨rfl, rfl⟩) | (go_at_call 72; refine (l1In_any _ _ _ _).mono ?_; rintro e w9 ⟨rfl, rfl⟩) | (go_at_call 59; refine (l1Whole_any _ _).mono ?_; rintro e w9 ⟨rfl, rfl⟩))
              go_ret
              exact ⟨rfl, by repeat' (first | with_reducible exact Ext.refl _ | with_reducible assumption | with_reducible refine Ext.set ?_ ?_ _ _ | with_reducible refine Ext.alloc ?_ _ | with_reducible refine Ext.drew ?_ | with_reducible refine Ext.drewN ?_ _ | with_reducible refine Ext.trans ?_ (by with_reducible assumption) | omega | (simp; done) | (simp; omega))⟩
            | true =>
              obtain ⟨res, hres⟩ : ∃ b, (hasNum m.log m.commit && (decide (r0 ≤ 20) && ((ss.all fun y => voteB m.of y.d) && modeB m))) = b := ⟨_, rfl⟩
              rw [hres]
              have Hres := Lib.hid hres
              clear hres
              go_enter Try.func33, Try.ntmps33
              go_upto_region 1 with (fail)
              generalize (w.alloc (.cells #[.int .i64 m.me, .int .i64 m.of, .int .i64 m.mode, .int .i64 m.view, .int .i64 m.normal, .int .i64 m.commit, .int .i64 m.log.base, .slice A0 n0 c0, .slice A1 n1 c1, .slice A2 n2 c2, .slice V0 r0 d0, .int .i64 m.cell, .int .i64 m.nonce] 71)) = W0 at *
              obtain ⟨x_p0, x_f0⟩ := x.at 0 _ rfl
              obtain ⟨x_p1, x_f1⟩ := x.at 1 _ rfl
              obtain ⟨x_p2, x_f2⟩ := x.at 2 _ rfl
              obtain ⟨x_p3, x_f3⟩ := x.at 3 _ rfl
              obtain ⟨x_p4, x_f4⟩ := x.at 4 _ rfl
              obtain ⟨x_p5, x_f5⟩ := x.at 5 _ rfl
              obtain ⟨x_p6, x_f6⟩ := x.at 6 _ rfl
              obtain ⟨x_p7, x_f7⟩ := x.at 7 _ rfl
              obtain ⟨x_p8, x_f8⟩ := x.at 8 _ rfl
              obtain ⟨x_p9, x_f9⟩ := x.at 9 _ rfl
              obtain ⟨x_p10, x_f10⟩ := x.at 10 _ rfl
              obtain ⟨x_p11, x_f11⟩ := x.at 11 _ rfl
              obtain ⟨x_p12, x_f12⟩ := x.at 12 _ rfl
              go_wp2_with (first | (go_at_call 71; refine (l6Of_any _ _).mono ?_; rintro e w9 ⟨rfl, rfl⟩) | (go_at_call 72; refine (l1In_any _ _ _ _).mono ?_; rintro e w9 ⟨rfl, rfl⟩) | (go_at_call 59; refine (l1Whole_any _ _).mono ?_; rintro e w9 ⟨rfl, rfl⟩))
              refine (l6Log_s _ m.log m.commit _ B (by exact hl0.keep (keepE' hW0 hB)) (by have := hW0.size; omega)).mono ?_
              rintro e w1 ⟨rfl, hE1⟩
              clear x_p0 x_f0 x_p1 x_f1 x_p2 x_f2 x_p3 x_f3 x_p4 x_f4 x_p5 x_f5 x_p6 x_f6 x_p7 x_f7 x_p8 x_f8 x_p9 x_f9 x_p10 x_f10 x_p11 x_f11 x_p12 x_f12
              have Hb0 := Lib.hid hb0
              clear hb0 hb1 hb2 hb3 hb4 hb5 hwr
              replace x := x.ext hE1
              have hX1 := hW0.trans hE1
              have hz1 := hX1.size
              clear hE1 hW0
              obtain ⟨b6, hb6⟩ : ∃ b, (hasNum m.log m.commit) = b := ⟨_, rfl⟩
              have Hb6 := Lib.hid hb6
              try rw [hb6]
              clear hb6
              cases b6 with
              | false =>
                go_wp2
                go_ret
                exact ⟨ret_bool (by rw [← Hres.out, Hb6.out]; first | done | rfl), by first | exact hX1 | repeat' (first | with_reducible exact Ext.refl _ | with_reducible assumption | with_reducible refine Ext.set ?_ ?_ _ _ | with_reducible refine Ext.alloc ?_ _ | with_reducible refine Ext.drew ?_ | with_reducible refine Ext.drewN ?_ _ | with_reducible refine Ext.trans ?_ (by with_reducible assumption) | omega | (simp; done) | (simp; omega))⟩
              | true =>
                obtain ⟨x_p10, x_f10⟩ := x.at 10 _ rfl
                by_cases h20 : r0 ≤ 20
                rotate_left
                · have H20 := Lib.hid (decide_eq_false h20)
                  go_wp2
                  go_ret
                  exact ⟨ret_bool (by rw [← Hres.out, Hb6.out, H20.out]; first | done | rfl), by first | exact hX1 | repeat' (first | with_reducible exact Ext.refl _ | with_reducible assumption | with_reducible refine Ext.set ?_ ?_ _ _ | with_reducible refine Ext.alloc ?_ _ | with_reducible refine Ext.drew ?_ | with_reducible refine Ext.drewN ?_ _ | with_reducible refine Ext.trans ?_ (by with_reducible assumption) | omega | (simp; done) | (simp; omega))⟩
                have H20 := Lib.hid (decide_eq_true h20)
                go_wp2_with fail
                clear x_p10 x_f10
                go_loopw [3] (fun iv wr => ∃ k : Nat, k ≤ r0 ∧ iv = .int .i64 k ∧ Hid (((ss.take k).all fun y => voteB m.of y.d) = true) ∧ Blk wr w.heap.size 71 [.int .i64 m.me, .int .i64 m.of, .int .i64 m.mode, .int .i64 m.view, .int .i64 m.normal, .int .i64 m.commit, .int .i64 m.log.base, .slice A0 n0 c0, .slice A1 n1 c1, .slice A2 n2 c2, .slice V0 r0 d0, .int .i64 m.cell, .int .i64 m.nonce] ∧ Ext w wr) (fun iv _ => r0 - (intOf iv).toNat)
                case atStart => exact ⟨0, by omega, rfl, by simp [Hid], x, hX1⟩
                case round =>
                  clear x hX1 hz1
                  obtain ⟨k, hk, rfl, hok, x, hX2⟩ := hrel
                  have hz2 := hX2.size
                  by_cases hlt : k < r0
                  · skip
                    obtain ⟨b, off, y, A5, n5, c5, A6, n6, c6, A7, n7, c7, rfl, _, hx1, hR, hc20, hc21, hc22, hc23, hc24, hc25, hc26, hc27, hc28, hc29⟩ := votes_at (hX2.rd hr hB) Hr.out (fun x hx => (Hg.out x hx).keep (keepE' hX2 hB)) hlt
                    obtain ⟨x_p10, x_f10⟩ := x.at 10 _ rfl
                    obtain ⟨x_p1, x_f1⟩ := x.at 1 _ rfl
                    have Hx := Lib.hid hx1
                    have hlt' : (k : Int) < (r0 : Int) := by omega
                    clear hx1
                    go_wp2
                    go_still_tail 7, (by kernel_rfl)
                    have hst1 := hX2.drew
                    replace hR : R_Vote wr.drew B _ y.d := hR
                    replace x := (show Blk wr.drew _ _ _ from x)
                    change wpList _ _ _ _ _ wr.drew
                    generalize wr.drew = w2 at hst1 hR x ⊢
                    have hsz2 := hst1.size
                    go_wp2_with fail
                    refine (voteOk_s _ y.d m.of _ B hR (by omega) Hb0.out).mono ?_
                    rintro e w3 ⟨rfl, hE3⟩
                    clear x_p1 x_f1 x_p10 x_f10
                    clear hc20 hc21 hc22 hc23 hc24 hc25 hc26 hc27 hc28 hc29
                    obtain ⟨vb, hvb⟩ : ∃ b, voteB m.of y.d = b := ⟨_, rfl⟩
                    rw [hvb]
                    cases vb with
                    | false =>
                      have H7 : Hid ((ss.all fun y => voteB m.of y.d) = false) := by
                        show _ = _
                        rw [List.all_eq_false]
                        exact ⟨y, List.mem_of_getElem? Hx.out, by simp [hvb]⟩
                      clear hvb
                      have hX3 := hst1.trans hE3
                      go_wp2
                      go_ret
                      exact ⟨ret_bool (by rw [← Hres.out, Hb6.out, H20.out, H7.out]; first | done | rfl), by first | exact hX3 | repeat' (first | with_reducible exact Ext.refl _ | with_reducible assumption | with_reducible refine Ext.set ?_ ?_ _ _ | with_reducible refine Ext.alloc ?_ _ | with_reducible refine Ext.drew ?_ | with_reducible refine Ext.drewN ?_ _ | with_reducible refine Ext.trans ?_ (by with_reducible assumption) | omega | (simp; done) | (simp; omega))⟩
                    | true =>
                      have hok' : Hid (((ss.take (k + 1)).all fun y => voteB m.of y.d) = true) := by
                        show _ = _
                        rw [take_snoc Hx.out, List.all_append, hok.out]
                        simp [hvb]
                      clear hvb
                      replace x := x.ext hE3
                      have hX3 := hst1.trans hE3
                      go_wp2
                      go_roundw
                      case rel => exact ⟨k + 1, by omega, by go_num, hok', x, by repeat' (first | with_reducible exact Ext.refl _ | with_reducible assumption | with_reducible refine Ext.set ?_ ?_ _ _ | with_reducible refine Ext.alloc ?_ _ | with_reducible refine Ext.drew ?_ | with_reducible refine Ext.drewN ?_ _ | with_reducible refine Ext.trans ?_ (by with_reducible assumption) | omega | (simp; done) | (simp; omega))⟩
                      case measure => simp [intOf]; omega
                  · skip
                    obtain rfl : r0 = k := by omega
                    have hfin := hok.out
                    rw [List.take_of_length_le (by rw [Hr.out]; omega)] at hfin
                    have H7 := Lib.hid hfin
                    clear hfin hok
                    clear Hr Hg hr hd0 hd1
                    by_cases em : m.mode = 1
                    · have hM : modeB m = ((m.view == m.normal) && (m.view == m.cell)) := by
                        unfold modeB
                        rw [em]
                        rfl
                      have HM := Lib.hid hM
                      rw [em] at x
                      clear hM em
                      obtain ⟨x_p2, x_f2⟩ := x.at 2 _ rfl
                      obtain ⟨x_p3, x_f3⟩ := x.at 3 _ rfl
                      obtain ⟨x_p4, x_f4⟩ := x.at 4 _ rfl
                      obtain ⟨x_p5, x_f5⟩ := x.at 5 _ rfl
                      obtain ⟨x_p6, x_f6⟩ := x.at 6 _ rfl
                      obtain ⟨x_p7, x_f7⟩ := x.at 7 _ rfl
                      obtain ⟨x_p8, x_f8⟩ := x.at 8 _ rfl
                      obtain ⟨x_p9, x_f9⟩ := x.at 9 _ rfl
                      obtain ⟨x_p10, x_f10⟩ := x.at 10 _ rfl
                      obtain ⟨x_p11, x_f11⟩ := x.at 11 _ rfl
                      obtain ⟨x_p12, x_f12⟩ := x.at 12 _ rfl
                      obtain ⟨z5, hz5⟩ : ∃ b, (m.view == m.normal) = b := ⟨_, rfl⟩
                      have hM2 := HM.out
                      rw [hz5] at hM2
                      replace HM := Lib.hid hM2
                      clear hM2
                      cases z5 with
                      | false =>
                        go_wp2
                        go_ret
                        exact ⟨ret_bool (by rw [← Hres.out, Hb6.out, H20.out, H7.out, HM.out]; first | done | rfl), by first | exact hX2 | repeat' (first | with_reducible exact Ext.refl _ | with_reducible assumption | with_reducible refine Ext.set ?_ ?_ _ _ | with_reducible refine Ext.alloc ?_ _ | with_reducible refine Ext.drew ?_ | with_reducible refine Ext.drewN ?_ _ | with_reducible refine Ext.trans ?_ (by with_reducible assumption) | omega | (simp; done) | (simp; omega))⟩
                      | true =>
                        obtain ⟨z6, hz6⟩ : ∃ b, (m.view == m.cell) = b := ⟨_, rfl⟩
                        have hM2 := HM.out
                        rw [hz6] at hM2
                        replace HM := Lib.hid hM2
                        clear hM2
                        cases z6 with
                        | false =>
                          go_wp2
                          go_ret
                          exact ⟨ret_bool (by rw [← Hres.out, Hb6.out, H20.out, H7.out, HM.out]; first | done | rfl), by first | exact hX2 | repeat' (first | with_reducible exact Ext.refl _ | with_reducible assumption | with_reducible refine Ext.set ?_ ?_ _ _ | with_reducible refine Ext.alloc ?_ _ | with_reducible refine Ext.drew ?_ | with_reducible refine Ext.drewN ?_ _ | with_reducible refine Ext.trans ?_ (by with_reducible assumption) | omega | (simp; done) | (simp; omega))⟩
                        | true =>
                          go_wp2
                          go_ret
                          exact ⟨ret_bool (by rw [← Hres.out, Hb6.out, H20.out, H7.out, HM.out]; first | done | rfl), by first | exact hX2 | repeat' (first | with_reducible exact Ext.refl _ | with_reducible assumption | with_reducible refine Ext.set ?_ ?_ _ _ | with_reducible refine Ext.alloc ?_ _ | with_reducible refine Ext.drew ?_ | with_reducible refine Ext.drewN ?_ _ | with_reducible refine Ext.trans ?_ (by with_reducible assumption) | omega | (simp; done) | (simp; omega))⟩
                    have e1 : (m.mode == 1) = false := by simp [em]
                    have Em1 := Lib.hid em
                    clear em
                    by_cases em : m.mode = 2
                    · have hM : modeB m = (decide (m.normal ≤ m.view) && (m.view == m.cell)) := by
                        unfold modeB
                        rw [em]
                        rfl
                      have HM := Lib.hid hM
                      rw [em] at x
                      clear hM em
                      obtain ⟨x_p2, x_f2⟩ := x.at 2 _ rfl
                      obtain ⟨x_p3, x_f3⟩ := x.at 3 _ rfl
                      obtain ⟨x_p4, x_f4⟩ := x.at 4 _ rfl
                      obtain ⟨x_p5, x_f5⟩ := x.at 5 _ rfl
                      obtain ⟨x_p6, x_f6⟩ := x.at 6 _ rfl
                      obtain ⟨x_p7, x_f7⟩ := x.at 7 _ rfl
                      obtain ⟨x_p8, x_f8⟩ := x.at 8 _ rfl
                      obtain ⟨x_p9, x_f9⟩ := x.at 9 _ rfl
                      obtain ⟨x_p10, x_f10⟩ := x.at 10 _ rfl
                      obtain ⟨x_p11, x_f11⟩ := x.at 11 _ rfl
                      obtain ⟨x_p12, x_f12⟩ := x.at 12 _ rfl
                      obtain ⟨z5, hz5⟩ : ∃ b, (decide (m.normal ≤ m.view)) = b := ⟨_, rfl⟩
                      have hM2 := HM.out
                      rw [hz5] at hM2
                      replace HM := Lib.hid hM2
                      clear hM2
                      cases z5 with
                      | false =>
                        go_wp2
                        go_ret
                        exact ⟨ret_bool (by rw [← Hres.out, Hb6.out, H20.out, H7.out, HM.out]; first | done | rfl), by first | exact hX2 | repeat' (first | with_reducible exact Ext.refl _ | with_reducible assumption | with_reducible refine Ext.set ?_ ?_ _ _ | with_reducible refine Ext.alloc ?_ _ | with_reducible refine Ext.drew ?_ | with_reducible refine Ext.drewN ?_ _ | with_reducible refine Ext.trans ?_ (by with_reducible assumption) | omega | (simp; done) | (simp; omega))⟩
                      | true =>
                        obtain ⟨z6, hz6⟩ : ∃ b, (m.view == m.cell) = b := ⟨_, rfl⟩
                        have hM2 := HM.out
                        rw [hz6] at hM2
                        replace HM := Lib.hid hM2
                        clear hM2
                        cases z6 with
                        | false =>
                          go_wp2
                          go_ret
                          exact ⟨ret_bool (by rw [← Hres.out, Hb6.out, H20.out, H7.out, HM.out]; first | done | rfl), by first | exact hX2 | repeat' (first | with_reducible exact Ext.refl _ | with_reducible assumption | with_reducible refine Ext.set ?_ ?_ _ _ | with_reducible refine Ext.alloc ?_ _ | with_reducible refine Ext.drew ?_ | with_reducible refine Ext.drewN ?_ _ | with_reducible refine Ext.trans ?_ (by with_reducible assumption) | omega | (simp; done) | (simp; omega))⟩
                        | true =>
                          go_wp2
                          go_ret
                          exact ⟨ret_bool (by rw [← Hres.out, Hb6.out, H20.out, H7.out, HM.out]; first | done | rfl), by first | exact hX2 | repeat' (first | with_reducible exact Ext.refl _ | with_reducible assumption | with_reducible refine Ext.set ?_ ?_ _ _ | with_reducible refine Ext.alloc ?_ _ | with_reducible refine Ext.drew ?_ | with_reducible refine Ext.drewN ?_ _ | with_reducible refine Ext.trans ?_ (by with_reducible assumption) | omega | (simp; done) | (simp; omega))⟩
                    have e2 : (m.mode == 2) = false := by simp [em]
                    have Em2 := Lib.hid em
                    clear em
                    by_cases em : m.mode = 0
                    · have hM : modeB m = ((m.view == 0) && ((m.normal == 0) && ((m.commit == 0) && (decide (m.log = zeroL) && decide (r0 = 0))))) := by
                        unfold modeB
                        rw [em, hvl]
                        rfl
                      have HM := Lib.hid hM
                      rw [em] at x
                      clear hM em
                      obtain ⟨x_p2, x_f2⟩ := x.at 2 _ rfl
                      obtain ⟨x_p3, x_f3⟩ := x.at 3 _ rfl
                      obtain ⟨x_p4, x_f4⟩ := x.at 4 _ rfl
                      obtain ⟨x_p5, x_f5⟩ := x.at 5 _ rfl
                      obtain ⟨x_p6, x_f6⟩ := x.at 6 _ rfl
                      obtain ⟨x_p7, x_f7⟩ := x.at 7 _ rfl
                      obtain ⟨x_p8, x_f8⟩ := x.at 8 _ rfl
                      obtain ⟨x_p9, x_f9⟩ := x.at 9 _ rfl
                      obtain ⟨x_p10, x_f10⟩ := x.at 10 _ rfl
                      obtain ⟨x_p11, x_f11⟩ := x.at 11 _ rfl
                      obtain ⟨x_p12, x_f12⟩ := x.at 12 _ rfl
                      obtain ⟨z5, hz5⟩ : ∃ b, (m.view == 0) = b := ⟨_, rfl⟩
                      have hM2 := HM.out
                      rw [hz5] at hM2
                      replace HM := Lib.hid hM2
                      clear hM2
                      cases z5 with
                      | false =>
                        go_wp2
                        go_ret
                        exact ⟨ret_bool (by rw [← Hres.out, Hb6.out, H20.out, H7.out, HM.out]; first | done | rfl), by first | exact hX2 | repeat' (first | with_reducible exact Ext.refl _ | with_reducible assumption | with_reducible refine Ext.set ?_ ?_ _ _ | with_reducible refine Ext.alloc ?_ _ | with_reducible refine Ext.drew ?_ | with_reducible refine Ext.drewN ?_ _ | with_reducible refine Ext.trans ?_ (by with_reducible assumption) | omega | (simp; done) | (simp; omega))⟩
                      | true =>
                        obtain ⟨z6, hz6⟩ : ∃ b, (m.normal == 0) = b := ⟨_, rfl⟩
                        have hM2 := HM.out
                        rw [hz6] at hM2
                        replace HM := Lib.hid hM2
                        clear hM2
                        cases z6 with
                        | false =>
                          go_wp2
                          go_ret
                          exact ⟨ret_bool (by rw [← Hres.out, Hb6.out, H20.out, H7.out, HM.out]; first | done | rfl), by first | exact hX2 | repeat' (first | with_reducible exact Ext.refl _ | with_reducible assumption | with_reducible refine Ext.set ?_ ?_ _ _ | with_reducible refine Ext.alloc ?_ _ | with_reducible refine Ext.drew ?_ | with_reducible refine Ext.drewN ?_ _ | with_reducible refine Ext.trans ?_ (by with_reducible assumption) | omega | (simp; done) | (simp; omega))⟩
                        | true =>
                          obtain ⟨z7, hz7⟩ : ∃ b, (m.commit == 0) = b := ⟨_, rfl⟩
                          have hM2 := HM.out
                          rw [hz7] at hM2
                          replace HM := Lib.hid hM2
                          clear hM2
                          cases z7 with
                          | false =>
                            go_wp2
                            go_ret
                            exact ⟨ret_bool (by rw [← Hres.out, Hb6.out, H20.out, H7.out, HM.out]; first | done | rfl), by first | exact hX2 | repeat' (first | with_reducible exact Ext.refl _ | with_reducible assumption | with_reducible refine Ext.set ?_ ?_ _ _ | with_reducible refine Ext.alloc ?_ _ | with_reducible refine Ext.drew ?_ | with_reducible refine Ext.drewN ?_ _ | with_reducible refine Ext.trans ?_ (by with_reducible assumption) | omega | (simp; done) | (simp; omega))⟩
                          | true =>
                            go_wp2_with fail
                            refine (sameLog_s _ _ m.log zeroL _ B 0 (by exact hl0.keep (keepE' hX2 hB)) (by omega) (R_zeroL _ _) (Nat.zero_le _)).mono ?_
                            rintro e w5 ⟨rfl, hE5⟩
                            clear x_p2 x_f2 x_p3 x_f3 x_p4 x_f4 x_p5 x_f5 x_p6 x_f6 x_p7 x_f7 x_p8 x_f8 x_p9 x_f9 x_p10 x_f10 x_p11 x_f11 x_p12 x_f12
                            replace x := x.ext hE5
                            have hX5 := hX2.trans hE5
                            obtain ⟨x_p2, x_f2⟩ := x.at 2 _ rfl
                            obtain ⟨x_p10, x_f10⟩ := x.at 10 _ rfl
                            obtain ⟨b9, hb9⟩ : ∃ b, decide (m.log = zeroL) = b := ⟨_, rfl⟩
                            have hM2 := HM.out
                            rw [hb9] at hM2
                            replace HM := Lib.hid hM2
                            rw [hb9]
                            clear hM2 hb9
                            cases b9 with
                            | false =>
                              go_wp2
                              go_ret
                              exact ⟨ret_bool (by rw [← Hres.out, Hb6.out, H20.out, H7.out, HM.out]; first | done | rfl), by first | exact hX5 | repeat' (first | with_reducible exact Ext.refl _ | with_reducible assumption | with_reducible refine Ext.set ?_ ?_ _ _ | with_reducible refine Ext.alloc ?_ _ | with_reducible refine Ext.drew ?_ | with_reducible refine Ext.drewN ?_ _ | with_reducible refine Ext.trans ?_ (by with_reducible assumption) | omega | (simp; done) | (simp; omega))⟩
                            | true =>
                              by_cases hr0 : r0 = 0
                              rotate_left
                              · have hM2 := HM.out
                                rw [decide_eq_false hr0] at hM2
                                replace HM := Lib.hid hM2
                                have hr1 : ((r0 : Int) == 0) = false := by simp; omega
                                clear hM2
                                go_wp2
                                go_ret
                                exact ⟨ret_bool (by rw [← Hres.out, Hb6.out, H20.out, H7.out, HM.out]; first | done | rfl), by first | exact hX5 | repeat' (first | with_reducible exact Ext.refl _ | with_reducible assumption | with_reducible refine Ext.set ?_ ?_ _ _ | with_reducible refine Ext.alloc ?_ _ | with_reducible refine Ext.drew ?_ | with_reducible refine Ext.drewN ?_ _ | with_reducible refine Ext.trans ?_ (by with_reducible assumption) | omega | (simp; done) | (simp; omega))⟩
                              have hM2 := HM.out
                              rw [decide_eq_true hr0] at hM2
                              replace HM := Lib.hid hM2
                              have hr1 : ((r0 : Int) == 0) = true := by simp [hr0]
                              clear hM2 hr0
                              go_wp2
                              go_ret
                              exact ⟨ret_bool (by rw [← Hres.out, Hb6.out, H20.out, H7.out, HM.out]; first | done | rfl), by first | exact hX5 | repeat' (first | with_reducible exact Ext.refl _ | with_reducible assumption | with_reducible refine Ext.set ?_ ?_ _ _ | with_reducible refine Ext.alloc ?_ _ | with_reducible refine Ext.drew ?_ | with_reducible refine Ext.drewN ?_ _ | with_reducible refine Ext.trans ?_ (by with_reducible assumption) | omega | (simp; done) | (simp; omega))⟩
                    have e3 : (m.mode == 0) = false := by simp [em]
                    have Em0 := Lib.hid em
                    clear em
                    by_cases em : m.mode = 3
                    · have hM : modeB m = ((m.view == 0) && ((m.normal == 0) && ((m.commit == 0) && decide (m.log = zeroL)))) := by
                        unfold modeB
                        rw [em]
                        rfl
                      have HM := Lib.hid hM
                      rw [em] at x
                      clear hM em
                      obtain ⟨x_p2, x_f2⟩ := x.at 2 _ rfl
                      obtain ⟨x_p3, x_f3⟩ := x.at 3 _ rfl
                      obtain ⟨x_p4, x_f4⟩ := x.at 4 _ rfl
                      obtain ⟨x_p5, x_f5⟩ := x.at 5 _ rfl
                      obtain ⟨x_p6, x_f6⟩ := x.at 6 _ rfl
                      obtain ⟨x_p7, x_f7⟩ := x.at 7 _ rfl
                      obtain ⟨x_p8, x_f8⟩ := x.at 8 _ rfl
                      obtain ⟨x_p9, x_f9⟩ := x.at 9 _ rfl
                      obtain ⟨x_p10, x_f10⟩ := x.at 10 _ rfl
                      obtain ⟨x_p11, x_f11⟩ := x.at 11 _ rfl
                      obtain ⟨x_p12, x_f12⟩ := x.at 12 _ rfl
                      obtain ⟨z5, hz5⟩ : ∃ b, (m.view == 0) = b := ⟨_, rfl⟩
                      have hM2 := HM.out
                      rw [hz5] at hM2
                      replace HM := Lib.hid hM2
                      clear hM2
                      cases z5 with
                      | false =>
                        go_wp2
                        go_ret
                        exact ⟨ret_bool (by rw [← Hres.out, Hb6.out, H20.out, H7.out, HM.out]; first | done | rfl), by first | exact hX2 | repeat' (first | with_reducible exact Ext.refl _ | with_reducible assumption | with_reducible refine Ext.set ?_ ?_ _ _ | with_reducible refine Ext.alloc ?_ _ | with_reducible refine Ext.drew ?_ | with_reducible refine Ext.drewN ?_ _ | with_reducible refine Ext.trans ?_ (by with_reducible assumption) | omega | (simp; done) | (simp; omega))⟩
                      | true =>
                        obtain ⟨z6, hz6⟩ : ∃ b, (m.normal == 0) = b := ⟨_, rfl⟩
                        have hM2 := HM.out
                        rw [hz6] at hM2
                        replace HM := Lib.hid hM2
                        clear hM2
                        cases z6 with
                        | false =>
                          go_wp2
                          go_ret
                          exact ⟨ret_bool (by rw [← Hres.out, Hb6.out, H20.out, H7.out, HM.out]; first | done | rfl), by first | exact hX2 | repeat' (first | with_reducible exact Ext.refl _ | with_reducible assumption | with_reducible refine Ext.set ?_ ?_ _ _ | with_reducible refine Ext.alloc ?_ _ | with_reducible refine Ext.drew ?_ | with_reducible refine Ext.drewN ?_ _ | with_reducible refine Ext.trans ?_ (by with_reducible assumption) | omega | (simp; done) | (simp; omega))⟩
                        | true =>
                          obtain ⟨z7, hz7⟩ : ∃ b, (m.commit == 0) = b := ⟨_, rfl⟩
                          have hM2 := HM.out
                          rw [hz7] at hM2
                          replace HM := Lib.hid hM2
                          clear hM2
                          cases z7 with
                          | false =>
                            go_wp2
                            go_ret
                            exact ⟨ret_bool (by rw [← Hres.out, Hb6.out, H20.out, H7.out, HM.out]; first | done | rfl), by first | exact hX2 | repeat' (first | with_reducible exact Ext.refl _ | with_reducible assumption | with_reducible refine Ext.set ?_ ?_ _ _ | with_reducible refine Ext.alloc ?_ _ | with_reducible refine Ext.drew ?_ | with_reducible refine Ext.drewN ?_ _ | with_reducible refine Ext.trans ?_ (by with_reducible assumption) | omega | (simp; done) | (simp; omega))⟩
                          | true =>
                            go_wp2_with fail
                            refine (sameLog_s _ _ m.log zeroL _ B 0 (by exact hl0.keep (keepE' hX2 hB)) (by omega) (R_zeroL _ _) (Nat.zero_le _)).mono ?_
                            rintro e w5 ⟨rfl, hE5⟩
                            clear x_p2 x_f2 x_p3 x_f3 x_p4 x_f4 x_p5 x_f5 x_p6 x_f6 x_p7 x_f7 x_p8 x_f8 x_p9 x_f9 x_p10 x_f10 x_p11 x_f11 x_p12 x_f12
                            replace x := x.ext hE5
                            have hX5 := hX2.trans hE5
                            obtain ⟨x_p2, x_f2⟩ := x.at 2 _ rfl
                            obtain ⟨x_p10, x_f10⟩ := x.at 10 _ rfl
                            obtain ⟨b9, hb9⟩ : ∃ b, decide (m.log = zeroL) = b := ⟨_, rfl⟩
                            have hM2 := HM.out
                            rw [hb9] at hM2
                            replace HM := Lib.hid hM2
                            rw [hb9]
                            clear hM2 hb9
                            cases b9 with
                            | false =>
                              go_wp2
                              go_ret
                              exact ⟨ret_bool (by rw [← Hres.out, Hb6.out, H20.out, H7.out, HM.out]; first | done | rfl), by first | exact hX5 | repeat' (first | with_reducible exact Ext.refl _ | with_reducible assumption | with_reducible refine Ext.set ?_ ?_ _ _ | with_reducible refine Ext.alloc ?_ _ | with_reducible refine Ext.drew ?_ | with_reducible refine Ext.drewN ?_ _ | with_reducible refine Ext.trans ?_ (by with_reducible assumption) | omega | (simp; done) | (simp; omega))⟩
                            | true =>
                              go_wp2
                              go_ret
                              exact ⟨ret_bool (by rw [← Hres.out, Hb6.out, H20.out, H7.out, HM.out]; first | done | rfl), by first | exact hX5 | repeat' (first | with_reducible exact Ext.refl _ | with_reducible assumption | with_reducible refine Ext.set ?_ ?_ _ _ | with_reducible refine Ext.alloc ?_ _ | with_reducible refine Ext.drew ?_ | with_reducible refine Ext.drewN ?_ _ | with_reducible refine Ext.trans ?_ (by with_reducible assumption) | omega | (simp; done) | (simp; omega))⟩
                    have e4 : (m.mode == 3) = false := by simp [em]
                    have HM : Hid (modeB m = false) := by
                      show _ = _
                      unfold modeB
                      rw [if_neg Em1.out, if_neg Em2.out, if_neg Em0.out, if_neg em]
                    clear em
                    obtain ⟨x_p2, x_f2⟩ := x.at 2 _ rfl
                    obtain ⟨x_p3, x_f3⟩ := x.at 3 _ rfl
                    obtain ⟨x_p4, x_f4⟩ := x.at 4 _ rfl
                    obtain ⟨x_p5, x_f5⟩ := x.at 5 _ rfl
                    obtain ⟨x_p6, x_f6⟩ := x.at 6 _ rfl
                    obtain ⟨x_p7, x_f7⟩ := x.at 7 _ rfl
                    obtain ⟨x_p8, x_f8⟩ := x.at 8 _ rfl
                    obtain ⟨x_p9, x_f9⟩ := x.at 9 _ rfl
                    obtain ⟨x_p10, x_f10⟩ := x.at 10 _ rfl
                    obtain ⟨x_p11, x_f11⟩ := x.at 11 _ rfl
                    obtain ⟨x_p12, x_f12⟩ := x.at 12 _ rfl
                    go_wp2
                    go_ret
                    exact ⟨ret_bool (by rw [← Hres.out, Hb6.out, H20.out, H7.out, HM.out]; first | done | rfl), by first | exact hX2 | repeat' (first | with_reducible exact Ext.refl _ | with_reducible assumption | with_reducible refine Ext.set ?_ ?_ _ _ | with_reducible refine Ext.alloc ?_ _ | with_reducible refine Ext.drew ?_ | with_reducible refine Ext.drewN ?_ _ | with_reducible refine Ext.trans ?_ (by with_reducible assumption) | omega | (simp; done) | (simp; omega))⟩
end Go.Proofs.Ytbfbdhjeoknjkaa
