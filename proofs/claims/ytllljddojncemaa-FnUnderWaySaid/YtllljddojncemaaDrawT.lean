/-
  Nets of flights as the reference draws them.
-/
import Derived.Test.YtllljddojncemaaDrawF
import Derived.Test.YtllljddojncemaaNetMath
import Derived.Test.YtllljddojncemaaApp1
import Derived.Test.YtllljddojncemaaBlk
import Derived.Test.YtllljddojncemaaHeldX
import Derived.Laws.BytesArg
import Derived.Laws.IdiomStrings
import Derived.Deep.DeepCutAuto
namespace Go.Proofs.Ytllljddojncemaa
open Go.RowKit

/-- An own row of bytes, as a string. -/
theorem conv_bytes {w : World} {lo hi : Nat} {v : Value} {l : List UInt8} (h : O_ByteS w lo hi v l) : ∃ s : ByteArray, s.size = l.length ∧ (convert 50 9 v).run Try.prog w = .ok (.string s) w := by
  obtain ⟨A, n, c, rfl, hl, ho⟩ := h
  cases A with
  | none =>
    refine ⟨ByteArray.empty, ?_, run_convert_bytes_nil _ _ _ Try.underlying50 Try.underlying5 _ _ _ Try.underlying9⟩
    rcases ho.2 with ⟨h0, -⟩ | ⟨g, cap, cur, hv, -⟩
    · rw [hl, h0]; rfl
    · injection hv with hv _ _
      cases hv
  | some a =>
    refine ⟨⟨l.toArray⟩, by simp [ByteArray.size], ?_⟩
    have h1 := run_convert_bytes_back (P := Try.prog) w 50 9 5 a c l Try.underlying50 Try.underlying5 Try.underlying9 (fun j hj => by
      obtain ⟨b, off, x, hA, -, hx, hc⟩ := Rd.byte ho.rd.2.2.2 hl (k := j) (by omega)
      injection hA with hA
      subst hA
      rw [addr_add, hc]
      obtain ⟨_, hx⟩ := List.getElem?_eq_some_iff.1 hx
      rw [hx])
    rw [hl] at h1
    exact h1

set_option maxRecDepth 100000 in
set_option maxHeartbeats 2000000 in
theorem l5DrawText_s (g : Nat) (w : World) (hc : Cur w g) : Calls Try.prog 71 #[.pointer (some ⟨g, 0, none⟩)] w fun e w' => ∃ s : ByteArray, e = .returned (.string s) ∧ Cur w' g ∧ Fr g (g + 1) w w' := by
  have hg := hc.lt
  obtain ⟨i0, hi0, hz0, hz1, hz2⟩ := info_parts info_Byte
  go_enter Try.func71, Try.ntmps71
  go_wp2_with fail
  refine (l1Once_s g 30 _ hc (by omega)).mono ?_
  rintro e w1 ⟨b, rfl, hc1, hF1⟩
  have hz1' := hF1.size
  cases b with
  | false =>
    go_wp2_with fail
    refine (l1DrawBytes_s g 5 _ hc1 (by omega) (by omega)).mono ?_
    rintro e w2 ⟨v, l, rfl, ho, hlen, -, hc2, hF2⟩
    obtain ⟨s, -, hcv⟩ := conv_bytes ho
    go_wp2
    go_ret
    exact ⟨s, rfl, hc2, hF1.trans hF2⟩
  | true =>
    go_wp2_with fail
    refine (l1Below_s g 2 _ hc1 (by omega)).mono ?_
    rintro e w3 ⟨u, rfl, hu, -, hc3, hF3⟩
    have hu' := hu (by omega)
    have hmk := fun W => run_make_rows (P := Try.prog) 50 5 i0 _ Try.underlying50 hi0 hz0 .i64 .i64 (4100 + u) (by rw [hz2]; omega) (by omega) W
    rw [hz1, show (((4100 + u : Nat)) : Int) = 4100 + (u : Int) from by push_cast; rfl] at hmk
    have hA : Ext w3 (w3.alloc (.cells (madeCells #[.int .u8 0] (4100 + u)) 5)) := (Ext.refl _).alloc _
    obtain ⟨s, -, hcv⟩ := conv_bytes (own_zero w3 (4100 + u) (by unfold maxLen; omega))
    go_wp2
    go_ret
    exact ⟨s, rfl, hc3.ext hA, (hF1.trans hF3).thenExt hA⟩

set_option maxRecDepth 100000 in
set_option maxHeartbeats 2000000 in
theorem l5DrawAt_s (g : Nat) (n : Nat) (w : World) (hc : Cur w g) (hn : n ≤ 1000) : Calls Try.prog 59 #[.pointer (some ⟨g, 0, none⟩), .int .i64 (n : Int)] w fun e w' => ∃ i : Int, e = .returned (.int .i64 i) ∧ Cur w' g ∧ Fr g (g + 1) w w' := by
  have hwr : IntKind.i64.wrap ((n : Int) + 1) = (n : Int) + 1 := IntWalk.i64_in _ (by omega)
  go_enter Try.func59, Try.ntmps59
  go_wp2_with fail
  refine (l1Below_s g _ _ hc (by omega)).mono ?_
  rintro e w1 ⟨x, rfl, -, -, hc1, hF1⟩
  go_wp2_with fail
  refine (l1Below_s g _ _ hc1 (by omega)).mono ?_
  rintro e w2 ⟨y, rfl, -, -, hc2, hF2⟩
  go_wp2
  go_ret
  exact ⟨_, rfl, hc2, hF1.trans hF2⟩

set_option maxRecDepth 100000 in
set_option maxHeartbeats 8000000 in
theorem l5DrawNet_s (g : Nat) (w : World) (hc : Cur w g) : Calls Try.prog 58 #[.pointer (some ⟨g, 0, none⟩)] w fun e w' => ∃ v n, e = .returned v ∧ O_Net w' w.heap.size w'.heap.size v n ∧ n.list.length ≤ 61 ∧ Cur w' g ∧ Fr g (g + 1) w w' := by
  have hg := hc.lt
  obtain ⟨i0, hi0, hz0, hz1, hz2⟩ := info_parts info_Flight
  have hW0 : Ext w (w.alloc (.cells #[.int .i64 0, .slice none 0 0] 29)) := by repeat' (first | with_reducible exact Ext.refl _ | with_reducible assumption | with_reducible refine Ext.set ?_ ?_ _ _ | with_reducible refine Ext.alloc ?_ _ | with_reducible refine Ext.drew ?_ | with_reducible refine Ext.drewN ?_ _ | with_reducible refine Ext.trans ?_ (by with_reducible assumption) | omega | (simp; done) | (simp; omega))
  have zW0 : w.heap.size + 1 ≤ (w.alloc (.cells #[.int .i64 0, .slice none 0 0] 29)).heap.size := by simp
  have y : Blk (w.alloc (.cells #[.int .i64 0, .slice none 0 0] 29)) w.heap.size 29 [.int .i64 0, .slice none 0 0] := (Blk.new w #[.int .i64 0, .slice none 0 0] 29 (by first | rfl | simp))
  go_enter Try.func58, Try.ntmps58
  go_wp2_with fail
  generalize (w.alloc (.cells #[.int .i64 0, .slice none 0 0] 29)) = W0 at *
  refine (l1Below_s g _ _ (hc.ext hW0) (by omega)).mono ?_
  rintro e w1 ⟨x0, rfl, -, -, hc1, hF1⟩
  have hly := y.lt
  replace y := y.fr hF1 (.inr (by omega))
  have hz1' := hF1.size
  have hFr := (Fr.ext (lo := g) (hi := g + 1) hW0).trans hF1
  clear hF1 hW0 hc
  have hW1 : Ext w1 (w1.alloc (.cells #[.int .i64 (x0 : Int), .slice none 0 0] 29)) := by repeat' (first | with_reducible exact Ext.refl _ | with_reducible assumption | with_reducible refine Ext.set ?_ ?_ _ _ | with_reducible refine Ext.alloc ?_ _ | with_reducible refine Ext.drew ?_ | with_reducible refine Ext.drewN ?_ _ | with_reducible refine Ext.trans ?_ (by with_reducible assumption) | omega | (simp; done) | (simp; omega))
  have zW1 : w1.heap.size + 1 ≤ (w1.alloc (.cells #[.int .i64 (x0 : Int), .slice none 0 0] 29)).heap.size := by simp
  have q : Blk (w1.alloc (.cells #[.int .i64 (x0 : Int), .slice none 0 0] 29)) w1.heap.size 29 [.int .i64 (x0 : Int), .slice none 0 0] := (Blk.new w1 #[.int .i64 (x0 : Int), .slice none 0 0] 29 (by first | rfl | simp))
  go_upto_region 2 with (fail)
  replace y := y.ext hW1
  replace hc1 := hc1.ext hW1
  replace hFr := hFr.thenExt hW1
  clear hW1
  generalize (w1.alloc (.cells #[.int .i64 (x0 : Int), .slice none 0 0] 29)) = W1 at *
  have hlo : w.heap.size + 1 ≤ w1.heap.size := by omega
  go_wp2_with fail
  refine (l1Below_s g _ _ hc1 (by omega)).mono ?_
  rintro e w2 ⟨m0, rfl, hm0, -, hc2, hF2⟩
  have hm0' := hm0 (by omega)
  have hlq := q.lt
  replace y := y.fr hF2 (.inr (by omega))
  replace q := q.fr hF2 (.inr (by omega))
  replace hFr := hFr.trans hF2
  have hz2' := hF2.size
  clear hF2 hc1 hm0
  go_wp2_with fail
  refine (l1Once_s g 20 _ hc2 (by omega)).mono ?_
  rintro e w3 ⟨bb, rfl, hc3, hF3⟩
  have hz3' := hF3.size
  replace y := y.fr hF3 (.inr (by omega))
  replace q := q.fr hF3 (.inr (by omega))
  replace hFr := hFr.trans hF3
  clear hF3 hc2
  go_upto_if 12 with (fail)
  go_cut [4] (fun mv wx => ∃ many : Nat, mv = .int .i64 (many : Int) ∧ many ≤ 60 ∧ wx = w3)
  case first =>
    cases bb with
    | false =>
      go_wp2_with fail
      go_meet
      exact ⟨m0, rfl, by omega, rfl⟩
    | true =>
      go_wp2_with fail
      go_meet
      exact ⟨60, rfl, by omega, rfl⟩
  obtain ⟨many, rfl, hm60, rfl⟩ := hcut
  go_wp2
  go_loopw [5] (fun iv wr => ∃ (k : Nat) (nx : Int) (L : List FlightD) (A' : Option Addr) (c' : Nat), k ≤ many ∧ iv = .int .i64 k ∧ Blk wr w.heap.size 29 [.int .i64 0, .slice none 0 0] ∧ Blk wr w1.heap.size 29 [.int .i64 nx, .slice A' k c'] ∧ Hid (L.length = k) ∧ Own wr (w1.heap.size + 1) wr.heap.size 43 3 (.slice A' k c') k (L.flatMap eFlight) ∧ Cur wr g ∧ Fr g (g + 1) w wr) (fun iv _ => many - (intOf iv).toNat)
  case atStart => exact ⟨0, _, [], _, _, by omega, rfl, y, q, rfl, Own.nil _ _ _ _ _ _, hc3, hFr⟩
  case round =>
    clear y q hc3 hFr hlq hly
    obtain ⟨k, nx, L, A', c', hk, rfl, y, q, hL, ow, hcr, hFr⟩ := hrel
    have hly := y.lt
    have hlq := q.lt
    by_cases hlt : k < many
    · have hlt' : (k : Int) < (many : Int) := by omega
      have hm1 : k + 1 ≤ maxLen := by unfold maxLen; omega
      have hm3 : (k + 1) * 32 ≤ 140737488355328 := by omega
      have hpos : 0 < 3 := by omega
      obtain ⟨q_p0, q_f0⟩ := q.at 0 _ rfl
      obtain ⟨q_p1, q_f1⟩ := q.at 1 _ rfl
      go_upto_region 8 with (fail)
      refine region_anyX (x := 13) (S := (fun w' => w'.cell? ⟨w1.heap.size, 0, none⟩ = some (.int .i64 nx) ∧ w'.cell? ⟨w1.heap.size, 1, none⟩ = some (.slice A' k c'))) (by kernel_rfl) ⟨q_p0, q_p1⟩ (fun hHeld => ?_)
      refine anyX_take (i := 0) (v := ?_) rfl (by kernel_rfl) (by kernel_rfl) (by kernel_rfl) (by kernel_rfl) (fun _ _ _ h => h) (Or.inl ⟨by rfl, ?_⟩) (by assumption) ?_
      rotate_left
      · (intro w hSw; (try dsimp only at hSw); go_simp; (try with_reducible rfl))
      try simp only [Act.put, List.getElem_toArray, List.getElem_cons_zero, List.getElem_cons_succ, List.setIfInBounds_toArray, List.set_cons_zero, List.set_cons_succ]
      refine anyX_take (i := 1) (v := ?_) rfl (by kernel_rfl) (by kernel_rfl) (by kernel_rfl) (by kernel_rfl) (fun _ _ _ h => h) (Or.inl ⟨by rfl, ?_⟩) (by assumption) ?_
      rotate_left
      · (intro w hSw; (try dsimp only at hSw); go_simp; (try with_reducible rfl))
      try simp only [Act.put, List.getElem_toArray, List.getElem_cons_zero, List.getElem_cons_succ, List.setIfInBounds_toArray, List.set_cons_zero, List.set_cons_succ]
      refine anyX_take (i := 2) (v := ?_) rfl (by kernel_rfl) (by kernel_rfl) (by kernel_rfl) (by kernel_rfl) (fun _ _ _ h => h) (Or.inl ⟨by rfl, ?_⟩) (by assumption) ?_
      rotate_left
      · (intro w hSw; (try dsimp only at hSw); go_simp; (try with_reducible rfl))
      try simp only [Act.put, List.getElem_toArray, List.getElem_cons_zero, List.getElem_cons_succ, List.setIfInBounds_toArray, List.set_cons_zero, List.set_cons_succ]
      refine anyX_take (i := 3) (v := ?_) rfl (by kernel_rfl) (by kernel_rfl) (by kernel_rfl) (by kernel_rfl) (fun _ _ _ h => h) (Or.inl ⟨by rfl, ?_⟩) (by assumption) ?_
      rotate_left
      · (intro w hSw; (try dsimp only at hSw); go_simp; (try with_reducible rfl))
      try simp only [Act.put, List.getElem_toArray, List.getElem_cons_zero, List.getElem_cons_succ, List.setIfInBounds_toArray, List.set_cons_zero, List.set_cons_succ]
      refine anyX_take (i := 4) (v := ?_) rfl (by kernel_rfl) (by kernel_rfl) (by kernel_rfl) (by kernel_rfl) (fun _ _ _ h => h) (Or.inl ⟨by rfl, ?_⟩) (by assumption) ?_
      rotate_left
      · (intro w hSw; (try dsimp only at hSw); go_simp; (try with_reducible rfl))
      try simp only [Act.put, List.getElem_toArray, List.getElem_cons_zero, List.getElem_cons_succ, List.setIfInBounds_toArray, List.set_cons_zero, List.set_cons_succ]
      refine anyX_take (i := 6) (v := ?_) rfl (by kernel_rfl) (by kernel_rfl) (by kernel_rfl) (by kernel_rfl) (fun _ _ _ h => h) (Or.inl ⟨by rfl, ?_⟩) (by assumption) ?_
      rotate_left
      · (intro w hSw; (try dsimp only at hSw); go_simp; (try with_reducible rfl))
      try simp only [Act.put, List.getElem_toArray, List.getElem_cons_zero, List.getElem_cons_succ, List.setIfInBounds_toArray, List.set_cons_zero, List.set_cons_succ]
      refine anyX_one (i := 5) (by kernel_rfl) rfl (fun K hK => ?_)
      go_simp
      go_at_call 60
      refine (l1Below_s g _ _ (hcr.ext (Ext.refl _).drew) (by omega)).mono ?_
      rintro e w4 ⟨x4, rfl, -, -, hc4, hF4⟩
      (clear q_p0 q_f0 q_p1 q_f1)
      replace y := y.drew.fr hF4 (.inr (by omega))
      replace q := q.drew.fr hF4 (.inr (by omega))
      have hz4 : wr.heap.size ≤ w4.heap.size := hF4.size
      replace ow := (show Own wr.drew _ _ _ _ _ _ _ from ow).fr hF4 (.inr (by omega))
      replace hFr := (hFr.thenExt (Ext.refl _).drew).trans hF4
      obtain ⟨q_p0, q_f0⟩ := q.at 0 _ rfl
      obtain ⟨q_p1, q_f1⟩ := q.at 1 _ rfl
      clear hF4 hcr
      (try dsimp only)
      refine hK.out _ _ ⟨q_p0, q_p1⟩ (fun hHeld => ?_)
      clear hK K
      try simp only [Act.put, List.getElem_toArray, List.getElem_cons_zero, List.getElem_cons_succ, List.setIfInBounds_toArray, List.set_cons_zero, List.set_cons_succ]
      refine anyX_one (i := 7) (by kernel_rfl) rfl (fun K hK => ?_)
      go_simp
      go_at_call 69
      refine (l1DrawBytes_s g _ _ hc4 (by omega) (by omega)).mono ?_
      rintro e w5 ⟨v5, l5, rfl, o5, -, -, hc5, hF5⟩
      (clear q_p0 q_f0 q_p1 q_f1)
      replace y := y.fr hF5 (.inr (by omega))
      replace q := q.fr hF5 (.inr (by omega))
      have hz5 := hF5.size
      replace ow := ow.fr hF5 (.inr (by omega))
      replace hFr := hFr.trans hF5
      obtain ⟨q_p0, q_f0⟩ := q.at 0 _ rfl
      obtain ⟨q_p1, q_f1⟩ := q.at 1 _ rfl
      clear hF5 hc4
      obtain ⟨s5, -, hcv⟩ := conv_bytes o5
      clear o5
      (try dsimp only)
      refine hK.out _ _ ⟨q_p0, q_p1⟩ (fun hHeld => ?_)
      clear hK K
      try simp only [Act.put, List.getElem_toArray, List.getElem_cons_zero, List.getElem_cons_succ, List.setIfInBounds_toArray, List.set_cons_zero, List.set_cons_succ]
      refine anyX_one (i := 8) (by kernel_rfl) rfl (fun K hK => ?_)
      go_simp
      (try dsimp only)
      refine hK.out _ _ ⟨q_p0, q_p1⟩ (fun hHeld => ?_)
      clear hK K
      try simp only [Act.put, List.getElem_toArray, List.getElem_cons_zero, List.getElem_cons_succ, List.setIfInBounds_toArray, List.set_cons_zero, List.set_cons_succ]
      refine anyX_take (i := 9) (v := ?_) rfl (by kernel_rfl) (by kernel_rfl) (by kernel_rfl) (by kernel_rfl) (fun _ _ _ h => h) (Or.inl ⟨by rfl, ?_⟩) (by assumption) ?_
      rotate_left
      · (intro w hSw; (try dsimp only at hSw); go_simp; (try with_reducible rfl))
      try simp only [Act.put, List.getElem_toArray, List.getElem_cons_zero, List.getElem_cons_succ, List.setIfInBounds_toArray, List.set_cons_zero, List.set_cons_succ]
      refine anyX_one (i := 10) (by kernel_rfl) rfl (fun K hK => ?_)
      go_simp
      (try dsimp only)
      refine hK.out _ _ ⟨Ext.cellAt ((Ext.refl _).alloc _) q_p0, Ext.cellAt ((Ext.refl _).alloc _) q_p1⟩ (fun hHeld => ?_)
      clear hK K
      try simp only [Act.put, List.getElem_toArray, List.getElem_cons_zero, List.getElem_cons_succ, List.setIfInBounds_toArray, List.set_cons_zero, List.set_cons_succ]
      clear hcv
      have hV := (Ext.refl w5).alloc (.cells #[.int .i64 nx, .int .i64 (x4 : Int), .string s5] 43)
      have hrx := rd_new w5 [.int .i64 nx, .int .i64 (x4 : Int), .string s5] 43 3 rfl
      have owV := hV.own ow (by omega)
      have hzV : w5.heap.size + 1 = (w5.alloc (.cells #[.int .i64 nx, .int .i64 (x4 : Int), .string s5] 43)).heap.size := by simp
      refine anyX_one (i := 11) (by kernel_rfl) rfl (fun K hK => ?_)
      refine step_app1 (d := .tmp 19) (s := .tmp 28) ?_ ?_ 43 i0 (.agg #[.int .i64 0, .int .i64 0, .string ByteArray.empty]) 3 32 Try.underlying27 hi0 hz0 hz1 hz2 rfl hpos (w1.heap.size + 1) wr.heap.size (.slice A' k c') k (L.flatMap eFlight) ?_ owV (by omega) (by omega) (w5.heap.size + 1) (some ⟨w5.heap.size, 0, none⟩) 1 1 (eFlight ⟨nx, x4, s5⟩) ?_ (by exact hrx) (fun u hu => oneCell_Flight [⟨nx, x4, s5⟩] u (by simpa using hu)) hm1 hm3 ?_
      rfl
      rfl
      (focus (simp [Act.eval]; done))
      (focus (simp [Act.eval]; done))
      intro A6 c6 w6 o6 hg6
      have hF6 : Fr _ _ _ w6 := Fr.of_grown hg6 (fun g h => owV.lt g h)
      have hz6 := hF6.size
      (clear q_p0 q_f0 q_p1 q_f1)
      replace y := (y.ext hV).fr hF6 (.inl (by omega))
      replace q := (q.ext hV).fr hF6 (.inl (by omega))
      have hc6 := (hc5.ext hV).fr hF6 (by omega)
      replace hFr := (hFr.thenExt hV).thenFr hF6 (by omega)
      obtain ⟨q_p0, q_f0⟩ := q.at 0 _ rfl
      obtain ⟨q_p1, q_f1⟩ := q.at 1 _ rfl
      (try dsimp only)
      refine hK.out _ _ ⟨q_p0, q_p1⟩ (fun hHeld => ?_)
      clear hK K
      try simp only [Act.put, List.getElem_toArray, List.getElem_cons_zero, List.getElem_cons_succ, List.setIfInBounds_toArray, List.set_cons_zero, List.set_cons_succ]
      refine anyX_take (i := 12) (v := ?_) rfl (by kernel_rfl) (by kernel_rfl) (by kernel_rfl) (by kernel_rfl) (fun _ _ _ h => h) (Or.inl ⟨by rfl, ?_⟩) (by assumption) ?_
      rotate_left
      · (intro w hSw; (try dsimp only at hSw); go_simp; (try with_reducible rfl))
      try simp only [Act.put, List.getElem_toArray, List.getElem_cons_zero, List.getElem_cons_succ, List.setIfInBounds_toArray, List.set_cons_zero, List.set_cons_succ]
      refine anyX_last (by kernel_rfl) rfl (fun K hK => ?_)
      go_simp
      (try dsimp only)
      refine hK.out _ _ ?_
      clear hK K
      try simp only [Act.put, List.getElem_toArray, List.getElem_cons_zero, List.getElem_cons_succ, List.setIfInBounds_toArray, List.set_cons_zero, List.set_cons_succ]
      refine anyX_done (by kernel_rfl) ?_ _
      clear hHeld ow owV hg6 hF6 hV hrx hzV hc5 q_p0 q_f0 q_p1 q_f1
      have o7 : Own (w6.setCell ⟨w1.heap.size, 1, none⟩ (.slice A6 (k + 1) c6)) (w1.heap.size + 1) w6.heap.size 43 3 (.slice A6 (k + 1) c6) (k + 1) ((L ++ [(⟨nx, x4, s5⟩ : FlightD)]).flatMap eFlight) := by
        rw [List.flatMap_append, List.flatMap_cons, List.flatMap_nil, List.append_nil]
        exact Own.keep o6 (show Kp _ _ _ _ by repeat' (first | with_reducible exact Kp.refl _ _ _ | with_reducible assumption | with_reducible refine Kp.set ?_ ?_ _ _ | with_reducible refine Kp.alloc ?_ ?_ _ | with_reducible refine Kp.drew ?_ | with_reducible refine Kp.drewN ?_ _ | with_reducible refine Kp.ext ?_ ?_ (by with_reducible assumption) | with_reducible refine Kp.fr ?_ ?_ ?_ (by with_reducible assumption) | omega | (simp; done) | (simp; omega)))
      have hz7 : w6.heap.size ≤ (w6.setCell ⟨w1.heap.size, 1, none⟩ (.slice A6 (k + 1) c6)).heap.size := by simp
      replace o7 := o7.wide (Nat.le_refl _) hz7
      replace y := y.far (h := w1.heap.size) (by omega) 1 (.slice A6 (k + 1) c6)
      have q7 := q.set 1 (.slice A6 (k + 1) c6)
      replace q := (show Blk _ _ _ [.int .i64 nx, .slice A6 (k + 1) c6] from q7)
      have hc7 := hc6.fr (Fr.cell1 (g := w1.heap.size) (j := 1) (.slice A6 (k + 1) c6)) (by omega)
      replace hFr := hFr.thenFr (Fr.cell1 (g := w1.heap.size) (j := 1) (.slice A6 (k + 1) c6)) (by omega)
      clear o6 q7 hc6
      generalize w6.setCell ⟨w1.heap.size, 1, none⟩ (.slice A6 (k + 1) c6) = w7 at *
      have hL2 : Hid ((L ++ [(⟨nx, x4, s5⟩ : FlightD)]).length = k + 1) := by show _ = _; rw [List.length_append, hL.out]; rfl
      obtain ⟨q_p0, q_f0⟩ := q.at 0 _ rfl
      go_upto_region 9 with (fail)
      refine region_anyX (x := 7) (S := (fun w' => w'.cell? ⟨w1.heap.size, 0, none⟩ = some (.int .i64 nx))) (by kernel_rfl) q_p0 (fun hHeld => ?_)
      refine anyX_take (i := 0) (v := ?_) rfl (by kernel_rfl) (by kernel_rfl) (by kernel_rfl) (by kernel_rfl) (fun _ _ _ h => h) (Or.inl ⟨by rfl, ?_⟩) (by assumption) ?_
      rotate_left
      · (intro w hSw; (try dsimp only at hSw); go_simp; (try with_reducible rfl))
      try simp only [Act.put, List.getElem_toArray, List.getElem_cons_zero, List.getElem_cons_succ, List.setIfInBounds_toArray, List.set_cons_zero, List.set_cons_succ]
      refine anyX_take (i := 1) (v := ?_) rfl (by kernel_rfl) (by kernel_rfl) (by kernel_rfl) (by kernel_rfl) (fun _ _ _ h => h) (Or.inl ⟨by rfl, ?_⟩) (by assumption) ?_
      rotate_left
      · (intro w hSw; (try dsimp only at hSw); go_simp; (try with_reducible rfl))
      try simp only [Act.put, List.getElem_toArray, List.getElem_cons_zero, List.getElem_cons_succ, List.setIfInBounds_toArray, List.set_cons_zero, List.set_cons_succ]
      refine anyX_take (i := 2) (v := ?_) rfl (by kernel_rfl) (by kernel_rfl) (by kernel_rfl) (by kernel_rfl) (fun _ _ _ h => h) (Or.inl ⟨by rfl, ?_⟩) (by assumption) ?_
      rotate_left
      · (intro w hSw; (try dsimp only at hSw); go_simp; (try with_reducible rfl))
      try simp only [Act.put, List.getElem_toArray, List.getElem_cons_zero, List.getElem_cons_succ, List.setIfInBounds_toArray, List.set_cons_zero, List.set_cons_succ]
      refine anyX_take (i := 3) (v := ?_) rfl (by kernel_rfl) (by kernel_rfl) (by kernel_rfl) (by kernel_rfl) (fun _ _ _ h => h) (Or.inl ⟨by rfl, ?_⟩) (by assumption) ?_
      rotate_left
      · (intro w hSw; (try dsimp only at hSw); go_simp; (try with_reducible rfl))
      try simp only [Act.put, List.getElem_toArray, List.getElem_cons_zero, List.getElem_cons_succ, List.setIfInBounds_toArray, List.set_cons_zero, List.set_cons_succ]
      refine anyX_one (i := 4) (by kernel_rfl) rfl (fun K hK => ?_)
      go_simp
      go_at_call 60
      refine (l1Below_s g _ _ (hc7.ext (Ext.refl _).drew) (by omega)).mono ?_
      rintro e w8 ⟨x8, rfl, -, -, hc8, hF8⟩
      (clear q_p0 q_f0)
      replace y := y.drew.fr hF8 (.inr (by omega))
      replace q := q.drew.fr hF8 (.inr (by omega))
      have hz8 : w7.heap.size ≤ w8.heap.size := hF8.size
      have o8 := (show Own w7.drew _ _ _ _ _ _ _ from o7).fr hF8 (.inr (by omega))
      replace hFr := (hFr.thenExt (Ext.refl _).drew).trans hF8
      obtain ⟨q_p0, q_f0⟩ := q.at 0 _ rfl
      clear hF8 hc7 o7
      (try dsimp only)
      refine hK.out _ _ q_p0 (fun hHeld => ?_)
      clear hK K
      try simp only [Act.put, List.getElem_toArray, List.getElem_cons_zero, List.getElem_cons_succ, List.setIfInBounds_toArray, List.set_cons_zero, List.set_cons_succ]
      refine anyX_take (i := 5) (v := ?_) rfl (by kernel_rfl) (by kernel_rfl) (by kernel_rfl) (by kernel_rfl) (fun _ _ _ h => h) (Or.inl ⟨by rfl, ?_⟩) (by assumption) ?_
      rotate_left
      · (intro w hSw; (try dsimp only at hSw); go_simp; (try with_reducible rfl))
      try simp only [Act.put, List.getElem_toArray, List.getElem_cons_zero, List.getElem_cons_succ, List.setIfInBounds_toArray, List.set_cons_zero, List.set_cons_succ]
      refine anyX_take (i := 6) (v := ?_) rfl (by kernel_rfl) (by kernel_rfl) (by kernel_rfl) (by kernel_rfl) (fun _ _ _ h => h) (Or.inl ⟨by rfl, ?_⟩) (by assumption) ?_
      rotate_left
      · (intro w hSw; (try dsimp only at hSw); go_simp; (try with_reducible rfl))
      try simp only [Act.put, List.getElem_toArray, List.getElem_cons_zero, List.getElem_cons_succ, List.setIfInBounds_toArray, List.set_cons_zero, List.set_cons_succ]
      refine anyX_last (by kernel_rfl) rfl (fun K hK => ?_)
      go_simp
      (try dsimp only)
      refine hK.out _ _ ?_
      clear hK K
      try simp only [Act.put, List.getElem_toArray, List.getElem_cons_zero, List.getElem_cons_succ, List.setIfInBounds_toArray, List.set_cons_zero, List.set_cons_succ]
      refine anyX_done (by kernel_rfl) ?_ _
      clear hHeld q_p0 q_f0
      go_wp2
      go_roundw
      case rel => exact ⟨k + 1, _, L ++ [(⟨nx, x4, s5⟩ : FlightD)], A6, c6, by omega, by go_num, y.far (h := w1.heap.size) (by omega) 0 _, q.set 0 _, hL2, (Own.keep o8 (show Kp _ _ _ _ by repeat' (first | with_reducible exact Kp.refl _ _ _ | with_reducible assumption | with_reducible refine Kp.set ?_ ?_ _ _ | with_reducible refine Kp.alloc ?_ ?_ _ | with_reducible refine Kp.drew ?_ | with_reducible refine Kp.drewN ?_ _ | with_reducible refine Kp.ext ?_ ?_ (by with_reducible assumption) | with_reducible refine Kp.fr ?_ ?_ ?_ (by with_reducible assumption) | omega | (simp; done) | (simp; omega)))).wide (Nat.le_refl _) (by simp; omega), hc8.fr (Fr.cell1 (g := w1.heap.size) (j := 0) _) (by omega), hFr.thenFr (Fr.cell1 (g := w1.heap.size) (j := 0) _) (by omega)⟩
      case measure => simp [intOf]; omega
    · obtain rfl : many = k := by omega
      go_wp2_with fail
      refine (l1Below_s g 25 _ hcr (by omega)).mono ?_
      rintro e w4 ⟨xx, rfl, -, -, hc4, hF4⟩
      have hz4 := hF4.size
      replace y := y.fr hF4 (.inr (by omega))
      replace q := q.fr hF4 (.inr (by omega))
      replace ow := ow.fr hF4 (.inr (by omega))
      replace hFr := hFr.trans hF4
      clear hF4 hcr
      have hLn := hL.out
      have hm1 : many + 1 ≤ maxLen := by unfold maxLen; omega
      have hm3 : (many + 1) * 32 ≤ 140737488355328 := by omega
      have hpos : 0 < 3 := by omega
      by_cases hx0 : xx = 0
      · subst hx0
        have hcell : ∀ j x, ([-1, 0, 1000000000, 1000000001] : List Int)[j]? = some x → (w4.alloc (.cells #[.int .i64 (-1), .int .i64 0, .int .i64 1000000000, .int .i64 1000000001] 3)).cell? ⟨w4.heap.size, j, none⟩ = some (.int .i64 x) := by
          intro j x hx
          rw [cell_of_row _ _ _ #[.int .i64 (-1), .int .i64 0, .int .i64 1000000000, .int .i64 1000000001] 3 (0, 0) (heap_alloc_new w4 _)]
          have hj := (List.getElem?_eq_some_iff.1 hx).1
          have hj4 : j < 4 := hj
          rcases (by omega : j = 0 ∨ j = 1 ∨ j = 2 ∨ j = 3) with rfl | rfl | rfl | rfl <;> simp_all
        have hA := (Ext.refl w4).alloc (.cells #[.int .i64 (-1), .int .i64 0, .int .i64 1000000000, .int .i64 1000000001] 3)
        obtain ⟨q_p0, q_f0⟩ := q.at 0 _ rfl
        obtain ⟨q_p1, q_f1⟩ := q.at 1 _ rfl
        go_wp2_with fail
        refine (l1PickInt_s g w4.heap.size [-1, 0, 1000000000, 1000000001] _ (hc4.ext hA) (by omega) (by simp) (by simp) hcell).mono ?_
        rintro e w5 ⟨x5, -, rfl, hc5, hF5⟩
        clear q_p0 q_f0 q_p1 q_f1
        clear hcell
        replace y := (y.ext hA).fr hF5 (.inr (by omega))
        replace q := (q.ext hA).fr hF5 (.inr (by omega))
        have hz5 := (hA.size)
        have hz6 := hF5.size
        replace ow := (hA.own ow (by omega)).fr hF5 (.inr (by omega))
        replace hFr := (hFr.thenExt hA).trans hF5
        clear hF5 hA hc4
        obtain ⟨q_p0, q_f0⟩ := q.at 0 _ rfl
        obtain ⟨q_p1, q_f1⟩ := q.at 1 _ rfl
        go_upto_region 17 with (fail)
        clear q_p0 q_f0 q_p1 q_f1
        replace y := y.far (h := w1.heap.size) (by omega) 0 (.int .i64 x5)
        have q7 := q.set 0 (.int .i64 x5)
        replace q := (show Blk _ _ _ [.int .i64 x5, .slice A' many c'] from q7)
        have hz7 : w5.heap.size ≤ (w5.setCell ⟨w1.heap.size, 0, none⟩ (.int .i64 x5)).heap.size := by simp
        replace ow := (Own.keep ow (show Kp _ _ w5 (w5.setCell ⟨w1.heap.size, 0, none⟩ (.int .i64 x5)) from (show Kp _ _ _ _ by repeat' (first | with_reducible exact Kp.refl _ _ _ | with_reducible assumption | with_reducible refine Kp.set ?_ ?_ _ _ | with_reducible refine Kp.alloc ?_ ?_ _ | with_reducible refine Kp.drew ?_ | with_reducible refine Kp.drewN ?_ _ | with_reducible refine Kp.ext ?_ ?_ (by with_reducible assumption) | with_reducible refine Kp.fr ?_ ?_ ?_ (by with_reducible assumption) | omega | (simp; done) | (simp; omega))))).wide (Nat.le_refl _) (show wr.heap.size ≤ (w5.setCell ⟨w1.heap.size, 0, none⟩ (.int .i64 x5)).heap.size by omega)
        have hc := hc5.fr (Fr.cell1 (g := w1.heap.size) (j := 0) (.int .i64 x5)) (by omega)
        replace hFr := hFr.thenFr (Fr.cell1 (g := w1.heap.size) (j := 0) (.int .i64 x5)) (by omega)
        clear q7 hc5
        generalize w5.setCell ⟨w1.heap.size, 0, none⟩ (.int .i64 x5) = w7 at *
        obtain ⟨y_p0, y_f0⟩ := y.at 0 _ rfl
        obtain ⟨y_p1, y_f1⟩ := y.at 1 _ rfl
        obtain ⟨q_p0, q_f0⟩ := q.at 0 _ rfl
        obtain ⟨q_p1, q_f1⟩ := q.at 1 _ rfl
        go_wp2
        exact bodyPost_ret (v := .agg #[.int .i64 x5, .slice A' (many) c']) (by simp [results, Try.results58, go_sem, y_p0, y_p1]) rfl ⟨_, ⟨x5, L⟩, rfl, ⟨_, rfl, (O_FlightS.keep (OwnS.of ow hLn) (show Kp _ _ _ _ by repeat' (first | with_reducible exact Kp.refl _ _ _ | with_reducible assumption | with_reducible refine Kp.set ?_ ?_ _ _ | with_reducible refine Kp.alloc ?_ ?_ _ | with_reducible refine Kp.drew ?_ | with_reducible refine Kp.drewN ?_ _ | with_reducible refine Kp.ext ?_ ?_ (by with_reducible assumption) | with_reducible refine Kp.fr ?_ ?_ ?_ (by with_reducible assumption) | omega | (simp; done) | (simp; omega)))).wide (by omega) (by first | omega | (simp; done) | (simp; omega))⟩, by first | (dsimp only; done) | (dsimp only; omega) | omega, (hc.fr (Fr.cell1 (g := w.heap.size) (j := 0) _) (by omega)).fr (Fr.cell1 (g := w.heap.size) (j := 1) _) (by omega), (hFr.thenFr (Fr.cell1 (g := w.heap.size) (j := 0) _) (by omega)).thenFr (Fr.cell1 (g := w.heap.size) (j := 1) _) (by omega)⟩
      · have hx0' : ((xx : Int) == 0) = false := by simp; omega
        by_cases hx1 : xx = 1
        · subst hx1
          obtain ⟨q_p0, q_f0⟩ := q.at 0 _ rfl
          obtain ⟨q_p1, q_f1⟩ := q.at 1 _ rfl
          go_upto_region 14 with (fail)
          refine region_anyX (x := 9) (S := (fun w' => w'.cell? ⟨w1.heap.size, 1, none⟩ = some (.slice A' many c'))) (by kernel_rfl) q_p1 (fun hHeld => ?_)
          refine anyX_take (i := 0) (v := ?_) rfl (by kernel_rfl) (by kernel_rfl) (by kernel_rfl) (by kernel_rfl) (fun _ _ _ h => h) (Or.inl ⟨by rfl, ?_⟩) (by assumption) ?_
          rotate_left
          · (intro w hSw; (try dsimp only at hSw); go_simp; (try with_reducible rfl))
          try simp only [Act.put, List.getElem_toArray, List.getElem_cons_zero, List.getElem_cons_succ, List.setIfInBounds_toArray, List.set_cons_zero, List.set_cons_succ]
          refine anyX_take (i := 1) (v := ?_) rfl (by kernel_rfl) (by kernel_rfl) (by kernel_rfl) (by kernel_rfl) (fun _ _ _ h => h) (Or.inl ⟨by rfl, ?_⟩) (by assumption) ?_
          rotate_left
          · (intro w hSw; (try dsimp only at hSw); go_simp; (try with_reducible rfl))
          try simp only [Act.put, List.getElem_toArray, List.getElem_cons_zero, List.getElem_cons_succ, List.setIfInBounds_toArray, List.set_cons_zero, List.set_cons_succ]
          refine anyX_take (i := 2) (v := ?_) rfl (by kernel_rfl) (by kernel_rfl) (by kernel_rfl) (by kernel_rfl) (fun _ _ _ h => h) (Or.inl ⟨by rfl, ?_⟩) (by assumption) ?_
          rotate_left
          · (intro w hSw; (try dsimp only at hSw); go_simp; (try with_reducible rfl))
          try simp only [Act.put, List.getElem_toArray, List.getElem_cons_zero, List.getElem_cons_succ, List.setIfInBounds_toArray, List.set_cons_zero, List.set_cons_succ]
          refine anyX_one (i := 3) (by kernel_rfl) rfl (fun K hK => ?_)
          go_simp
          go_at_call 60
          refine (l1Below_s g _ _ (hc4.ext (Ext.refl _).drew) (by omega)).mono ?_
          rintro e w5 ⟨x5, rfl, hx5, -, hc5, hF5⟩
          have hx5' := hx5 (by omega)
          have hwr : IntKind.i64.wrap ((x5 : Int) - 1) = (x5 : Int) - 1 := IntWalk.i64_in _ (by omega)
          (clear q_p0 q_f0 q_p1 q_f1 hx5)
          replace y := y.drew.fr hF5 (.inr (by omega))
          replace q := q.drew.fr hF5 (.inr (by omega))
          have hz5 : w4.heap.size ≤ w5.heap.size := hF5.size
          replace ow := (show Own w4.drew _ _ _ _ _ _ _ from ow).fr hF5 (.inr (by omega))
          replace hFr := (hFr.thenExt (Ext.refl _).drew).trans hF5
          obtain ⟨q_p0, q_f0⟩ := q.at 0 _ rfl
          obtain ⟨q_p1, q_f1⟩ := q.at 1 _ rfl
          clear hF5 hc4
          (try dsimp only)
          refine hK.out _ _ q_p1 (fun hHeld => ?_)
          clear hK K
          try simp only [Act.put, List.getElem_toArray, List.getElem_cons_zero, List.getElem_cons_succ, List.setIfInBounds_toArray, List.set_cons_zero, List.set_cons_succ]
          refine anyX_take (i := 4) (v := ?_) rfl (by kernel_rfl) (by kernel_rfl) (by kernel_rfl) (by kernel_rfl) (fun _ _ _ h => h) (Or.inl ⟨by rfl, ?_⟩) (by assumption) ?_
          rotate_left
          · (intro w hSw; (try dsimp only at hSw); go_simp; (try with_reducible rfl))
          try simp only [Act.put, List.getElem_toArray, List.getElem_cons_zero, List.getElem_cons_succ, List.setIfInBounds_toArray, List.set_cons_zero, List.set_cons_succ]
          refine anyX_take (i := 5) (v := ?_) rfl (by kernel_rfl) (by kernel_rfl) (by kernel_rfl) (by kernel_rfl) (fun _ _ _ h => h) (Or.inl ⟨by rfl, ?_⟩) (by assumption) ?_
          rotate_left
          · (intro w hSw; (try dsimp only at hSw); go_simp; (try with_reducible rfl))
          try simp only [Act.put, List.getElem_toArray, List.getElem_cons_zero, List.getElem_cons_succ, List.setIfInBounds_toArray, List.set_cons_zero, List.set_cons_succ]
          refine anyX_one (i := 6) (by kernel_rfl) rfl (fun K hK => ?_)
          go_simp
          (try dsimp only)
          refine hK.out _ _ (Ext.cellAt ((Ext.refl _).alloc _) q_p1) (fun hHeld => ?_)
          clear hK K
          try simp only [Act.put, List.getElem_toArray, List.getElem_cons_zero, List.getElem_cons_succ, List.setIfInBounds_toArray, List.set_cons_zero, List.set_cons_succ]
          have hV := (Ext.refl w5).alloc (.cells #[.int .i64 0, .int .i64 ((x5 : Int) - 1), .string ⟨#[]⟩] 43)
          have hrx := rd_new w5 [.int .i64 0, .int .i64 ((x5 : Int) - 1), .string ⟨#[]⟩] 43 3 rfl
          have owV := hV.own ow (by omega)
          have hzV : w5.heap.size + 1 = (w5.alloc (.cells #[.int .i64 0, .int .i64 ((x5 : Int) - 1), .string ⟨#[]⟩] 43)).heap.size := by simp
          refine anyX_one (i := 7) (by kernel_rfl) rfl (fun K hK => ?_)
          refine step_app1 (d := .tmp 49) (s := .tmp 54) ?_ ?_ 43 i0 (.agg #[.int .i64 0, .int .i64 0, .string ByteArray.empty]) 3 32 Try.underlying27 hi0 hz0 hz1 hz2 rfl hpos (w1.heap.size + 1) wr.heap.size (.slice A' many c') many (L.flatMap eFlight) ?_ owV (by omega) (by omega) (w5.heap.size + 1) (some ⟨w5.heap.size, 0, none⟩) 1 1 (eFlight ⟨0, (x5 : Int) - 1, ⟨#[]⟩⟩) ?_ (by exact hrx) (fun u hu => oneCell_Flight [⟨0, (x5 : Int) - 1, ⟨#[]⟩⟩] u (by simpa using hu)) hm1 hm3 ?_
          rfl
          rfl
          (focus (simp [Act.eval]; done))
          (focus (simp [Act.eval]; done))
          intro A6 c6 w6 o6 hg6
          have hF6 : Fr _ _ _ w6 := Fr.of_grown hg6 (fun g h => owV.lt g h)
          have hz6 := hF6.size
          (clear q_p0 q_f0 q_p1 q_f1)
          replace y := (y.ext hV).fr hF6 (.inl (by omega))
          replace q := (q.ext hV).fr hF6 (.inl (by omega))
          have hc6 := (hc5.ext hV).fr hF6 (by omega)
          replace hFr := (hFr.thenExt hV).thenFr hF6 (by omega)
          obtain ⟨q_p0, q_f0⟩ := q.at 0 _ rfl
          obtain ⟨q_p1, q_f1⟩ := q.at 1 _ rfl
          (try dsimp only)
          refine hK.out _ _ q_p1 (fun hHeld => ?_)
          clear hK K
          try simp only [Act.put, List.getElem_toArray, List.getElem_cons_zero, List.getElem_cons_succ, List.setIfInBounds_toArray, List.set_cons_zero, List.set_cons_succ]
          refine anyX_take (i := 8) (v := ?_) rfl (by kernel_rfl) (by kernel_rfl) (by kernel_rfl) (by kernel_rfl) (fun _ _ _ h => h) (Or.inl ⟨by rfl, ?_⟩) (by assumption) ?_
          rotate_left
          · (intro w hSw; (try dsimp only at hSw); go_simp; (try with_reducible rfl))
          try simp only [Act.put, List.getElem_toArray, List.getElem_cons_zero, List.getElem_cons_succ, List.setIfInBounds_toArray, List.set_cons_zero, List.set_cons_succ]
          refine anyX_last (by kernel_rfl) rfl (fun K hK => ?_)
          go_simp
          (try dsimp only)
          refine hK.out _ _ ?_
          clear hK K
          try simp only [Act.put, List.getElem_toArray, List.getElem_cons_zero, List.getElem_cons_succ, List.setIfInBounds_toArray, List.set_cons_zero, List.set_cons_succ]
          refine anyX_done (by kernel_rfl) ?_ _
          clear hHeld owV hg6 hF6 hV hrx hzV q_p0 q_f0 q_p1 q_f1
          have o7 : Own (w6.setCell ⟨w1.heap.size, 1, none⟩ (.slice A6 (many + 1) c6)) (w1.heap.size + 1) w6.heap.size 43 3 (.slice A6 (many + 1) c6) (many + 1) ((L ++ [(⟨0, (x5 : Int) - 1, ⟨#[]⟩⟩ : FlightD)]).flatMap eFlight) := by
            rw [List.flatMap_append, List.flatMap_cons, List.flatMap_nil, List.append_nil]
            exact Own.keep o6 (show Kp _ _ _ _ by repeat' (first | with_reducible exact Kp.refl _ _ _ | with_reducible assumption | with_reducible refine Kp.set ?_ ?_ _ _ | with_reducible refine Kp.alloc ?_ ?_ _ | with_reducible refine Kp.drew ?_ | with_reducible refine Kp.drewN ?_ _ | with_reducible refine Kp.ext ?_ ?_ (by with_reducible assumption) | with_reducible refine Kp.fr ?_ ?_ ?_ (by with_reducible assumption) | omega | (simp; done) | (simp; omega)))
          have hz7 : w6.heap.size ≤ (w6.setCell ⟨w1.heap.size, 1, none⟩ (.slice A6 (many + 1) c6)).heap.size := by simp
          replace o7 := o7.wide (Nat.le_refl _) hz7
          replace y := y.far (h := w1.heap.size) (by omega) 1 (.slice A6 (many + 1) c6)
          have q7 := q.set 1 (.slice A6 (many + 1) c6)
          replace q := (show Blk _ _ _ [.int .i64 nx, .slice A6 (many + 1) c6] from q7)
          have hc := hc6.fr (Fr.cell1 (g := w1.heap.size) (j := 1) (.slice A6 (many + 1) c6)) (by omega)
          replace hFr := hFr.thenFr (Fr.cell1 (g := w1.heap.size) (j := 1) (.slice A6 (many + 1) c6)) (by omega)
          clear o6 q7 hc6 ow
          have ow := o7
          clear o7
          generalize w6.setCell ⟨w1.heap.size, 1, none⟩ (.slice A6 (many + 1) c6) = w7 at *
          have hL2 : (L ++ [(⟨0, (x5 : Int) - 1, ⟨#[]⟩⟩ : FlightD)]).length = many + 1 := by rw [List.length_append, hL.out]; rfl
          obtain ⟨y_p0, y_f0⟩ := y.at 0 _ rfl
          obtain ⟨y_p1, y_f1⟩ := y.at 1 _ rfl
          obtain ⟨q_p0, q_f0⟩ := q.at 0 _ rfl
          obtain ⟨q_p1, q_f1⟩ := q.at 1 _ rfl
          go_wp2
          exact bodyPost_ret (v := .agg #[.int .i64 nx, .slice A6 (many + 1) c6]) (by simp [results, Try.results58, go_sem, y_p0, y_p1]) rfl ⟨_, ⟨nx, L ++ [(⟨0, (x5 : Int) - 1, ⟨#[]⟩⟩ : FlightD)]⟩, rfl, ⟨_, rfl, (O_FlightS.keep (OwnS.of ow hL2) (show Kp _ _ _ _ by repeat' (first | with_reducible exact Kp.refl _ _ _ | with_reducible assumption | with_reducible refine Kp.set ?_ ?_ _ _ | with_reducible refine Kp.alloc ?_ ?_ _ | with_reducible refine Kp.drew ?_ | with_reducible refine Kp.drewN ?_ _ | with_reducible refine Kp.ext ?_ ?_ (by with_reducible assumption) | with_reducible refine Kp.fr ?_ ?_ ?_ (by with_reducible assumption) | omega | (simp; done) | (simp; omega)))).wide (by omega) (by first | omega | (simp; done) | (simp; omega))⟩, by first | (dsimp only; done) | (dsimp only; omega) | omega, (hc.fr (Fr.cell1 (g := w.heap.size) (j := 0) _) (by omega)).fr (Fr.cell1 (g := w.heap.size) (j := 1) _) (by omega), (hFr.thenFr (Fr.cell1 (g := w.heap.size) (j := 0) _) (by omega)).thenFr (Fr.cell1 (g := w.heap.size) (j := 1) _) (by omega)⟩
        · have hx1' : ((xx : Int) == 1) = false := by simp; omega
          by_cases hx2 : xx = 2
          · subst hx2
            obtain ⟨d, hd⟩ : ∃ d, IntKind.i64.wrap (nx - 1) = d := ⟨_, rfl⟩
            obtain ⟨q_p0, q_f0⟩ := q.at 0 _ rfl
            obtain ⟨q_p1, q_f1⟩ := q.at 1 _ rfl
            go_upto_region 16 with (fail)
            refine region_anyX (x := 11) (S := (fun w' => w'.cell? ⟨w1.heap.size, 0, none⟩ = some (.int .i64 nx) ∧ w'.cell? ⟨w1.heap.size, 1, none⟩ = some (.slice A' many c'))) (by kernel_rfl) ⟨q_p0, q_p1⟩ (fun hHeld => ?_)
            refine anyX_take (i := 0) (v := ?_) rfl (by kernel_rfl) (by kernel_rfl) (by kernel_rfl) (by kernel_rfl) (fun _ _ _ h => h) (Or.inl ⟨by rfl, ?_⟩) (by assumption) ?_
            rotate_left
            · (intro w hSw; (try dsimp only at hSw); go_simp; (try with_reducible rfl))
            try simp only [Act.put, List.getElem_toArray, List.getElem_cons_zero, List.getElem_cons_succ, List.setIfInBounds_toArray, List.set_cons_zero, List.set_cons_succ]
            refine anyX_take (i := 1) (v := ?_) rfl (by kernel_rfl) (by kernel_rfl) (by kernel_rfl) (by kernel_rfl) (fun _ _ _ h => h) (Or.inl ⟨by rfl, ?_⟩) (by assumption) ?_
            rotate_left
            · (intro w hSw; (try dsimp only at hSw); go_simp; (try with_reducible rfl))
            try simp only [Act.put, List.getElem_toArray, List.getElem_cons_zero, List.getElem_cons_succ, List.setIfInBounds_toArray, List.set_cons_zero, List.set_cons_succ]
            refine anyX_take (i := 2) (v := ?_) rfl (by kernel_rfl) (by kernel_rfl) (by kernel_rfl) (by kernel_rfl) (fun _ _ _ h => h) (Or.inl ⟨by rfl, ?_⟩) (by assumption) ?_
            rotate_left
            · (intro w hSw; (try dsimp only at hSw); go_simp; (try with_reducible rfl))
            try simp only [Act.put, List.getElem_toArray, List.getElem_cons_zero, List.getElem_cons_succ, List.setIfInBounds_toArray, List.set_cons_zero, List.set_cons_succ]
            refine anyX_take (i := 3) (v := ?_) rfl (by kernel_rfl) (by kernel_rfl) (by kernel_rfl) (by kernel_rfl) (fun _ _ _ h => h) (Or.inl ⟨by rfl, ?_⟩) (by assumption) ?_
            rotate_left
            · (intro w hSw; (try dsimp only at hSw); go_simp; (try with_reducible rfl))
            try simp only [Act.put, List.getElem_toArray, List.getElem_cons_zero, List.getElem_cons_succ, List.setIfInBounds_toArray, List.set_cons_zero, List.set_cons_succ]
            refine anyX_take (i := 4) (v := ?_) rfl (by kernel_rfl) (by kernel_rfl) (by kernel_rfl) (by kernel_rfl) (fun _ _ _ h => h) (Or.inl ⟨by rfl, ?_⟩) (by assumption) ?_
            rotate_left
            · (intro w hSw; (try dsimp only at hSw); go_simp; (try with_reducible rfl))
            try simp only [Act.put, List.getElem_toArray, List.getElem_cons_zero, List.getElem_cons_succ, List.setIfInBounds_toArray, List.set_cons_zero, List.set_cons_succ]
            refine anyX_take (i := 5) (v := ?_) rfl (by kernel_rfl) (by kernel_rfl) (by kernel_rfl) (by kernel_rfl) (fun _ _ _ h => h) (Or.inl ⟨by rfl, ?_⟩) (by assumption) ?_
            rotate_left
            · (intro w hSw; (try dsimp only at hSw); go_simp; (try with_reducible rfl))
            try simp only [Act.put, List.getElem_toArray, List.getElem_cons_zero, List.getElem_cons_succ, List.setIfInBounds_toArray, List.set_cons_zero, List.set_cons_succ]
            refine anyX_one (i := 6) (by kernel_rfl) rfl (fun K hK => ?_)
            go_simp
            go_at_call 71
            refine (l5DrawText_s g _ (hc4.ext (Ext.refl _).drew)).mono ?_
            rintro e w5 ⟨s5, rfl, hc5, hF5⟩
            (clear q_p0 q_f0 q_p1 q_f1)
            replace y := y.drew.fr hF5 (.inr (by omega))
            replace q := q.drew.fr hF5 (.inr (by omega))
            have hz5 : w4.heap.size ≤ w5.heap.size := hF5.size
            replace ow := (show Own w4.drew _ _ _ _ _ _ _ from ow).fr hF5 (.inr (by omega))
            replace hFr := (hFr.thenExt (Ext.refl _).drew).trans hF5
            obtain ⟨q_p0, q_f0⟩ := q.at 0 _ rfl
            obtain ⟨q_p1, q_f1⟩ := q.at 1 _ rfl
            clear hF5 hc4
            (try dsimp only)
            refine hK.out _ _ ⟨q_p0, q_p1⟩ (fun hHeld => ?_)
            clear hK K
            try simp only [Act.put, List.getElem_toArray, List.getElem_cons_zero, List.getElem_cons_succ, List.setIfInBounds_toArray, List.set_cons_zero, List.set_cons_succ]
            refine anyX_take (i := 7) (v := ?_) rfl (by kernel_rfl) (by kernel_rfl) (by kernel_rfl) (by kernel_rfl) (fun _ _ _ h => h) (Or.inl ⟨by rfl, ?_⟩) (by assumption) ?_
            rotate_left
            · (intro w hSw; (try dsimp only at hSw); go_simp; (try with_reducible rfl))
            try simp only [Act.put, List.getElem_toArray, List.getElem_cons_zero, List.getElem_cons_succ, List.setIfInBounds_toArray, List.set_cons_zero, List.set_cons_succ]
            refine anyX_one (i := 8) (by kernel_rfl) rfl (fun K hK => ?_)
            go_simp
            (try dsimp only)
            refine hK.out _ _ ⟨Ext.cellAt ((Ext.refl _).alloc _) q_p0, Ext.cellAt ((Ext.refl _).alloc _) q_p1⟩ (fun hHeld => ?_)
            clear hK K
            try simp only [Act.put, List.getElem_toArray, List.getElem_cons_zero, List.getElem_cons_succ, List.setIfInBounds_toArray, List.set_cons_zero, List.set_cons_succ]
            have hV := (Ext.refl w5).alloc (.cells #[.int .i64 d, .int .i64 0, .string s5] 43)
            have hrx := rd_new w5 [.int .i64 d, .int .i64 0, .string s5] 43 3 rfl
            have owV := hV.own ow (by omega)
            have hzV : w5.heap.size + 1 = (w5.alloc (.cells #[.int .i64 d, .int .i64 0, .string s5] 43)).heap.size := by simp
            refine anyX_one (i := 9) (by kernel_rfl) rfl (fun K hK => ?_)
            refine step_app1 (d := .tmp 60) (s := .tmp 67) ?_ ?_ 43 i0 (.agg #[.int .i64 0, .int .i64 0, .string ByteArray.empty]) 3 32 Try.underlying27 hi0 hz0 hz1 hz2 rfl hpos (w1.heap.size + 1) wr.heap.size (.slice A' many c') many (L.flatMap eFlight) ?_ owV (by omega) (by omega) (w5.heap.size + 1) (some ⟨w5.heap.size, 0, none⟩) 1 1 (eFlight ⟨d, 0, s5⟩) ?_ (by exact hrx) (fun u hu => oneCell_Flight [⟨d, 0, s5⟩] u (by simpa using hu)) hm1 hm3 ?_
            rfl
            rfl
            (focus (simp [Act.eval]; done))
            (focus (simp [Act.eval]; done))
            intro A6 c6 w6 o6 hg6
            have hF6 : Fr _ _ _ w6 := Fr.of_grown hg6 (fun g h => owV.lt g h)
            have hz6 := hF6.size
            (clear q_p0 q_f0 q_p1 q_f1)
            replace y := (y.ext hV).fr hF6 (.inl (by omega))
            replace q := (q.ext hV).fr hF6 (.inl (by omega))
            have hc6 := (hc5.ext hV).fr hF6 (by omega)
            replace hFr := (hFr.thenExt hV).thenFr hF6 (by omega)
            obtain ⟨q_p0, q_f0⟩ := q.at 0 _ rfl
            obtain ⟨q_p1, q_f1⟩ := q.at 1 _ rfl
            (try dsimp only)
            refine hK.out _ _ ⟨q_p0, q_p1⟩ (fun hHeld => ?_)
            clear hK K
            try simp only [Act.put, List.getElem_toArray, List.getElem_cons_zero, List.getElem_cons_succ, List.setIfInBounds_toArray, List.set_cons_zero, List.set_cons_succ]
            refine anyX_take (i := 10) (v := ?_) rfl (by kernel_rfl) (by kernel_rfl) (by kernel_rfl) (by kernel_rfl) (fun _ _ _ h => h) (Or.inl ⟨by rfl, ?_⟩) (by assumption) ?_
            rotate_left
            · (intro w hSw; (try dsimp only at hSw); go_simp; (try with_reducible rfl))
            try simp only [Act.put, List.getElem_toArray, List.getElem_cons_zero, List.getElem_cons_succ, List.setIfInBounds_toArray, List.set_cons_zero, List.set_cons_succ]
            refine anyX_last (by kernel_rfl) rfl (fun K hK => ?_)
            go_simp
            (try dsimp only)
            refine hK.out _ _ ?_
            clear hK K
            try simp only [Act.put, List.getElem_toArray, List.getElem_cons_zero, List.getElem_cons_succ, List.setIfInBounds_toArray, List.set_cons_zero, List.set_cons_succ]
            refine anyX_done (by kernel_rfl) ?_ _
            clear hHeld owV hg6 hF6 hV hrx hzV q_p0 q_f0 q_p1 q_f1
            have o7 : Own (w6.setCell ⟨w1.heap.size, 1, none⟩ (.slice A6 (many + 1) c6)) (w1.heap.size + 1) w6.heap.size 43 3 (.slice A6 (many + 1) c6) (many + 1) ((L ++ [(⟨d, 0, s5⟩ : FlightD)]).flatMap eFlight) := by
              rw [List.flatMap_append, List.flatMap_cons, List.flatMap_nil, List.append_nil]
              exact Own.keep o6 (show Kp _ _ _ _ by repeat' (first | with_reducible exact Kp.refl _ _ _ | with_reducible assumption | with_reducible refine Kp.set ?_ ?_ _ _ | with_reducible refine Kp.alloc ?_ ?_ _ | with_reducible refine Kp.drew ?_ | with_reducible refine Kp.drewN ?_ _ | with_reducible refine Kp.ext ?_ ?_ (by with_reducible assumption) | with_reducible refine Kp.fr ?_ ?_ ?_ (by with_reducible assumption) | omega | (simp; done) | (simp; omega)))
            have hz7 : w6.heap.size ≤ (w6.setCell ⟨w1.heap.size, 1, none⟩ (.slice A6 (many + 1) c6)).heap.size := by simp
            replace o7 := o7.wide (Nat.le_refl _) hz7
            replace y := y.far (h := w1.heap.size) (by omega) 1 (.slice A6 (many + 1) c6)
            have q7 := q.set 1 (.slice A6 (many + 1) c6)
            replace q := (show Blk _ _ _ [.int .i64 nx, .slice A6 (many + 1) c6] from q7)
            have hc := hc6.fr (Fr.cell1 (g := w1.heap.size) (j := 1) (.slice A6 (many + 1) c6)) (by omega)
            replace hFr := hFr.thenFr (Fr.cell1 (g := w1.heap.size) (j := 1) (.slice A6 (many + 1) c6)) (by omega)
            clear o6 q7 hc6 ow
            have ow := o7
            clear o7
            generalize w6.setCell ⟨w1.heap.size, 1, none⟩ (.slice A6 (many + 1) c6) = w7 at *
            have hL2 : (L ++ [(⟨d, 0, s5⟩ : FlightD)]).length = many + 1 := by rw [List.length_append, hL.out]; rfl
            obtain ⟨y_p0, y_f0⟩ := y.at 0 _ rfl
            obtain ⟨y_p1, y_f1⟩ := y.at 1 _ rfl
            obtain ⟨q_p0, q_f0⟩ := q.at 0 _ rfl
            obtain ⟨q_p1, q_f1⟩ := q.at 1 _ rfl
            go_wp2
            exact bodyPost_ret (v := .agg #[.int .i64 nx, .slice A6 (many + 1) c6]) (by simp [results, Try.results58, go_sem, y_p0, y_p1]) rfl ⟨_, ⟨nx, L ++ [(⟨d, 0, s5⟩ : FlightD)]⟩, rfl, ⟨_, rfl, (O_FlightS.keep (OwnS.of ow hL2) (show Kp _ _ _ _ by repeat' (first | with_reducible exact Kp.refl _ _ _ | with_reducible assumption | with_reducible refine Kp.set ?_ ?_ _ _ | with_reducible refine Kp.alloc ?_ ?_ _ | with_reducible refine Kp.drew ?_ | with_reducible refine Kp.drewN ?_ _ | with_reducible refine Kp.ext ?_ ?_ (by with_reducible assumption) | with_reducible refine Kp.fr ?_ ?_ ?_ (by with_reducible assumption) | omega | (simp; done) | (simp; omega)))).wide (by omega) (by first | omega | (simp; done) | (simp; omega))⟩, by first | (dsimp only; done) | (dsimp only; omega) | omega, (hc.fr (Fr.cell1 (g := w.heap.size) (j := 0) _) (by omega)).fr (Fr.cell1 (g := w.heap.size) (j := 1) _) (by omega), (hFr.thenFr (Fr.cell1 (g := w.heap.size) (j := 0) _) (by omega)).thenFr (Fr.cell1 (g := w.heap.size) (j := 1) _) (by omega)⟩
          · have hx2' : ((xx : Int) == 2) = false := by simp; omega
            have hc := hc4
            clear hc4
            go_upto_region 17 with (fail)
            obtain ⟨y_p0, y_f0⟩ := y.at 0 _ rfl
            obtain ⟨y_p1, y_f1⟩ := y.at 1 _ rfl
            obtain ⟨q_p0, q_f0⟩ := q.at 0 _ rfl
            obtain ⟨q_p1, q_f1⟩ := q.at 1 _ rfl
            go_wp2
            exact bodyPost_ret (v := .agg #[.int .i64 nx, .slice A' (many) c']) (by simp [results, Try.results58, go_sem, y_p0, y_p1]) rfl ⟨_, ⟨nx, L⟩, rfl, ⟨_, rfl, (O_FlightS.keep (OwnS.of ow hLn) (show Kp _ _ _ _ by repeat' (first | with_reducible exact Kp.refl _ _ _ | with_reducible assumption | with_reducible refine Kp.set ?_ ?_ _ _ | with_reducible refine Kp.alloc ?_ ?_ _ | with_reducible refine Kp.drew ?_ | with_reducible refine Kp.drewN ?_ _ | with_reducible refine Kp.ext ?_ ?_ (by with_reducible assumption) | with_reducible refine Kp.fr ?_ ?_ ?_ (by with_reducible assumption) | omega | (simp; done) | (simp; omega)))).wide (by omega) (by first | omega | (simp; done) | (simp; omega))⟩, by first | (dsimp only; done) | (dsimp only; omega) | omega, (hc.fr (Fr.cell1 (g := w.heap.size) (j := 0) _) (by omega)).fr (Fr.cell1 (g := w.heap.size) (j := 1) _) (by omega), (hFr.thenFr (Fr.cell1 (g := w.heap.size) (j := 0) _) (by omega)).thenFr (Fr.cell1 (g := w.heap.size) (j := 1) _) (by omega)⟩

end Go.Proofs.Ytllljddojncemaa
